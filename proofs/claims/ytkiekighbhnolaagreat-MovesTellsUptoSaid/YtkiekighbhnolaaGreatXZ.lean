/- Walks of functions. -/
import Derived.Test.YtkiekighbhnolaaGreatXY
set_option maxRecDepth 100000
set_option maxHeartbeats 1000000
set_option linter.unusedVariables false
set_option linter.unusedSimpArgs false
namespace Go.Proofs.YtkiekighbhnolaaGreat
open Go.RowKit

theorem aE {f:FuncId} {fn:Func} {TLL TL:TypeId} {p0 p1 p2 p3 p4 p5 p6 p7 p8 p9 p q r s t u v w x y z b0 b1 b2 b3 b4 b5 b6 b7 b8 b9:String} {a0 a1 a2 a3 a4 a5 a6 a7 a8 a9 a10 a11 a12 a13 a14 a15 a16 a17 a18 a19 a20 a21 a22 a23 a24 a25 a26 a27 a28 a29 a30:Array Edge} {x0 x1 x2 x3 x4:Code} (hf:Ep.funcs[f]? = some fn) (hb:fn.body=some (.seq (.region 0 #[⟨some 2,.assign (.const (.bool false)),4,p0,a0,none⟩] false) (.seq (.seq (.region 1 #[⟨some 3,.assign (.const E0),3,p1,a1,none⟩] false) (.block 0 (.loop (.seq (.seq (.region 2 #[⟨some 16,.move (.tmp 3),3,p2,a2,none⟩,⟨some 17,.move (.tmp 0),TLL,p3,a3,none⟩,⟨some 18,.call { callee:=.builtin .len,args:=#[(.tmp 17)],argTypes:=#[TLL] },3,p4,a4,none⟩,⟨some 19,.binOp .lss 3 (.tmp 16) (.tmp 18) 3,4,p5,a5,none⟩] false) (.cond (.tmp 19) .skip (.exit 0))) x0)))) (.seq (.region 8 #[⟨some 40,.move (.tmp 0),TLL,p6,a6,none⟩,⟨some 41,.call { callee:=.builtin .len,args:=#[(.tmp 40)],argTypes:=#[TLL] },3,p7,a7,none⟩,⟨some 42,.makeSlice TLL (.tmp 41) (.tmp 41),TLL,p8,a8,none⟩,⟨some 5,.assign (.tmp 42),TLL,p9,a9,none⟩] false) (.seq (.seq (.region 9 #[⟨some 6,.assign (.const E0),3,p,a10,none⟩] false) (.block 4 (.loop (.seq (.seq (.region 10 #[⟨some 43,.move (.tmp 6),3,q,a11,none⟩,⟨some 44,.move (.tmp 0),TLL,r,a12,none⟩,⟨some 45,.call { callee:=.builtin .len,args:=#[(.tmp 44)],argTypes:=#[TLL] },3,s,a13,none⟩,⟨some 46,.binOp .lss 3 (.tmp 43) (.tmp 45) 3,4,t,a14,none⟩] false) (.cond (.tmp 46) .skip (.exit 4))) x1)))) (.seq (.seq (.region 18 #[⟨some 9,.assign (.const E0),3,u,a15,none⟩] false) (.block 8 (.loop (.seq (.seq (.region 19 #[⟨some 73,.move (.tmp 9),3,v,a16,none⟩,⟨some 74,.move (.tmp 0),TLL,w,a17,none⟩,⟨some 75,.call { callee:=.builtin .len,args:=#[(.tmp 74)],argTypes:=#[TLL] },3,x,a18,none⟩,⟨some 76,.binOp .lss 3 (.tmp 73) (.tmp 75) 3,4,y,a19,none⟩] false) (.cond (.tmp 76) .skip (.exit 8))) x2)))) (.seq (.seq (.region 26 #[⟨some 11,.assign (.const E0),3,z,a20,none⟩] false) (.block 12 (.loop (.seq (.seq (.region 27 #[⟨some 123,.move (.tmp 11),3,b0,a21,none⟩,⟨some 124,.move (.tmp 0),TLL,b1,a22,none⟩,⟨some 125,.call { callee:=.builtin .len,args:=#[(.tmp 124)],argTypes:=#[TLL] },3,b2,a23,none⟩,⟨some 126,.binOp .lss 3 (.tmp 123) (.tmp 125) 3,4,b3,a24,none⟩] false) (.cond (.tmp 126) .skip (.exit 12))) x3)))) (.seq (.seq (.region 35 #[⟨some 14,.assign (.const E0),3,b4,a25,none⟩] false) (.block 16 (.loop (.seq (.seq (.region 36 #[⟨some 152,.move (.tmp 14),3,b5,a26,none⟩,⟨some 153,.move (.tmp 0),TLL,b6,a27,none⟩,⟨some 154,.call { callee:=.builtin .len,args:=#[(.tmp 153)],argTypes:=#[TLL] },3,b7,a28,none⟩,⟨some 155,.binOp .lss 3 (.tmp 152) (.tmp 154) 3,4,b8,a29,none⟩] false) (.cond (.tmp 155) .skip (.exit 16))) x4)))) (.seq (.region 43 #[⟨some 2,.assign (.const (.bool true)),4,b9,a30,none⟩] false) .ret))))))))) (hres:fn.results=#[.tmp 2]) (hn:fn.ntmps=193) (hT:sliceB Ep TLL TL 1=true) (hE:Qh Ep TL 1 24=true):Pure Ep f [.sc (.slice none 0 0)] (·=BL true):=by
 refine Gy [.tmp 2] hf hb hres ?_;rw [hn];refine Jr fun c0=>(JLm (BL false) G (G6 (c0 (Js fun d=>Jr fun g=>(JLm (I64 0) G (G6 (g (Gf (fE (X:=Unit) (fun _=>True) (fun _=>[(0,.sc (.slice none 0 0)),(3,I64 0)]) (fun _=>[]) (fun _=>0) () U ⟨(.sm G G),U,G⟩ ?_)))))))));rintro⟨⟩ - K e;refine Js fun b=>Jr fun a=>(JLm (I64 0) G (JLm (.sc (.slice none 0 0)) G (JLh (I64 ((0:Nat):Int)) (wR G hT G) G (JLh (BL (decide ((0:Int) < ((0:Nat):Int)))) (Hs G G G) G (G6 (a (Gh rfl (fun hb=>absurd hb (by decide)) (fun hb=>H9 (d (Jr fun c1=>(JLm (.sc (.slice none 0 0)) G (JLh (I64 ((0:Nat):Int)) (wR G hT G) G (JLh (.own 1 0 1 []) (pY (c:=0) 1 G G G G hT hE G G G) G (JLm (.own 1 0 1 []) G (G6 (c1 (Js fun h=>Jr fun i=>(JLm (I64 0) G (G6 (i (Gf (fE (X:=Unit) (fun _=>True) (fun _=>[(0,.sc (.slice none 0 0)),(6,I64 0)]) (fun _=>[]) (fun _=>0) () U ⟨(.sm G G),U,G⟩ ?_))))))))))))))))))))));rintro⟨⟩ - K e;refine Js fun b=>Jr fun a=>(JLm (I64 0) G (JLm (.sc (.slice none 0 0)) G (JLh (I64 ((0:Nat):Int)) (wR G hT G) G (JLh (BL (decide ((0:Int) < ((0:Nat):Int)))) (Hs G G G) G (G6 (a (Gh rfl (fun hb=>absurd hb (by decide)) (fun hb=>H9 (h (Js fun j=>Jr fun k=>(JLm (I64 0) G (G6 (k (Gf (fE (X:=Unit) (fun _=>True) (fun _=>[(0,.sc (.slice none 0 0)),(9,I64 0)]) (fun _=>[]) (fun _=>0) () U ⟨(.sm G G),U,G⟩ ?_)))))))))))))));rintro⟨⟩ - K e;refine Js fun b=>Jr fun a=>(JLm (I64 0) G (JLm (.sc (.slice none 0 0)) G (JLh (I64 ((0:Nat):Int)) (wR G hT G) G (JLh (BL (decide ((0:Int) < ((0:Nat):Int)))) (Hs G G G) G (G6 (a (Gh rfl (fun hb=>absurd hb (by decide)) (fun hb=>H9 (j (Js fun l=>Jr fun m=>(JLm (I64 0) G (G6 (m (Gf (fE (X:=Unit) (fun _=>True) (fun _=>[(0,.sc (.slice none 0 0)),(11,I64 0)]) (fun _=>[]) (fun _=>0) () U ⟨(.sm G G),U,G⟩ ?_)))))))))))))));rintro⟨⟩ - K e;refine Js fun b=>Jr fun a=>(JLm (I64 0) G (JLm (.sc (.slice none 0 0)) G (JLh (I64 ((0:Nat):Int)) (wR G hT G) G (JLh (BL (decide ((0:Int) < ((0:Nat):Int)))) (Hs G G G) G (G6 (a (Gh rfl (fun hb=>absurd hb (by decide)) (fun hb=>H9 (l (Js fun n=>Jr fun o=>(JLm (I64 0) G (G6 (o (Gf (fE (X:=Unit) (fun _=>True) (fun _=>[(0,.sc (.slice none 0 0)),(14,I64 0)]) (fun _=>[]) (fun _=>0) () U ⟨(.sm G G),U,G⟩ ?_)))))))))))))));rintro⟨⟩ - K e;refine Js fun b=>Jr fun a=>(JLm (I64 0) G (JLm (.sc (.slice none 0 0)) G (JLh (I64 ((0:Nat):Int)) (wR G hT G) G (JLh (BL (decide ((0:Int) < ((0:Nat):Int)))) (Hs G G G) G (G6 (a (Gh rfl (fun hb=>absurd hb (by decide)) (fun hb=>H9 (n (Jr fun c2=>(JLm (BL true) G (G6 (c2 (Gr (⟨[BL true],[],U,G,⟨⟨_,G,.conv (.same G)⟩,U⟩,G,G⟩)))))))))))))))
namespace APF
theorem sl0:sliceB Ep 35 57 1=true:=zR
theorem cl0:Gz Ep 91=true:=zR
theorem fd0:Jf Ep 122 0 0=true:=zR
theorem sc0:Jg Ep 35=true:=zR
theorem el0:Qh Ep 57 1 24=true:=zR
theorem fl0:Pure Ep 91 [.sc (.slice none 0 0)] (·=BL true):=aE Tryz.func91 rfl rfl rfl sl0 el0
theorem sl1:sliceB Ep 103 225 1=true:=zR
theorem cl1:Gz Ep 92=true:=zR
theorem fd1:Jf Ep 122 1 1=true:=zR
theorem sc1:Jg Ep 103=true:=zR
theorem el1:Qh Ep 225 1 24=true:=zR
theorem fl1:Pure Ep 92 [.sc (.slice none 0 0)] (·=BL true):=aE Tryz.func92 rfl rfl rfl sl1 el1
theorem sl2:sliceB Ep 104 227 1=true:=zR
theorem cl2:Gz Ep 93=true:=zR
theorem fd2:Jf Ep 122 2 2=true:=zR
theorem sc2:Jg Ep 104=true:=zR
theorem el2:Qh Ep 227 1 24=true:=zR
theorem fl2:Pure Ep 93 [.sc (.slice none 0 0)] (·=BL true):=aE Tryz.func93 rfl rfl rfl sl2 el2
theorem sl3:sliceB Ep 105 22 1=true:=zR
theorem cl3:Gz Ep 94=true:=zR
theorem fd3:Jf Ep 122 3 3=true:=zR
theorem sc3:Jg Ep 105=true:=zR
theorem el3:Qh Ep 22 1 24=true:=zR
theorem fl3:Pure Ep 94 [.sc (.slice none 0 0)] (·=BL true):=aE Tryz.func94 rfl rfl rfl sl3 el3
theorem sl4:sliceB Ep 106 23 1=true:=zR
theorem cl4:Gz Ep 95=true:=zR
theorem fd4:Jf Ep 122 4 4=true:=zR
theorem sc4:Jg Ep 106=true:=zR
theorem el4:Qh Ep 23 1 24=true:=zR
theorem fl4:Pure Ep 95 [.sc (.slice none 0 0)] (·=BL true):=aE Tryz.func95 rfl rfl rfl sl4 el4
theorem sl5:sliceB Ep 107 26 1=true:=zR
theorem cl5:Gz Ep 96=true:=zR
theorem fd5:Jf Ep 122 5 5=true:=zR
theorem sc5:Jg Ep 107=true:=zR
theorem el5:Qh Ep 26 1 24=true:=zR
theorem fl5:Pure Ep 96 [.sc (.slice none 0 0)] (·=BL true):=aE Tryz.func96 rfl rfl rfl sl5 el5
theorem sl6:sliceB Ep 108 27 1=true:=zR
theorem cl6:Gz Ep 97=true:=zR
theorem fd6:Jf Ep 122 6 6=true:=zR
theorem sc6:Jg Ep 108=true:=zR
theorem el6:Qh Ep 27 1 24=true:=zR
theorem fl6:Pure Ep 97 [.sc (.slice none 0 0)] (·=BL true):=aE Tryz.func97 rfl rfl rfl sl6 el6
theorem sl7:sliceB Ep 109 28 1=true:=zR
theorem cl7:Gz Ep 98=true:=zR
theorem fd7:Jf Ep 122 7 7=true:=zR
theorem sc7:Jg Ep 109=true:=zR
theorem el7:Qh Ep 28 1 24=true:=zR
theorem fl7:Pure Ep 98 [.sc (.slice none 0 0)] (·=BL true):=aE Tryz.func98 rfl rfl rfl sl7 el7
theorem sl8:sliceB Ep 110 229 1=true:=zR
theorem cl8:Gz Ep 99=true:=zR
theorem fd8:Jf Ep 122 8 8=true:=zR
theorem sc8:Jg Ep 110=true:=zR
theorem el8:Qh Ep 229 1 24=true:=zR
theorem fl8:Pure Ep 99 [.sc (.slice none 0 0)] (·=BL true):=aE Tryz.func99 rfl rfl rfl sl8 el8
theorem sl9:sliceB Ep 111 202 1=true:=zR
theorem cl9:Gz Ep 100=true:=zR
theorem fd9:Jf Ep 122 9 9=true:=zR
theorem sc9:Jg Ep 111=true:=zR
theorem el9:Qh Ep 202 1 24=true:=zR
theorem fl9:Pure Ep 100 [.sc (.slice none 0 0)] (·=BL true):=aE Tryz.func100 rfl rfl rfl sl9 el9
theorem sl10:sliceB Ep 112 33 1=true:=zR
theorem cl10:Gz Ep 101=true:=zR
theorem fd10:Jf Ep 122 10 10=true:=zR
theorem sc10:Jg Ep 112=true:=zR
theorem el10:Qh Ep 33 1 24=true:=zR
theorem fl10:Pure Ep 101 [.sc (.slice none 0 0)] (·=BL true):=aE Tryz.func101 rfl rfl rfl sl10 el10
theorem sl11:sliceB Ep 34 41 1=true:=zR
theorem cl11:Gz Ep 102=true:=zR
theorem fd11:Jf Ep 122 11 11=true:=zR
theorem sc11:Jg Ep 34=true:=zR
theorem el11:Qh Ep 41 1 24=true:=zR
theorem fl11:Pure Ep 102 [.sc (.slice none 0 0)] (·=BL true):=aE Tryz.func102 rfl rfl rfl sl11 el11
theorem sl12:sliceB Ep 113 34 1=true:=zR
theorem cl12:Gz Ep 103=true:=zR
theorem fd12:Jf Ep 122 12 12=true:=zR
theorem sc12:Jg Ep 113=true:=zR
theorem el12:Qh Ep 34 1 24=true:=zR
theorem fl12:Pure Ep 103 [.sc (.slice none 0 0)] (·=BL true):=aE Tryz.func103 rfl rfl rfl sl12 el12
theorem sl13:sliceB Ep 114 35 1=true:=zR
theorem cl13:Gz Ep 104=true:=zR
theorem fd13:Jf Ep 122 13 13=true:=zR
theorem sc13:Jg Ep 114=true:=zR
theorem el13:Qh Ep 35 1 24=true:=zR
theorem fl13:Pure Ep 104 [.sc (.slice none 0 0)] (·=BL true):=aE Tryz.func104 rfl rfl rfl sl13 el13
theorem sl14:sliceB Ep 115 232 1=true:=zR
theorem cl14:Gz Ep 105=true:=zR
theorem fd14:Jf Ep 122 14 14=true:=zR
theorem sc14:Jg Ep 115=true:=zR
theorem el14:Qh Ep 232 1 24=true:=zR
theorem fl14:Pure Ep 105 [.sc (.slice none 0 0)] (·=BL true):=aE Tryz.func105 rfl rfl rfl sl14 el14
theorem sl15:sliceB Ep 116 234 1=true:=zR
theorem cl15:Gz Ep 106=true:=zR
theorem fd15:Jf Ep 122 15 15=true:=zR
theorem sc15:Jg Ep 116=true:=zR
theorem el15:Qh Ep 234 1 24=true:=zR
theorem fl15:Pure Ep 106 [.sc (.slice none 0 0)] (·=BL true):=aE Tryz.func106 rfl rfl rfl sl15 el15
theorem sl16:sliceB Ep 117 238 1=true:=zR
theorem cl16:Gz Ep 107=true:=zR
theorem fd16:Jf Ep 122 16 16=true:=zR
theorem sc16:Jg Ep 117=true:=zR
theorem el16:Qh Ep 238 1 24=true:=zR
theorem fl16:Pure Ep 107 [.sc (.slice none 0 0)] (·=BL true):=aE Tryz.func107 rfl rfl rfl sl16 el16
theorem sl17:sliceB Ep 118 117 1=true:=zR
theorem cl17:Gz Ep 108=true:=zR
theorem fd17:Jf Ep 122 17 17=true:=zR
theorem sc17:Jg Ep 118=true:=zR
theorem el17:Qh Ep 117 1 24=true:=zR
theorem fl17:Pure Ep 108 [.sc (.slice none 0 0)] (·=BL true):=aE Tryz.func108 rfl rfl rfl sl17 el17
theorem sl18:sliceB Ep 119 244 1=true:=zR
theorem cl18:Gz Ep 109=true:=zR
theorem fd18:Jf Ep 122 18 18=true:=zR
theorem sc18:Jg Ep 119=true:=zR
theorem el18:Qh Ep 244 1 24=true:=zR
theorem fl18:Pure Ep 109 [.sc (.slice none 0 0)] (·=BL true):=aE Tryz.func109 rfl rfl rfl sl18 el18
theorem cl19:Gz Ep 110=true:=zR
theorem Qf3:Jf Ep 122 19 19=true:=zR
theorem sc19:Jg Ep 45=true:=zR
theorem sl20:sliceB Ep 120 72 1=true:=zR
theorem cl20:Gz Ep 111=true:=zR
theorem fd20:Jf Ep 122 20 20=true:=zR
theorem sc20:Jg Ep 120=true:=zR
theorem el20:Qh Ep 72 1 24=true:=zR
theorem fl20:Pure Ep 111 [.sc (.slice none 0 0)] (·=BL true):=aE Tryz.func111 rfl rfl rfl sl20 el20
end APF
open APF SFF
theorem cM {N:Cfg} {Q:Post} {ops:Array Oper} {rest:List Oper} {l:Fr} {L:Loc} {cs:AD} {TB TF fi gi g a b c d e m n:Nat} {f:FuncId} {t1 t2 t3 t4 t5 t6 t7:TypeId} {h j k o p q r:String} {s t v w y z e7:Array Edge}
  (hl:look l 0=.AA cs) (hgi:(ops[gi]?).bind (·.dst)=some g) (hF:Jf Ep TB fi fi=true) (hc:(cs.drop fi)[0]? = some (.sc (.slice none 0 0))) (hS:Jg Ep TF=true) (hf:Pure Ep f [.sc (.slice none 0 0)] (·=BL true)) (hB:Gz Ep f=true)
  (hn:[a,b,c,d,e,m,n,g].all (fun x=>Nat.blt x N.n)=true) (hd:[a,b,c,d,e].all (fun x=>!Nat.beq x g)=true) (hg:look l g=BL true)
  (hk:JL Ep N ops rest Q ((n,BL true)::(m,BL true)::(e,BL true)::(d,.sc (.slice none 0 0))::(c,.AA (cs.drop fi))::(b,.AA cs)::(a,.AA cs)::l) L) :
  JL Ep N ops (⟨some a,.move (.tmp 0),t1,h,s,some (gi,true)⟩::⟨some b,.nilCheck (.tmp a),t2,j,t,some (gi,true)⟩::⟨some c,.fieldAddr TB (.tmp b) fi,t3,k,v,some (gi,true)⟩::⟨some d,.load TF (.tmp c),t4,o,w,some (gi,true)⟩::⟨some e,.call { callee:=.value (.func f),args:=#[.tmp d],argTypes:=#[TF] },t5,p,y,some (gi,true)⟩::⟨some m,.pick (.tmp g) (.tmp e) (.const (.bool false)),t6,q,z,none⟩::⟨some n,.move (.tmp m),t7,r,e7,none⟩::rest) Q l L:=by
 simp only [List.all_cons,List.all_nil,Bool.and_true,S8,Bool.not_eq_true'] at hn hd;obtain⟨na,nb,nc,nd,ne,nm,nn,ng⟩:=hn;obtain⟨da,db,dc,dd,de⟩:=hd;have hh:∀ (i:Nat) (u:AV) (l:Fr),look ((i,u)::l) i=u:=fun i u l=>by simp [look]
 have g1:look ((a,.AA cs)::l) g=BL true:=by simp [look,da,hg]
 have g2:look ((b,.AA cs)::(a,.AA cs)::l) g=BL true:=by simp [look,da,db,hg]
 have g3:look ((c,.AA (cs.drop fi))::(b,.AA cs)::(a,.AA cs)::l) g=BL true:=by simp [look,da,db,dc,hg]
 have g4:look ((d,.sc (.slice none 0 0))::(c,.AA (cs.drop fi))::(b,.AA cs)::(a,.AA cs)::l) g=BL true:=by simp [look,da,db,dc,dd,hg]
 have g5:look ((e,BL true)::(d,.sc (.slice none 0 0))::(c,.AA (cs.drop fi))::(b,.AA cs)::(a,.AA cs)::l) g=BL true:=by simp [look,da,db,dc,dd,de,hg]
 refine fI G hgi hg (.sct (b:=true)) (G3 G hl) ?_ G na ng;refine fI G hgi g1 (.sct (b:=true)) (H9b G (hh ..)) ?_ G nb ng;refine fI G hgi g2 (.sct (b:=true)) (G24 hF G (hh ..)) ?_ G nc ng;refine fI G hgi g3 (.sct (b:=true)) (Gb hS G (hh ..) hc) ?_ G nd ng;refine fI G hgi g4 (.sct (b:=true)) (Gn (xs:=[.tmp d]) (args:=[.sc (.slice none 0 0)]) G hf hB ⟨congrArg AV.plain (hh ..),G,U⟩) ?_ G ne ng;refine G0 (sX true G g5 (hh ..)) ?_ G G nm;exact G0 (G3 G (hh ..)) hk G G nn
def GS (u:AV):AD:=[.sc (.slice none 0 0),.sc (.slice none 0 0),.sc (.slice none 0 0),.sc (.slice none 0 0),.sc (.slice none 0 0),.sc (.slice none 0 0),.sc (.slice none 0 0),.sc (.slice none 0 0),.sc (.slice none 0 0),.sc (.slice none 0 0),.sc (.slice none 0 0),.sc (.slice none 0 0),.sc (.slice none 0 0),.sc (.slice none 0 0),.sc (.slice none 0 0),.sc (.slice none 0 0),.sc (.slice none 0 0),.sc (.slice none 0 0),.sc (.slice none 0 0),u,.sc (.slice none 0 0)]
theorem Q23 (es:List Raw) (H0:Hp) (O0:Nat->Nat) (hlen:es.length<=1000) (hrn:∀ (j:Nat) e,es[j]? = some e->rn e<=1000000) (hok:∀ (j:Nat) e,es[j]? = some e->∀ b n c,e=some (b,n,c)->∃ cs,hg H0 b=some cs/\n<=c/\c<=maxLen/\cs.length=c*6) (hO:Ow O0 es) (hnd:(H0.map Prod.fst).Nodup):Qn Ep 43 [.AA (GS (E8 es))] (HL 1000000000000 77 H0++[]) (fun r L'=>r=BL true/\∃ H',L'=HL 1000000000000 77 H'++[]/\(H'.map Prod.fst).Nodup/\Bs H0 H'):=by
 refine Re (H0.map fun e=>1000000000000+e.1) [.tmp 2] Tryz.func43 G G H8a (Jr fun a=>(JLm (BL false) G (G6 (a (Jr fun d=>(JLm (.AA (GS (E8 es))) G (JLh (.AA (GS (E8 es))) (H9b G G) G (JLh (.AA ((GS (E8 es)).drop 0)) (G24 fd0 G G) G (JLh (.sc (.slice none 0 0)) (Gb sc0 G G G) G (JLh (BL true) (Gn G fl0 cl0 ⟨G,G,U⟩) G (JLm (BL true) G (cM G G fd1 G sc1 fl1 cl1 G G G (cM G G fd2 G sc2 fl2 cl2 G G G (cM G G fd3 G sc3 fl3 cl3 G G G (cM G G fd4 G sc4 fl4 cl4 G G G (cM G G fd5 G sc5 fl5 cl5 G G G (cM G G fd6 G sc6 fl6 cl6 G G G (cM G G fd7 G sc7 fl7 cl7 G G G (cM G G fd8 G sc8 fl8 cl8 G G G (cM G G fd9 G sc9 fl9 cl9 G G G (cM G G fd10 G sc10 fl10 cl10 G G G (cM G G fd11 G sc11 fl11 cl11 G G G ?_))))))))))))))))))))));refine cM G G fd12 G sc12 fl12 cl12 G G G (cM G G fd13 G sc13 fl13 cl13 G G G (cM G G fd14 G sc14 fl14 cl14 G G G (cM G G fd15 G sc15 fl15 cl15 G G G (cM G G fd16 G sc16 fl16 cl16 G G G (cM G G fd17 G sc17 fl17 cl17 G G G (cM G G fd18 G sc18 fl18 cl18 G G G (fI (u:=.AA (GS (E8 es))) G G G (.sct (b:=true)) (G3 G G) ?_ G G G)))))));refine fI (u:=.AA (GS (E8 es))) G G G (.sct (b:=true)) (H9b G G) ?_ G G G;refine fI (u:=.AA ((GS (E8 es)).drop 19)) G G G (.sct (b:=true)) (G24 Qf3 G G) ?_ G G G;refine fI (u:=E8 es) G G G (.sct (b:=true)) (Gb sc19 G G G) ?_ G G G;refine J38 G G G (.sct (b:=true)) (G4a G (Jae es H0 O0 hlen hrn hok hO hnd) cl19 ⟨G,U⟩) ?_ G G G;rintro _ _ ⟨rfl,H',rfl,hn,hB⟩;refine JLh (BL true) (sX true G G G) G (JLm (BL true) G (fI (u:=.AA (GS (E8 es))) G G G (.sct (b:=true)) (G3 G G) ?_ G G G));refine fI (u:=.AA (GS (E8 es))) G G G (.sct (b:=true)) (H9b G G) ?_ G G G;refine fI (u:=.AA ((GS (E8 es)).drop 20)) G G G (.sct (b:=true)) (G24 fd20 G G) ?_ G G G;refine fI (u:=.sc (.slice none 0 0)) G G G (.sct (b:=true)) (Gb sc20 G G G) ?_ G G G;refine fI (u:=BL true) G G G (.sct (b:=true)) (Gn G fl20 cl20 ⟨G,G,U⟩) ?_ G G G;refine JLh (BL true) (sX true G G G) G (JLm (BL true) G (G6 (d (Gr ?_))));have hfz:=eO (p:=1000000000000) (E:=77) (l:=[]) (F:=[]) (M:=[]) (M':=[]) hn hB trivial trivial;exact⟨[BL true],HL 1000000000000 77 H'++[],hfz.loc,hfz.base,⟨⟨_,G,.conv (.same G)⟩,U⟩,G,H',G,hn,hB⟩
namespace APF
theorem szLL:Rh Ep 45 1=true:=zR
theorem scLL:Jg Ep 45=true:=zR
theorem zszL:Rr Ep 38 1=true:=zR
theorem plB:placesOf Ep 122=some [(0,1),(1,1),(2,1),(3,1),(4,1),(5,1),(6,1),(7,1),(8,1),(9,1),(10,1),(11,1),(12,1),(13,1),(14,1),(15,1),(16,1),(17,1),(18,1),(19,1),(20,1)]:=zR
theorem R2c:(Ep.info? 122).bind (fun i=>i.zero.map Value.cells)=some ([.slice none 0 0,.slice none 0 0,.slice none 0 0,.slice none 0 0,.slice none 0 0,.slice none 0 0,.slice none 0 0,.slice none 0 0,.slice none 0 0,.slice none 0 0,.slice none 0 0,.slice none 0 0,.slice none 0 0,.slice none 0 0,.slice none 0 0,.slice none 0 0,.slice none 0 0,.slice none 0 0,.slice none 0 0,.slice none 0 0,.slice none 0 0]:AM).toArray:=zR
theorem clP:Gz Ep 42=true:=zR
theorem clA:Gz Ep 43=true:=zR
end APF
abbrev Qb4 (xs:List Raw):Loc:=[(1025,.box 122 (GS (OW 1026 1 RA xs))),(1026,.spare 38 1 xs.length xs.length)]
theorem Qb3 (xs:List Raw) (e:Raw) (hx:xs.length<=1000):Qn Ep 42 [.ptr 1025 0,RA e] (Qb4 xs) (fun r L'=>∃ p:Unit,r=.tup []/\L'=Qb4 (xs++[e])):=by
 refine Re [1025,1026] [] Tryz.func42 G G (qU G) (G1 ?_);refine JLm (.ptr 1025 0) G (JLm (.ptr 1025 0) G (JLh (.ptr 1025 0) (J44 G G) G (JLh (.ptr 1025 19) (Qf Qf3 G G) G (JLh (OW 1026 1 RA xs) (Yr scLL G G G G) G (JLm (RA e) G (JLh (.list 1 [RA e]) (Hf (xs:=[RA e]) rfl ⟨rfl,rfl,U⟩ qP zszL rfl (by rcases e with _ | ⟨b,n,c⟩ <;> rfl) rfl rfl) G (JLh (OW 1026 1 RA (xs++[e])) (nU (f:=RA) (xs:=xs) (ys:=[e]) rfl rfl rfl rfl qP elL (Ps ⟨by simp only [S7]; omega,by simp only [S7,maxLen]; omega⟩) Q63 (.inl rfl)) G (JLh (.ptr 1025 0) (J44 G G) G (JLh (.ptr 1025 19) (Qf Qf3 G G) G (J3 (u:=.AJ) (Hm (u:=OW 1026 1 RA (xs++[e])) (ds:=GS (OW 1026 1 RA (xs++[e]))) szLL G G G G G G G G) (G6 ?_)))))))))));exact⟨[],Qb4 (xs++[e]),⟨⟨_,G,.boxEq G G⟩,⟨_,G,.same⟩,U⟩,G,U,(),G,G⟩
abbrev Q24 (xs:List Raw) (H0:Hp):Loc:=(1025,.box 122 (GS (OW 1026 1 RA xs)))::(1026,.spare 38 1 xs.length xs.length)::(HL 1000000000000 77 H0++[])
theorem G16 {xs:List Raw} {H0:Hp} {b:Nat} {cs:AD} (h:hg H0 b=some cs):lk (Q24 xs H0) (1000000000000+b)=some (.pin 77 b cs):=by
 show lk ((1025,_)::(1026,_)::(HL 1000000000000 77 H0++[])) _=_
 rw [Gp,if_neg (by omega),Gp,if_neg (by omega)]; exact pK h
theorem G3f {xs:List Raw} {H0:Hp} {l F:Fr} {L:Loc} (hF:rX (fun i=>(lk (Q24 xs H0) i).isSome) l F) (a:lk L 1025=some (.box 122 (GS (OW 1026 1 RA xs)))) (c:lk L 1026=some (.spare 38 1 xs.length xs.length)) (d:∀ b cs,hg H0 b=some cs->lk L (1000000000000+b)=some (.pin 77 b cs)) (hn:(H0.map Prod.fst).Nodup):Fits (H0.map fun e=>1000000000000+e.1) l L F (Q24 xs H0):=
 ⟨hF,⟨⟨_,a,.boxEq rfl rfl⟩,⟨_,c,.same⟩,G10 hn d trivial⟩,G17 fun e he=>by
  obtain⟨cs,hcs⟩:=Ph (Bs.refl e he);rw [G16 hcs]; rfl⟩
theorem J29 (es:List Raw) (H0:Hp) (O0:Nat->Nat) (hlen:es.length<=1000) (hrn:∀ (j:Nat) e,es[j]? = some e->rn e<=1000000) (hok:∀ (j:Nat) e,es[j]? = some e->∀ b n c,e=some (b,n,c)->∃ cs,hg H0 b=some cs/\n<=c/\c<=maxLen/\cs.length=c*6) (hO:Ow O0 es) (hnd:(H0.map Prod.fst).Nodup):Qn Ep 15 [E8 es] (HL 1000000000000 77 H0++[]) (fun r L'=>r=BL true/\∃ H',L'=HL 1000000000000 77 H'++[]/\(H'.map Prod.fst).Nodup/\Bs H0 H'):=by
 refine Re (H0.map fun e=>1000000000000+e.1) [.tmp 2] Tryz.func15 G G H8a (Jr fun a=>(JLm (BL false) G (G6 (a ?_))));refine Jr fun d=>(JLh (.agg [.sc (.slice none 0 0),.sc (.slice none 0 0),.sc (.slice none 0 0),.sc (.slice none 0 0),.sc (.slice none 0 0),.sc (.slice none 0 0),.sc (.slice none 0 0),.sc (.slice none 0 0),.sc (.slice none 0 0),.sc (.slice none 0 0),.sc (.slice none 0 0),.sc (.slice none 0 0),.sc (.slice none 0 0),.sc (.slice none 0 0),.sc (.slice none 0 0),.sc (.slice none 0 0),.sc (.slice none 0 0),.sc (.slice none 0 0),.sc (.slice none 0 0),.sc (.slice none 0 0),.sc (.slice none 0 0)]) (Jb (cs:=[.sc (.slice none 0 0),.sc (.slice none 0 0),.sc (.slice none 0 0),.sc (.slice none 0 0),.sc (.slice none 0 0),.sc (.slice none 0 0),.sc (.slice none 0 0),.sc (.slice none 0 0),.sc (.slice none 0 0),.sc (.slice none 0 0),.sc (.slice none 0 0),.sc (.slice none 0 0),.sc (.slice none 0 0),.sc (.slice none 0 0),.sc (.slice none 0 0),.sc (.slice none 0 0),.sc (.slice none 0 0),.sc (.slice none 0 0),.sc (.slice none 0 0),.sc (.slice none 0 0),.sc (.slice none 0 0)]) [(0,1),(1,1),(2,1),(3,1),(4,1),(5,1),(6,1),(7,1),(8,1),(9,1),(10,1),(11,1),(12,1),(13,1),(14,1),(15,1),(16,1),(17,1),(18,1),(19,1),(20,1)] [.sc (.slice none 0 0),.sc (.slice none 0 0),.sc (.slice none 0 0),.sc (.slice none 0 0),.sc (.slice none 0 0),.sc (.slice none 0 0),.sc (.slice none 0 0),.sc (.slice none 0 0),.sc (.slice none 0 0),.sc (.slice none 0 0),.sc (.slice none 0 0),.sc (.slice none 0 0),.sc (.slice none 0 0),.sc (.slice none 0 0),.sc (.slice none 0 0),.sc (.slice none 0 0),.sc (.slice none 0 0),.sc (.slice none 0 0),.sc (.slice none 0 0),.sc (.slice none 0 0),.sc (.slice none 0 0)] [.slice none 0 0,.slice none 0 0,.slice none 0 0,.slice none 0 0,.slice none 0 0,.slice none 0 0,.slice none 0 0,.slice none 0 0,.slice none 0 0,.slice none 0 0,.slice none 0 0,.slice none 0 0,.slice none 0 0,.slice none 0 0,.slice none 0 0,.slice none 0 0,.slice none 0 0,.slice none 0 0,.slice none 0 0,.slice none 0 0,.slice none 0 0] plB R2c (zzQ G) G G) G (JLh (.ptr 1025 0) (Jh 1025 rfl rfl rfl rfl ((Zi (by decide) H0).trans rfl)) G (JLm (.ptr 1025 0) G ?_)));refine H09 1025 19 1026 38 1 rfl (by rw [Gp,if_neg (by decide)]; exact(Zi (by decide) H0).trans rfl) rfl (rfl:_=GS (OW 1026 1 RA [])) (G6 (d (Qr (X:=Unit) (fun _=>True) (fun _=>[(3,.ptr 1025 0)]) (fun _=>Q24 es H0) (fun KA eA=>?_) ?_)))
 .refine Jr fun g=>(JLm (I64 0) G (G6 (g (Gf ?_))));refine fE (X:=Nat) (fun k=>k<=es.length) (fun k=>[(0,E8 es),(3,.ptr 1025 0),(4,I64 (k:Int))]) (fun k=>Q24 (es.take k) H0) (fun k=>es.length - k) 0 (Nat.zero_le _) (G3f (.sm G G) G G (fun b cs h=>by
   show lk ((1025,_)::(1026,_)::(1025,_)::(HL 1000000000000 77 H0++[])) _=_
   rw [Gp,if_neg (by omega),Gp,if_neg (by omega),Gp,if_neg (by omega)]; exact pK h) hnd) ?_
  intro k hk t i;dsimp only at hk i ⊢;refine Js fun m=>Jr fun o=>(JLm (I64 (k:Int)) G (JLm (E8 es) G (JLh (Eo es.length) (Yj (f:=RA) (xs:=es) qP G G) G (JLh (BL (decide ((k:Int) < (es.length:Int)))) (Hs G G G) G (G6 (o (Gh G (fun hb=>?_) (fun hb=>?_))))))))
  .have hkl:k < es.length:=by have:=Pq hb; omega
   obtain⟨e,he⟩:∃ e,es[k]? = some e:=⟨_,Pv hkl⟩;have hts:es.take (k+1)=es.take k++[e]:=by rw [List.take_add_one,he]; rfl
   refine Gk (m (Js fun q=>Gf (G1 (JLm (.ptr 1025 0) G (JLm (E8 es) G (JLm (I64 (k:Int)) G (JLh (.AA [RA e]) (Gs (f:=RA) (xs:=es) (y:=e) G G G qP he G) G (JLh (RA e) (Gb scL G G G) G (fX rfl rfl rfl (kN (u:=fun _:Unit=>.tup []) (Lr:=fun _=>Qb4 (es.take k++[e])) rfl (Qb3 (es.take k) e (by rw [List.length_take]; omega)) clP ⟨.inl rfl,rfl,.inl rfl,rfl,U⟩ ⟨rfl,rfl,U⟩ rfl (fun _=>rfl)) ?_)))))))));rintro _ _ ⟨⟨⟩,rfl,rfl⟩;refine G6 (q (G1 (JLm (I64 (k:Int)) G (JLh (I64 ((k+1:Nat):Int)) (Hx (by rw [show (k:Int)+1=((k+1:Nat):Int) by omega]; exact fJ (by omega) (by omega))) G (JLm (I64 ((k+1:Nat):Int)) G (G6 (i _ _ (k+1) hkl (by show es.length - (k+1) < es.length - k; omega) ?_)))))));rw [hts];refine G3f (.sm G G) G G (fun b cs h=>?_) hnd;show lk ((1025,_)::(1026,_)::xR _ _) _=_
   rw [Gp,if_neg (by omega),Gp,if_neg (by omega),H82,if_neg (by
    show ¬ (lk ((1025,_)::(1026,_)::[]) _).isSome=true
    rw [Gp,if_neg (by omega),Gp,if_neg (by omega)]; exact Bool.false_ne_true)]
   exact G16 h
  .have hke:k=es.length:=by have:=Pr hb; omega
   subst hke;refine H9 (eA _ _ () U ?_);rw [List.take_length];exact G3f ⟨.same G,U⟩ G G (fun b cs h=>G16 h) hnd
 rintro⟨⟩ -;have hfz:=eO (p:=1000000000000) (E:=77) (l:=[]) (F:=[]) (M:=[]) (M':=[]) hnd Bs.refl trivial trivial;have hone:Fits (H0.map fun e=>1000000000000+e.1) [(3,.ptr 1025 0)] (Q24 es H0) [(3,.ptr 1025 0)] ((1025,Q3.box 122 (GS (E8 es)))::(HL 1000000000000 77 H0++[])):=by
  refine⟨⟨.same,U⟩,⟨⟨_,rfl,.box rfl (yU.get (by exact⟨.same,.same,.same,.same,.same,.same,.same,.same,.same,.same,.same,.same,.same,.same,.same,.same,.same,.same,.same,.list rfl,.same,U⟩))⟩,G10 hnd (fun b cs h=>G16 h) U⟩,G17 fun e he=>?_⟩;obtain⟨cs,hcs⟩:=Ph (Bs.refl e he);rw [Gp,if_neg (by omega),pK hcs]; rfl
 refine gQ hone (Gu [(3,.AA (GS (E8 es)))] (HL 1000000000000 77 H0++[]) 1025 rfl rfl ((Zi (by decide) H0).trans rfl) (G10 hnd (fun b cs h=>by rw [Gp,if_neg (by omega)]; exact pK h) trivial) hfz.base ⟨.ptr,trivial⟩ (Jr fun s=>(JLm (.AA (GS (E8 es))) G (fX G G G (G4a G (Q23 es H0 O0 hlen hrn hok hO hnd) clA ⟨G,U⟩) ?_))));rintro _ _ ⟨rfl,H',rfl,hn,hB⟩;refine JLm (BL true) G (G6 (s ?_));have hfz:=eO (p:=1000000000000) (E:=77) (l:=[]) (F:=[]) (M:=[]) (M':=[]) hn hB trivial trivial;refine Gr (⟨[BL true],HL 1000000000000 77 H'++[],hfz.loc,hfz.base,⟨⟨_,G,.conv (.same G)⟩,U⟩,G,H',G,hn,hB⟩)
def fF (l:List AH):Option Bool:=need (decide (l.length<=1000)&&l.all (fun m=>decide (m.length<=1000000))) (some true)
end Go.Proofs.YtkiekighbhnolaaGreat
