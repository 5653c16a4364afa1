/- Walks of functions. -/
import Derived.Test.YtbgfgnddogfpcaaGreatXY
set_option maxRecDepth 100000
set_option maxHeartbeats 1000000
set_option linter.unusedVariables false
set_option linter.unusedSimpArgs false
namespace Go.Proofs.YtbgfgnddogfpcaaGreat
open Go.RowKit

theorem Zd {f:FuncId} {fn:Func} {TLL TL:TypeId} {p0 p1 p2 p3 p4 p5 p6 p7 p8 p9 p q r s t u v w x y z b0 b1 b2 b3 b4 b5 b6 b7 b8 b9:String} {a0 a1 a2 a3 a4 a5 a6 a7 a8 a9 a10 a11 a12 a13 a14 a15 a16 a17 a18 a19 a20 a21 a22 a23 a24 a25 a26 a27 a28 a29 a30:Array Edge} {x0 x1 x2 x3 x4:Code} (hf:En.funcs[f]? = some fn) (hb:fn.body=some (.seq (.region 0 #[⟨some 2,.assign (.const (.bool false)),4,p0,a0,none⟩] false) (.seq (.seq (.region 1 #[⟨some 3,.assign (.const E0),3,p1,a1,none⟩] false) (.block 0 (.loop (.seq (.seq (.region 2 #[⟨some 16,.move (.tmp 3),3,p2,a2,none⟩,⟨some 17,.move (.tmp 0),TLL,p3,a3,none⟩,⟨some 18,.call { callee:=.builtin .len,args:=#[(.tmp 17)],argTypes:=#[TLL] },3,p4,a4,none⟩,⟨some 19,.binOp .lss 3 (.tmp 16) (.tmp 18) 3,4,p5,a5,none⟩] false) (.cond (.tmp 19) .skip (.exit 0))) x0)))) (.seq (.region 8 #[⟨some 40,.move (.tmp 0),TLL,p6,a6,none⟩,⟨some 41,.call { callee:=.builtin .len,args:=#[(.tmp 40)],argTypes:=#[TLL] },3,p7,a7,none⟩,⟨some 42,.makeSlice TLL (.tmp 41) (.tmp 41),TLL,p8,a8,none⟩,⟨some 5,.assign (.tmp 42),TLL,p9,a9,none⟩] false) (.seq (.seq (.region 9 #[⟨some 6,.assign (.const E0),3,p,a10,none⟩] false) (.block 4 (.loop (.seq (.seq (.region 10 #[⟨some 43,.move (.tmp 6),3,q,a11,none⟩,⟨some 44,.move (.tmp 0),TLL,r,a12,none⟩,⟨some 45,.call { callee:=.builtin .len,args:=#[(.tmp 44)],argTypes:=#[TLL] },3,s,a13,none⟩,⟨some 46,.binOp .lss 3 (.tmp 43) (.tmp 45) 3,4,t,a14,none⟩] false) (.cond (.tmp 46) .skip (.exit 4))) x1)))) (.seq (.seq (.region 18 #[⟨some 9,.assign (.const E0),3,u,a15,none⟩] false) (.block 8 (.loop (.seq (.seq (.region 19 #[⟨some 73,.move (.tmp 9),3,v,a16,none⟩,⟨some 74,.move (.tmp 0),TLL,w,a17,none⟩,⟨some 75,.call { callee:=.builtin .len,args:=#[(.tmp 74)],argTypes:=#[TLL] },3,x,a18,none⟩,⟨some 76,.binOp .lss 3 (.tmp 73) (.tmp 75) 3,4,y,a19,none⟩] false) (.cond (.tmp 76) .skip (.exit 8))) x2)))) (.seq (.seq (.region 26 #[⟨some 11,.assign (.const E0),3,z,a20,none⟩] false) (.block 12 (.loop (.seq (.seq (.region 27 #[⟨some 123,.move (.tmp 11),3,b0,a21,none⟩,⟨some 124,.move (.tmp 0),TLL,b1,a22,none⟩,⟨some 125,.call { callee:=.builtin .len,args:=#[(.tmp 124)],argTypes:=#[TLL] },3,b2,a23,none⟩,⟨some 126,.binOp .lss 3 (.tmp 123) (.tmp 125) 3,4,b3,a24,none⟩] false) (.cond (.tmp 126) .skip (.exit 12))) x3)))) (.seq (.seq (.region 35 #[⟨some 14,.assign (.const E0),3,b4,a25,none⟩] false) (.block 16 (.loop (.seq (.seq (.region 36 #[⟨some 152,.move (.tmp 14),3,b5,a26,none⟩,⟨some 153,.move (.tmp 0),TLL,b6,a27,none⟩,⟨some 154,.call { callee:=.builtin .len,args:=#[(.tmp 153)],argTypes:=#[TLL] },3,b7,a28,none⟩,⟨some 155,.binOp .lss 3 (.tmp 152) (.tmp 154) 3,4,b8,a29,none⟩] false) (.cond (.tmp 155) .skip (.exit 16))) x4)))) (.seq (.region 43 #[⟨some 2,.assign (.const (.bool true)),4,b9,a30,none⟩] false) .ret))))))))) (hres:fn.results=#[.tmp 2]) (hn:fn.ntmps=193) (hT:sliceB En TLL TL 1=true) (hE:Qa En TL 1 24=true):Pure En f [.sc (.slice none 0 0)] (·=BL true):=by
 refine Gw [.tmp 2] hf hb hres ?_;rw [hn];refine Jr fun c0=>(JLm (BL false) G (G6 (c0 (Js fun d=>Jr fun g=>(JLm (I64 0) G (G6 (g (Gi (dH (X:=Unit) (fun _=>True) (fun _=>[(0,.sc (.slice none 0 0)),(3,I64 0)]) (fun _=>[]) (fun _=>0) () J ⟨(.sm G G),J,G⟩ ?_)))))))));rintro⟨⟩ - K e;refine Js fun b=>Jr fun a=>(JLm (I64 0) G (JLm (.sc (.slice none 0 0)) G (JLh (I64 ((0:Nat):Int)) (sW G hT G) G (JLh (BL (decide ((0:Int) < ((0:Nat):Int)))) (Hy G G G) G (G6 (a (Gh rfl (fun hb=>absurd hb (by decide)) (fun hb=>Ha (d (Jr fun c1=>(JLm (.sc (.slice none 0 0)) G (JLh (I64 ((0:Nat):Int)) (sW G hT G) G (JLh (.own 1 0 1 []) (lF (c:=0) 1 G G G G hT hE G G G) G (JLm (.own 1 0 1 []) G (G6 (c1 (Js fun h=>Jr fun i=>(JLm (I64 0) G (G6 (i (Gi (dH (X:=Unit) (fun _=>True) (fun _=>[(0,.sc (.slice none 0 0)),(6,I64 0)]) (fun _=>[]) (fun _=>0) () J ⟨(.sm G G),J,G⟩ ?_))))))))))))))))))))));rintro⟨⟩ - K e;refine Js fun b=>Jr fun a=>(JLm (I64 0) G (JLm (.sc (.slice none 0 0)) G (JLh (I64 ((0:Nat):Int)) (sW G hT G) G (JLh (BL (decide ((0:Int) < ((0:Nat):Int)))) (Hy G G G) G (G6 (a (Gh rfl (fun hb=>absurd hb (by decide)) (fun hb=>Ha (h (Js fun j=>Jr fun k=>(JLm (I64 0) G (G6 (k (Gi (dH (X:=Unit) (fun _=>True) (fun _=>[(0,.sc (.slice none 0 0)),(9,I64 0)]) (fun _=>[]) (fun _=>0) () J ⟨(.sm G G),J,G⟩ ?_)))))))))))))));rintro⟨⟩ - K e;refine Js fun b=>Jr fun a=>(JLm (I64 0) G (JLm (.sc (.slice none 0 0)) G (JLh (I64 ((0:Nat):Int)) (sW G hT G) G (JLh (BL (decide ((0:Int) < ((0:Nat):Int)))) (Hy G G G) G (G6 (a (Gh rfl (fun hb=>absurd hb (by decide)) (fun hb=>Ha (j (Js fun l=>Jr fun m=>(JLm (I64 0) G (G6 (m (Gi (dH (X:=Unit) (fun _=>True) (fun _=>[(0,.sc (.slice none 0 0)),(11,I64 0)]) (fun _=>[]) (fun _=>0) () J ⟨(.sm G G),J,G⟩ ?_)))))))))))))));rintro⟨⟩ - K e;refine Js fun b=>Jr fun a=>(JLm (I64 0) G (JLm (.sc (.slice none 0 0)) G (JLh (I64 ((0:Nat):Int)) (sW G hT G) G (JLh (BL (decide ((0:Int) < ((0:Nat):Int)))) (Hy G G G) G (G6 (a (Gh rfl (fun hb=>absurd hb (by decide)) (fun hb=>Ha (l (Js fun n=>Jr fun o=>(JLm (I64 0) G (G6 (o (Gi (dH (X:=Unit) (fun _=>True) (fun _=>[(0,.sc (.slice none 0 0)),(14,I64 0)]) (fun _=>[]) (fun _=>0) () J ⟨(.sm G G),J,G⟩ ?_)))))))))))))));rintro⟨⟩ - K e;refine Js fun b=>Jr fun a=>(JLm (I64 0) G (JLm (.sc (.slice none 0 0)) G (JLh (I64 ((0:Nat):Int)) (sW G hT G) G (JLh (BL (decide ((0:Int) < ((0:Nat):Int)))) (Hy G G G) G (G6 (a (Gh rfl (fun hb=>absurd hb (by decide)) (fun hb=>Ha (n (Jr fun c2=>(JLm (BL true) G (G6 (c2 (Gp (⟨[BL true],[],J,G,⟨⟨_,G,.conv (.same G)⟩,J⟩,G,G⟩)))))))))))))))
namespace APF
theorem sl0:sliceB En 39 51 1=true:=zF
theorem cl0:H5 En 101=true:=zF
theorem fd0:Jk En 126 0 0=true:=zF
theorem sc0:J9 En 39=true:=zF
theorem el0:Qa En 51 1 24=true:=zF
theorem fl0:Pure En 101 [.sc (.slice none 0 0)] (·=BL true):=Zd Tryz.func101 rfl rfl rfl sl0 el0
theorem sl1:sliceB En 107 222 1=true:=zF
theorem cl1:H5 En 102=true:=zF
theorem fd1:Jk En 126 1 1=true:=zF
theorem sc1:J9 En 107=true:=zF
theorem el1:Qa En 222 1 24=true:=zF
theorem fl1:Pure En 102 [.sc (.slice none 0 0)] (·=BL true):=Zd Tryz.func102 rfl rfl rfl sl1 el1
theorem sl2:sliceB En 108 224 1=true:=zF
theorem cl2:H5 En 103=true:=zF
theorem fd2:Jk En 126 2 2=true:=zF
theorem sc2:J9 En 108=true:=zF
theorem el2:Qa En 224 1 24=true:=zF
theorem fl2:Pure En 103 [.sc (.slice none 0 0)] (·=BL true):=Zd Tryz.func103 rfl rfl rfl sl2 el2
theorem sl3:sliceB En 109 22 1=true:=zF
theorem cl3:H5 En 104=true:=zF
theorem fd3:Jk En 126 3 3=true:=zF
theorem sc3:J9 En 109=true:=zF
theorem el3:Qa En 22 1 24=true:=zF
theorem fl3:Pure En 104 [.sc (.slice none 0 0)] (·=BL true):=Zd Tryz.func104 rfl rfl rfl sl3 el3
theorem sl4:sliceB En 110 23 1=true:=zF
theorem cl4:H5 En 105=true:=zF
theorem fd4:Jk En 126 4 4=true:=zF
theorem sc4:J9 En 110=true:=zF
theorem el4:Qa En 23 1 24=true:=zF
theorem fl4:Pure En 105 [.sc (.slice none 0 0)] (·=BL true):=Zd Tryz.func105 rfl rfl rfl sl4 el4
theorem sl5:sliceB En 111 26 1=true:=zF
theorem cl5:H5 En 106=true:=zF
theorem fd5:Jk En 126 5 5=true:=zF
theorem sc5:J9 En 111=true:=zF
theorem el5:Qa En 26 1 24=true:=zF
theorem fl5:Pure En 106 [.sc (.slice none 0 0)] (·=BL true):=Zd Tryz.func106 rfl rfl rfl sl5 el5
theorem sl6:sliceB En 112 27 1=true:=zF
theorem cl6:H5 En 107=true:=zF
theorem fd6:Jk En 126 6 6=true:=zF
theorem sc6:J9 En 112=true:=zF
theorem el6:Qa En 27 1 24=true:=zF
theorem fl6:Pure En 107 [.sc (.slice none 0 0)] (·=BL true):=Zd Tryz.func107 rfl rfl rfl sl6 el6
theorem sl7:sliceB En 113 28 1=true:=zF
theorem cl7:H5 En 108=true:=zF
theorem fd7:Jk En 126 7 7=true:=zF
theorem sc7:J9 En 113=true:=zF
theorem el7:Qa En 28 1 24=true:=zF
theorem fl7:Pure En 108 [.sc (.slice none 0 0)] (·=BL true):=Zd Tryz.func108 rfl rfl rfl sl7 el7
theorem sl8:sliceB En 114 226 1=true:=zF
theorem cl8:H5 En 109=true:=zF
theorem fd8:Jk En 126 8 8=true:=zF
theorem sc8:J9 En 114=true:=zF
theorem el8:Qa En 226 1 24=true:=zF
theorem fl8:Pure En 109 [.sc (.slice none 0 0)] (·=BL true):=Zd Tryz.func109 rfl rfl rfl sl8 el8
theorem sl9:sliceB En 115 188 1=true:=zF
theorem cl9:H5 En 110=true:=zF
theorem fd9:Jk En 126 9 9=true:=zF
theorem sc9:J9 En 115=true:=zF
theorem el9:Qa En 188 1 24=true:=zF
theorem fl9:Pure En 110 [.sc (.slice none 0 0)] (·=BL true):=Zd Tryz.func110 rfl rfl rfl sl9 el9
theorem sl10:sliceB En 116 33 1=true:=zF
theorem cl10:H5 En 111=true:=zF
theorem fd10:Jk En 126 10 10=true:=zF
theorem sc10:J9 En 116=true:=zF
theorem el10:Qa En 33 1 24=true:=zF
theorem fl10:Pure En 111 [.sc (.slice none 0 0)] (·=BL true):=Zd Tryz.func111 rfl rfl rfl sl10 el10
theorem cl11:H5 En 112=true:=zF
theorem Q91:Jk En 126 11 11=true:=zF
theorem sc11:J9 En 38=true:=zF
theorem sl12:sliceB En 81 38 1=true:=zF
theorem cl12:H5 En 113=true:=zF
theorem fd12:Jk En 126 12 12=true:=zF
theorem sc12:J9 En 81=true:=zF
theorem el12:Qa En 38 1 24=true:=zF
theorem fl12:Pure En 113 [.sc (.slice none 0 0)] (·=BL true):=Zd Tryz.func113 rfl rfl rfl sl12 el12
theorem sl13:sliceB En 117 39 1=true:=zF
theorem cl13:H5 En 114=true:=zF
theorem fd13:Jk En 126 13 13=true:=zF
theorem sc13:J9 En 117=true:=zF
theorem el13:Qa En 39 1 24=true:=zF
theorem fl13:Pure En 114 [.sc (.slice none 0 0)] (·=BL true):=Zd Tryz.func114 rfl rfl rfl sl13 el13
theorem sl14:sliceB En 118 232 1=true:=zF
theorem cl14:H5 En 115=true:=zF
theorem fd14:Jk En 126 14 14=true:=zF
theorem sc14:J9 En 118=true:=zF
theorem el14:Qa En 232 1 24=true:=zF
theorem fl14:Pure En 115 [.sc (.slice none 0 0)] (·=BL true):=Zd Tryz.func115 rfl rfl rfl sl14 el14
theorem sl15:sliceB En 119 234 1=true:=zF
theorem cl15:H5 En 116=true:=zF
theorem fd15:Jk En 126 15 15=true:=zF
theorem sc15:J9 En 119=true:=zF
theorem el15:Qa En 234 1 24=true:=zF
theorem fl15:Pure En 116 [.sc (.slice none 0 0)] (·=BL true):=Zd Tryz.func116 rfl rfl rfl sl15 el15
theorem sl16:sliceB En 120 238 1=true:=zF
theorem cl16:H5 En 117=true:=zF
theorem fd16:Jk En 126 16 16=true:=zF
theorem sc16:J9 En 120=true:=zF
theorem el16:Qa En 238 1 24=true:=zF
theorem fl16:Pure En 117 [.sc (.slice none 0 0)] (·=BL true):=Zd Tryz.func117 rfl rfl rfl sl16 el16
theorem sl17:sliceB En 121 120 1=true:=zF
theorem cl17:H5 En 118=true:=zF
theorem fd17:Jk En 126 17 17=true:=zF
theorem sc17:J9 En 121=true:=zF
theorem el17:Qa En 120 1 24=true:=zF
theorem fl17:Pure En 118 [.sc (.slice none 0 0)] (·=BL true):=Zd Tryz.func118 rfl rfl rfl sl17 el17
theorem sl18:sliceB En 122 244 1=true:=zF
theorem cl18:H5 En 119=true:=zF
theorem fd18:Jk En 126 18 18=true:=zF
theorem sc18:J9 En 122=true:=zF
theorem el18:Qa En 244 1 24=true:=zF
theorem fl18:Pure En 119 [.sc (.slice none 0 0)] (·=BL true):=Zd Tryz.func119 rfl rfl rfl sl18 el18
theorem sl19:sliceB En 123 248 1=true:=zF
theorem cl19:H5 En 120=true:=zF
theorem fd19:Jk En 126 19 19=true:=zF
theorem sc19:J9 En 123=true:=zF
theorem el19:Qa En 248 1 24=true:=zF
theorem fl19:Pure En 120 [.sc (.slice none 0 0)] (·=BL true):=Zd Tryz.func120 rfl rfl rfl sl19 el19
theorem sl20:sliceB En 124 252 1=true:=zF
theorem cl20:H5 En 121=true:=zF
theorem fd20:Jk En 126 20 20=true:=zF
theorem sc20:J9 En 124=true:=zF
theorem el20:Qa En 252 1 24=true:=zF
theorem fl20:Pure En 121 [.sc (.slice none 0 0)] (·=BL true):=Zd Tryz.func121 rfl rfl rfl sl20 el20
end APF
open APF SFF
theorem aP {N:Cfg} {Q:Post} {ops:Array Oper} {rest:AM} {l:Fr} {L:Loc} {cs:AD} {TB TF fi gi g a b c d e m n:Nat} {f:FuncId} {t1 t2 t3 t4 t5 t6 t7:TypeId} {h j k o p q r:String} {s t v w y z e7:Array Edge}
  (hl:look l 0=.GY cs) (hgi:(ops[gi]?).bind (·.dst)=some g) (hF:Jk En TB fi fi=true) (hc:(cs.drop fi)[0]? = some (.sc (.slice none 0 0))) (hS:J9 En TF=true) (hf:Pure En f [.sc (.slice none 0 0)] (·=BL true)) (hB:H5 En f=true)
  (hn:[a,b,c,d,e,m,n,g].all (fun x=>Nat.blt x N.n)=true) (hd:[a,b,c,d,e].all (fun x=>!Nat.beq x g)=true) (hg:look l g=BL true)
  (hk:JL En N ops rest Q ((n,BL true)::(m,BL true)::(e,BL true)::(d,.sc (.slice none 0 0))::(c,.GY (cs.drop fi))::(b,.GY cs)::(a,.GY cs)::l) L) :
  JL En N ops (⟨some a,.move (.tmp 0),t1,h,s,some (gi,true)⟩::⟨some b,.nilCheck (.tmp a),t2,j,t,some (gi,true)⟩::⟨some c,.fieldAddr TB (.tmp b) fi,t3,k,v,some (gi,true)⟩::⟨some d,.load TF (.tmp c),t4,o,w,some (gi,true)⟩::⟨some e,.call { callee:=.value (.func f),args:=#[.tmp d],argTypes:=#[TF] },t5,p,y,some (gi,true)⟩::⟨some m,.pick (.tmp g) (.tmp e) (.const (.bool false)),t6,q,z,none⟩::⟨some n,.move (.tmp m),t7,r,e7,none⟩::rest) Q l L:=by
 simp only [List.all_cons,List.all_nil,Bool.and_true,Pp,Bool.not_eq_true'] at hn hd;obtain⟨na,nb,nc,nd,ne,nm,nn,ng⟩:=hn;obtain⟨da,db,dc,dd,de⟩:=hd;have hh:∀ (i:Nat) (u:AV) (l:Fr),look ((i,u)::l) i=u:=fun i u l=>by simp [look]
 have g1:look ((a,.GY cs)::l) g=BL true:=by simp [look,da,hg]
 have g2:look ((b,.GY cs)::(a,.GY cs)::l) g=BL true:=by simp [look,da,db,hg]
 have g3:look ((c,.GY (cs.drop fi))::(b,.GY cs)::(a,.GY cs)::l) g=BL true:=by simp [look,da,db,dc,hg]
 have g4:look ((d,.sc (.slice none 0 0))::(c,.GY (cs.drop fi))::(b,.GY cs)::(a,.GY cs)::l) g=BL true:=by simp [look,da,db,dc,dd,hg]
 have g5:look ((e,BL true)::(d,.sc (.slice none 0 0))::(c,.GY (cs.drop fi))::(b,.GY cs)::(a,.GY cs)::l) g=BL true:=by simp [look,da,db,dc,dd,de,hg]
 refine aI G hgi hg (.sct (b:=true)) (G3 G hl) ?_ G na ng;refine aI G hgi g1 (.sct (b:=true)) (H1a G (hh ..)) ?_ G nb ng;refine aI G hgi g2 (.sct (b:=true)) (QT hF G (hh ..)) ?_ G nc ng;refine aI G hgi g3 (.sct (b:=true)) (Gc hS G (hh ..) hc) ?_ G nd ng;refine aI G hgi g4 (.sct (b:=true)) (Gq (xs:=[.tmp d]) (args:=[.sc (.slice none 0 0)]) G hf hB ⟨congrArg AV.plain (hh ..),G,J⟩) ?_ G ne ng;refine G0 (mA true G g5 (hh ..)) ?_ G G nm;exact G0 (G3 G (hh ..)) hk G G nn
def wL (u:AV):AD:=[.sc (.slice none 0 0),.sc (.slice none 0 0),.sc (.slice none 0 0),.sc (.slice none 0 0),.sc (.slice none 0 0),.sc (.slice none 0 0),.sc (.slice none 0 0),.sc (.slice none 0 0),.sc (.slice none 0 0),.sc (.slice none 0 0),.sc (.slice none 0 0),u,.sc (.slice none 0 0),.sc (.slice none 0 0),.sc (.slice none 0 0),.sc (.slice none 0 0),.sc (.slice none 0 0),.sc (.slice none 0 0),.sc (.slice none 0 0),.sc (.slice none 0 0),.sc (.slice none 0 0)]
theorem J83 (es:List Raw) (H0:Hp) (O0:Nat->Nat) (hlen:es.length<=30000) (hrn:∀ (j:Nat) e,es[j]? = some e->rn e<=1000000) (hok:∀ (j:Nat) e,es[j]? = some e->∀ b n c,e=some (b,n,c)->∃ cs,hg H0 b=some cs/\n<=c/\c<=maxLen/\cs.length=c*4) (hO:Ow O0 es) (hnd:(H0.map Prod.fst).Nodup):Q2 En 58 [.GY (wL (Ed es))] (HL 1000000000000 74 H0++[]) (fun r L'=>r=BL true/\∃ H',L'=HL 1000000000000 74 H'++[]/\(H'.map Prod.fst).Nodup/\Bs H0 H'):=by
 refine aW (H0.map fun e=>1000000000000+e.1) [.tmp 2] Tryz.func58 G G H0a (Jr fun a=>(JLm (BL false) G (G6 (a (Jr fun d=>(JLm (.GY (wL (Ed es))) G (JLh (.GY (wL (Ed es))) (H1a G G) G (JLh (.GY ((wL (Ed es)).drop 0)) (QT fd0 G G) G (JLh (.sc (.slice none 0 0)) (Gc sc0 G G G) G (JLh (BL true) (Gq G fl0 cl0 ⟨G,G,J⟩) G (JLm (BL true) G (aP G G fd1 G sc1 fl1 cl1 G G G (aP G G fd2 G sc2 fl2 cl2 G G G (aP G G fd3 G sc3 fl3 cl3 G G G (aP G G fd4 G sc4 fl4 cl4 G G G (aP G G fd5 G sc5 fl5 cl5 G G G (aP G G fd6 G sc6 fl6 cl6 G G G (aP G G fd7 G sc7 fl7 cl7 G G G (aP G G fd8 G sc8 fl8 cl8 G G G (aP G G fd9 G sc9 fl9 cl9 G G G (aP G G fd10 G sc10 fl10 cl10 G G G ?_)))))))))))))))))))));refine aI (u:=.GY (wL (Ed es))) G G G (.sct (b:=true)) (G3 G G) ?_ G G G;refine aI (u:=.GY (wL (Ed es))) G G G (.sct (b:=true)) (H1a G G) ?_ G G G;refine aI (u:=.GY ((wL (Ed es)).drop 11)) G G G (.sct (b:=true)) (QT Q91 G G) ?_ G G G;refine aI (u:=Ed es) G G G (.sct (b:=true)) (Gc sc11 G G G) ?_ G G G;refine H9a G G G (.sct (b:=true)) (YE G (H04 es H0 O0 hlen hrn hok hO hnd) cl11 ⟨G,J⟩) ?_ G G G;rintro _ _ ⟨rfl,H',rfl,hn,hB⟩;refine JLh (BL true) (mA true G G G) G (JLm (BL true) G (aP G G fd12 G sc12 fl12 cl12 G G G (aP G G fd13 G sc13 fl13 cl13 G G G (aP G G fd14 G sc14 fl14 cl14 G G G (aP G G fd15 G sc15 fl15 cl15 G G G (aP G G fd16 G sc16 fl16 cl16 G G G (aP G G fd17 G sc17 fl17 cl17 G G G (aP G G fd18 G sc18 fl18 cl18 G G G (aP G G fd19 G sc19 fl19 cl19 G G G (aI (u:=.GY (wL (Ed es))) G G G (.sct (b:=true)) (G3 G G) ?_ G G G))))))))));refine aI (u:=.GY (wL (Ed es))) G G G (.sct (b:=true)) (H1a G G) ?_ G G G;refine aI (u:=.GY ((wL (Ed es)).drop 20)) G G G (.sct (b:=true)) (QT fd20 G G) ?_ G G G;refine aI (u:=.sc (.slice none 0 0)) G G G (.sct (b:=true)) (Gc sc20 G G G) ?_ G G G;refine aI (u:=BL true) G G G (.sct (b:=true)) (Gq G fl20 cl20 ⟨G,G,J⟩) ?_ G G G;refine JLh (BL true) (mA true G G G) G (JLm (BL true) G (G6 (d (Gp ?_))));have hfz:=cU (p:=1000000000000) (E:=74) (l:=[]) (F:=[]) (M:=[]) (M':=[]) hn hB trivial trivial;exact⟨[BL true],HL 1000000000000 74 H'++[],hfz.loc,hfz.base,⟨⟨_,G,.conv (.same G)⟩,J⟩,G,H',G,hn,hB⟩
namespace APF
theorem szLL:R3 En 38 1=true:=zF
theorem scLL:J9 En 38=true:=zF
theorem zszL:Qx En 70 1=true:=zF
theorem plB:placesOf En 126=some [(0,1),(1,1),(2,1),(3,1),(4,1),(5,1),(6,1),(7,1),(8,1),(9,1),(10,1),(11,1),(12,1),(13,1),(14,1),(15,1),(16,1),(17,1),(18,1),(19,1),(20,1)]:=zF
theorem Qcc:(En.info? 126).bind (fun i=>i.zero.map Value.cells)=some ([.slice none 0 0,.slice none 0 0,.slice none 0 0,.slice none 0 0,.slice none 0 0,.slice none 0 0,.slice none 0 0,.slice none 0 0,.slice none 0 0,.slice none 0 0,.slice none 0 0,.slice none 0 0,.slice none 0 0,.slice none 0 0,.slice none 0 0,.slice none 0 0,.slice none 0 0,.slice none 0 0,.slice none 0 0,.slice none 0 0,.slice none 0 0]:AK).toArray:=zF
theorem clP:H5 En 57=true:=zF
theorem clA:H5 En 58=true:=zF
end APF
abbrev Q35 (xs:List Raw):Loc:=[(1030,.box 126 (wL (OW 1031 1 RA xs))),(1031,.spare 70 1 xs.length xs.length)]
theorem Q34 (xs:List Raw) (e:Raw) (hx:xs.length<=30000):Q2 En 57 [.ptr 1030 0,RA e] (Q35 xs) (fun r L'=>∃ p:Unit,r=.tup []/\L'=Q35 (xs++[e])):=by
 refine aW [1030,1031] [] Tryz.func57 G G (zR G) (G1 ?_);refine JLm (.ptr 1030 0) G (JLm (.ptr 1030 0) G (JLh (.ptr 1030 0) (Ha5 G G) G (JLh (.ptr 1030 11) (Y9 Q91 G G) G (JLh (OW 1031 1 RA xs) (Rn scLL G G G G) G (JLm (RA e) G (JLh (.list 1 [RA e]) (Hv (xs:=[RA e]) rfl ⟨rfl,rfl,J⟩ nO zszL rfl (by rcases e with _ | ⟨b,n,c⟩ <;> rfl) rfl rfl) G (JLh (OW 1031 1 RA (xs++[e])) (lG (f:=RA) (xs:=xs) (ys:=[e]) rfl rfl rfl rfl nO elL (P8 ⟨by simp only [Po]; omega,by simp only [Po,maxLen]; omega⟩) Jc7 (.inl rfl)) G (JLh (.ptr 1030 0) (Ha5 G G) G (JLh (.ptr 1030 11) (Y9 Q91 G G) G (Hz (u:=.AL) (Hi (u:=OW 1031 1 RA (xs++[e])) (ds:=wL (OW 1031 1 RA (xs++[e]))) szLL G G G G G G G G) (G6 ?_)))))))))));exact⟨[],Q35 (xs++[e]),⟨⟨_,G,.boxEq G G⟩,⟨_,G,.same⟩,J⟩,G,J,(),G,G⟩
abbrev J84 (xs:List Raw) (H0:Hp):Loc:=(1030,.box 126 (wL (OW 1031 1 RA xs)))::(1031,.spare 70 1 xs.length xs.length)::(HL 1000000000000 74 H0++[])
theorem QC {xs:List Raw} {H0:Hp} {b:Nat} {cs:AD} (h:hg H0 b=some cs):lk (J84 xs H0) (1000000000000+b)=some (.pin 74 b cs):=by
 show lk ((1030,_)::(1031,_)::(HL 1000000000000 74 H0++[])) _=_
 rw [Ge,if_neg (by omega),Ge,if_neg (by omega)]; exact mT h
theorem RW {xs:List Raw} {H0:Hp} {l F:Fr} {L:Loc} (hF:lE (fun i=>(lk (J84 xs H0) i).isSome) l F) (a:lk L 1030=some (.box 126 (wL (OW 1031 1 RA xs)))) (c:lk L 1031=some (.spare 70 1 xs.length xs.length)) (d:∀ b cs,hg H0 b=some cs->lk L (1000000000000+b)=some (.pin 74 b cs)) (hn:(H0.map Prod.fst).Nodup):Fits (H0.map fun e=>1000000000000+e.1) l L F (J84 xs H0):=
 ⟨hF,⟨⟨_,a,.boxEq rfl rfl⟩,⟨_,c,.same⟩,JW hn d trivial⟩,QD fun e he=>by
  obtain⟨cs,hcs⟩:=Ny (Bs.refl e he);rw [QC hcs]; rfl⟩
theorem Ga9 (es:List Raw) (H0:Hp) (O0:Nat->Nat) (hlen:es.length<=30000) (hrn:∀ (j:Nat) e,es[j]? = some e->rn e<=1000000) (hok:∀ (j:Nat) e,es[j]? = some e->∀ b n c,e=some (b,n,c)->∃ cs,hg H0 b=some cs/\n<=c/\c<=maxLen/\cs.length=c*4) (hO:Ow O0 es) (hnd:(H0.map Prod.fst).Nodup):Q2 En 16 [Ed es] (HL 1000000000000 74 H0++[]) (fun r L'=>r=BL true/\∃ H',L'=HL 1000000000000 74 H'++[]/\(H'.map Prod.fst).Nodup/\Bs H0 H'):=by
 refine aW (H0.map fun e=>1000000000000+e.1) [.tmp 2] Tryz.func16 G G H0a (Jr fun a=>(JLm (BL false) G (G6 (a ?_))));refine Jr fun d=>(JLh (.agg [.sc (.slice none 0 0),.sc (.slice none 0 0),.sc (.slice none 0 0),.sc (.slice none 0 0),.sc (.slice none 0 0),.sc (.slice none 0 0),.sc (.slice none 0 0),.sc (.slice none 0 0),.sc (.slice none 0 0),.sc (.slice none 0 0),.sc (.slice none 0 0),.sc (.slice none 0 0),.sc (.slice none 0 0),.sc (.slice none 0 0),.sc (.slice none 0 0),.sc (.slice none 0 0),.sc (.slice none 0 0),.sc (.slice none 0 0),.sc (.slice none 0 0),.sc (.slice none 0 0),.sc (.slice none 0 0)]) (Jf (cs:=[.sc (.slice none 0 0),.sc (.slice none 0 0),.sc (.slice none 0 0),.sc (.slice none 0 0),.sc (.slice none 0 0),.sc (.slice none 0 0),.sc (.slice none 0 0),.sc (.slice none 0 0),.sc (.slice none 0 0),.sc (.slice none 0 0),.sc (.slice none 0 0),.sc (.slice none 0 0),.sc (.slice none 0 0),.sc (.slice none 0 0),.sc (.slice none 0 0),.sc (.slice none 0 0),.sc (.slice none 0 0),.sc (.slice none 0 0),.sc (.slice none 0 0),.sc (.slice none 0 0),.sc (.slice none 0 0)]) [(0,1),(1,1),(2,1),(3,1),(4,1),(5,1),(6,1),(7,1),(8,1),(9,1),(10,1),(11,1),(12,1),(13,1),(14,1),(15,1),(16,1),(17,1),(18,1),(19,1),(20,1)] [.sc (.slice none 0 0),.sc (.slice none 0 0),.sc (.slice none 0 0),.sc (.slice none 0 0),.sc (.slice none 0 0),.sc (.slice none 0 0),.sc (.slice none 0 0),.sc (.slice none 0 0),.sc (.slice none 0 0),.sc (.slice none 0 0),.sc (.slice none 0 0),.sc (.slice none 0 0),.sc (.slice none 0 0),.sc (.slice none 0 0),.sc (.slice none 0 0),.sc (.slice none 0 0),.sc (.slice none 0 0),.sc (.slice none 0 0),.sc (.slice none 0 0),.sc (.slice none 0 0),.sc (.slice none 0 0)] [.slice none 0 0,.slice none 0 0,.slice none 0 0,.slice none 0 0,.slice none 0 0,.slice none 0 0,.slice none 0 0,.slice none 0 0,.slice none 0 0,.slice none 0 0,.slice none 0 0,.slice none 0 0,.slice none 0 0,.slice none 0 0,.slice none 0 0,.slice none 0 0,.slice none 0 0,.slice none 0 0,.slice none 0 0,.slice none 0 0,.slice none 0 0] plB Qcc (zzQ G) G G) G (JLh (.ptr 1030 0) (Jp 1030 rfl rfl rfl rfl ((Yu (by decide) H0).trans rfl)) G (JLm (.ptr 1030 0) G ?_)));refine wC 1030 11 1031 70 1 rfl (by rw [Ge,if_neg (by decide)]; exact(Yu (by decide) H0).trans rfl) rfl (rfl:_=wL (OW 1031 1 RA [])) (G6 (d (Yd (X:=Unit) (fun _=>True) (fun _=>[(3,.ptr 1030 0)]) (fun _=>J84 es H0) (fun KA eA=>?_) ?_)))
 .refine Jr fun g=>(JLm (I64 0) G (G6 (g (Gi ?_))));refine dH (X:=Nat) (fun k=>k<=es.length) (fun k=>[(0,Ed es),(3,.ptr 1030 0),(4,I64 (k:Int))]) (fun k=>J84 (es.take k) H0) (fun k=>es.length - k) 0 (Nat.zero_le _) (RW (.sm G G) G G (fun b cs h=>by
   show lk ((1030,_)::(1031,_)::(1030,_)::(HL 1000000000000 74 H0++[])) _=_
   rw [Ge,if_neg (by omega),Ge,if_neg (by omega),Ge,if_neg (by omega)]; exact mT h) hnd) ?_
  intro k hk t i;dsimp only at hk i ⊢;refine Js fun m=>Jr fun o=>(JLm (I64 (k:Int)) G (JLm (Ed es) G (JLh (Em es.length) (Qj (f:=RA) (xs:=es) nO G G) G (JLh (BL (decide ((k:Int) < (es.length:Int)))) (Hy G G G) G (G6 (o (Gh G (fun hb=>?_) (fun hb=>?_))))))))
  .have hkl:k < es.length:=by have:=P6 hb; omega
   obtain⟨e,he⟩:∃ e,es[k]? = some e:=⟨_,Pb hkl⟩;have hts:es.take (k+1)=es.take k++[e]:=by rw [List.take_add_one,he]; rfl
   refine Gj (m (Js fun q=>Gi (G1 (JLm (.ptr 1030 0) G (JLm (Ed es) G (JLm (I64 (k:Int)) G (JLh (.GY [RA e]) (Gs (f:=RA) (xs:=es) (y:=e) G G G nO he G) G (JLh (RA e) (Gc scL G G G) G (nM rfl rfl rfl (QU (u:=fun _:Unit=>.tup []) (Lr:=fun _=>Q35 (es.take k++[e])) rfl (Q34 (es.take k) e (by rw [List.length_take]; omega)) clP ⟨.inl rfl,rfl,.inl rfl,rfl,J⟩ ⟨rfl,rfl,J⟩ rfl (fun _=>rfl)) ?_)))))))));rintro _ _ ⟨⟨⟩,rfl,rfl⟩;refine G6 (q (G1 (JLm (I64 (k:Int)) G (JLh (I64 ((k+1:Nat):Int)) (Hw (by rw [show (k:Int)+1=((k+1:Nat):Int) by omega]; exact dM (by omega) (by omega))) G (JLm (I64 ((k+1:Nat):Int)) G (G6 (i _ _ (k+1) hkl (by show es.length - (k+1) < es.length - k; omega) ?_)))))));rw [hts];refine RW (.sm G G) G G (fun b cs h=>?_) hnd;show lk ((1030,_)::(1031,_)::qA _ _) _=_
   rw [Ge,if_neg (by omega),Ge,if_neg (by omega),H02,if_neg (by
    show ¬ (lk ((1030,_)::(1031,_)::[]) _).isSome=true
    rw [Ge,if_neg (by omega),Ge,if_neg (by omega)]; exact Bool.false_ne_true)]
   exact QC h
  .have hke:k=es.length:=by have:=P7 hb; omega
   subst hke;refine Ha (eA _ _ () J ?_);rw [List.take_length];exact RW ⟨.same G,J⟩ G G (fun b cs h=>QC h) hnd
 rintro⟨⟩ -;have hfz:=cU (p:=1000000000000) (E:=74) (l:=[]) (F:=[]) (M:=[]) (M':=[]) hnd Bs.refl trivial trivial;have hone:Fits (H0.map fun e=>1000000000000+e.1) [(3,.ptr 1030 0)] (J84 es H0) [(3,.ptr 1030 0)] ((1030,Jb.box 126 (wL (Ed es)))::(HL 1000000000000 74 H0++[])):=by
  refine⟨⟨.same,J⟩,⟨⟨_,rfl,.box rfl (uK.get (by exact⟨.same,.same,.same,.same,.same,.same,.same,.same,.same,.same,.same,.list rfl,.same,.same,.same,.same,.same,.same,.same,.same,.same,J⟩))⟩,JW hnd (fun b cs h=>QC h) J⟩,QD fun e he=>?_⟩;obtain⟨cs,hcs⟩:=Ny (Bs.refl e he);rw [Ge,if_neg (by omega),mT hcs]; rfl
 refine iV hone (Gu [(3,.GY (wL (Ed es)))] (HL 1000000000000 74 H0++[]) 1030 rfl rfl ((Yu (by decide) H0).trans rfl) (JW hnd (fun b cs h=>by rw [Ge,if_neg (by omega)]; exact mT h) trivial) hfz.base ⟨.ptr,trivial⟩ (Jr fun s=>(JLm (.GY (wL (Ed es))) G (nM G G G (YE G (J83 es H0 O0 hlen hrn hok hO hnd) clA ⟨G,J⟩) ?_))));rintro _ _ ⟨rfl,H',rfl,hn,hB⟩;refine JLm (BL true) G (G6 (s ?_));have hfz:=cU (p:=1000000000000) (E:=74) (l:=[]) (F:=[]) (M:=[]) (M':=[]) hn hB trivial trivial;refine Gp (⟨[BL true],HL 1000000000000 74 H'++[],hfz.loc,hfz.base,⟨⟨_,G,.conv (.same G)⟩,J⟩,G,H',G,hn,hB⟩)
def cJ (l:List AG):Option Bool:=need (decide (l.length<=30000)&&l.all (fun m=>decide (m.length<=1000000))) (some true)
end Go.Proofs.YtbgfgnddogfpcaaGreat
