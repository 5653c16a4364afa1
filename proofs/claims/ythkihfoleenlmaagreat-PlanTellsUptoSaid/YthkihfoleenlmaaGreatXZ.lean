/- Walks of functions. -/
import Derived.Test.YthkihfoleenlmaaGreatXY
set_option maxRecDepth 100000
set_option maxHeartbeats 1000000
set_option linter.unusedVariables false
set_option linter.unusedSimpArgs false
namespace Go.Proofs.YthkihfoleenlmaaGreat
open Go.RowKit

theorem Zv {f:FuncId} {fn:Func} {TLL TL:TypeId} {p0 p1 p2 p3 p4 p5 p6 p7 p8 p9 p q r s t u v w x y z b0 b1 b2 b3 b4 b5 b6 b7 b8 b9:String} {a0 a1 a2 a3 a4 a5 a6 a7 a8 a9 a10 a11 a12 a13 a14 a15 a16 a17 a18 a19 a20 a21 a22 a23 a24 a25 a26 a27 a28 a29 a30:Array Edge} {x0 x1 x2 x3 x4:Code} (hf:Ek.funcs[f]? = some fn) (hb:fn.body=some (.seq (.region 0 #[⟨some 2,.assign (.const (.bool false)),4,p0,a0,none⟩] false) (.seq (.seq (.region 1 #[⟨some 3,.assign (.const E0),3,p1,a1,none⟩] false) (.block 0 (.loop (.seq (.seq (.region 2 #[⟨some 16,.move (.tmp 3),3,p2,a2,none⟩,⟨some 17,.move (.tmp 0),TLL,p3,a3,none⟩,⟨some 18,.call { callee:=.builtin .len,args:=#[(.tmp 17)],argTypes:=#[TLL] },3,p4,a4,none⟩,⟨some 19,.binOp .lss 3 (.tmp 16) (.tmp 18) 3,4,p5,a5,none⟩] false) (.cond (.tmp 19) .skip (.exit 0))) x0)))) (.seq (.region 8 #[⟨some 40,.move (.tmp 0),TLL,p6,a6,none⟩,⟨some 41,.call { callee:=.builtin .len,args:=#[(.tmp 40)],argTypes:=#[TLL] },3,p7,a7,none⟩,⟨some 42,.makeSlice TLL (.tmp 41) (.tmp 41),TLL,p8,a8,none⟩,⟨some 5,.assign (.tmp 42),TLL,p9,a9,none⟩] false) (.seq (.seq (.region 9 #[⟨some 6,.assign (.const E0),3,p,a10,none⟩] false) (.block 4 (.loop (.seq (.seq (.region 10 #[⟨some 43,.move (.tmp 6),3,q,a11,none⟩,⟨some 44,.move (.tmp 0),TLL,r,a12,none⟩,⟨some 45,.call { callee:=.builtin .len,args:=#[(.tmp 44)],argTypes:=#[TLL] },3,s,a13,none⟩,⟨some 46,.binOp .lss 3 (.tmp 43) (.tmp 45) 3,4,t,a14,none⟩] false) (.cond (.tmp 46) .skip (.exit 4))) x1)))) (.seq (.seq (.region 18 #[⟨some 9,.assign (.const E0),3,u,a15,none⟩] false) (.block 8 (.loop (.seq (.seq (.region 19 #[⟨some 73,.move (.tmp 9),3,v,a16,none⟩,⟨some 74,.move (.tmp 0),TLL,w,a17,none⟩,⟨some 75,.call { callee:=.builtin .len,args:=#[(.tmp 74)],argTypes:=#[TLL] },3,x,a18,none⟩,⟨some 76,.binOp .lss 3 (.tmp 73) (.tmp 75) 3,4,y,a19,none⟩] false) (.cond (.tmp 76) .skip (.exit 8))) x2)))) (.seq (.seq (.region 26 #[⟨some 11,.assign (.const E0),3,z,a20,none⟩] false) (.block 12 (.loop (.seq (.seq (.region 27 #[⟨some 123,.move (.tmp 11),3,b0,a21,none⟩,⟨some 124,.move (.tmp 0),TLL,b1,a22,none⟩,⟨some 125,.call { callee:=.builtin .len,args:=#[(.tmp 124)],argTypes:=#[TLL] },3,b2,a23,none⟩,⟨some 126,.binOp .lss 3 (.tmp 123) (.tmp 125) 3,4,b3,a24,none⟩] false) (.cond (.tmp 126) .skip (.exit 12))) x3)))) (.seq (.seq (.region 35 #[⟨some 14,.assign (.const E0),3,b4,a25,none⟩] false) (.block 16 (.loop (.seq (.seq (.region 36 #[⟨some 152,.move (.tmp 14),3,b5,a26,none⟩,⟨some 153,.move (.tmp 0),TLL,b6,a27,none⟩,⟨some 154,.call { callee:=.builtin .len,args:=#[(.tmp 153)],argTypes:=#[TLL] },3,b7,a28,none⟩,⟨some 155,.binOp .lss 3 (.tmp 152) (.tmp 154) 3,4,b8,a29,none⟩] false) (.cond (.tmp 155) .skip (.exit 16))) x4)))) (.seq (.region 43 #[⟨some 2,.assign (.const (.bool true)),4,b9,a30,none⟩] false) .ret))))))))) (hres:fn.results=#[.tmp 2]) (hn:fn.ntmps=193) (hT:sliceB Ek TLL TL 1=true) (hE:Qo Ek TL 1 24=true):Pure Ek f [.sc (.slice none 0 0)] (·=BL true):=by
 refine Gy [.tmp 2] hf hb hres ?_
 rw [hn]
 refine Jr fun c0=>(JLm (BL false) G (G5 (c0 (Js fun d=>Jr fun g=>(JLm (I64 0) G (G5 (g (Gf (dP (X:=Unit) (fun _=>True) (fun _=>[(0,.sc (.slice none 0 0)),(3,I64 0)]) (fun _=>[]) (fun _=>0) () U ⟨(.sm G G),U,G⟩ ?_)))))))))
 rintro⟨⟩ - K e
 refine Js fun b=>Jr fun a=>(JLm (I64 0) G (JLm (.sc (.slice none 0 0)) G (JLh (I64 ((0:Nat):Int)) (rO G hT G) G (JLh (BL (decide ((0:Int) < ((0:Nat):Int)))) (Hr G G G) G (G5 (a (Gg rfl (fun hb=>absurd hb (by decide)) (fun hb=>H9 (d (Jr fun c1=>(JLm (.sc (.slice none 0 0)) G (JLh (I64 ((0:Nat):Int)) (rO G hT G) G (JLh (.own 1 0 1 []) (fD (c:=0) 1 G G G G hT hE G G G) G (JLm (.own 1 0 1 []) G (G5 (c1 (Js fun h=>Jr fun i=>(JLm (I64 0) G (G5 (i (Gf (dP (X:=Unit) (fun _=>True) (fun _=>[(0,.sc (.slice none 0 0)),(6,I64 0)]) (fun _=>[]) (fun _=>0) () U ⟨(.sm G G),U,G⟩ ?_))))))))))))))))))))))
 rintro⟨⟩ - K e
 refine Js fun b=>Jr fun a=>(JLm (I64 0) G (JLm (.sc (.slice none 0 0)) G (JLh (I64 ((0:Nat):Int)) (rO G hT G) G (JLh (BL (decide ((0:Int) < ((0:Nat):Int)))) (Hr G G G) G (G5 (a (Gg rfl (fun hb=>absurd hb (by decide)) (fun hb=>H9 (h (Js fun j=>Jr fun k=>(JLm (I64 0) G (G5 (k (Gf (dP (X:=Unit) (fun _=>True) (fun _=>[(0,.sc (.slice none 0 0)),(9,I64 0)]) (fun _=>[]) (fun _=>0) () U ⟨(.sm G G),U,G⟩ ?_)))))))))))))))
 rintro⟨⟩ - K e
 refine Js fun b=>Jr fun a=>(JLm (I64 0) G (JLm (.sc (.slice none 0 0)) G (JLh (I64 ((0:Nat):Int)) (rO G hT G) G (JLh (BL (decide ((0:Int) < ((0:Nat):Int)))) (Hr G G G) G (G5 (a (Gg rfl (fun hb=>absurd hb (by decide)) (fun hb=>H9 (j (Js fun l=>Jr fun m=>(JLm (I64 0) G (G5 (m (Gf (dP (X:=Unit) (fun _=>True) (fun _=>[(0,.sc (.slice none 0 0)),(11,I64 0)]) (fun _=>[]) (fun _=>0) () U ⟨(.sm G G),U,G⟩ ?_)))))))))))))))
 rintro⟨⟩ - K e
 refine Js fun b=>Jr fun a=>(JLm (I64 0) G (JLm (.sc (.slice none 0 0)) G (JLh (I64 ((0:Nat):Int)) (rO G hT G) G (JLh (BL (decide ((0:Int) < ((0:Nat):Int)))) (Hr G G G) G (G5 (a (Gg rfl (fun hb=>absurd hb (by decide)) (fun hb=>H9 (l (Js fun n=>Jr fun o=>(JLm (I64 0) G (G5 (o (Gf (dP (X:=Unit) (fun _=>True) (fun _=>[(0,.sc (.slice none 0 0)),(14,I64 0)]) (fun _=>[]) (fun _=>0) () U ⟨(.sm G G),U,G⟩ ?_)))))))))))))))
 rintro⟨⟩ - K e
 refine Js fun b=>Jr fun a=>(JLm (I64 0) G (JLm (.sc (.slice none 0 0)) G (JLh (I64 ((0:Nat):Int)) (rO G hT G) G (JLh (BL (decide ((0:Int) < ((0:Nat):Int)))) (Hr G G G) G (G5 (a (Gg rfl (fun hb=>absurd hb (by decide)) (fun hb=>H9 (n (Jr fun c2=>(JLm (BL true) G (G5 (c2 (Gs (⟨[BL true],[],U,G,⟨⟨_,G,.conv (.same G)⟩,U⟩,G,G⟩)))))))))))))))
namespace APF
theorem cl0:H7 Ek 144=true:=by kernel_rfl
theorem fd0:Jm Ek 135 0 0=true:=by kernel_rfl
theorem sc0:Jc Ek 35=true:=by kernel_rfl
theorem sl1:sliceB Ek 116 277 1=true:=by kernel_rfl
theorem cl1:H7 Ek 145=true:=by kernel_rfl
theorem fd1:Jm Ek 135 1 1=true:=by kernel_rfl
theorem sc1:Jc Ek 116=true:=by kernel_rfl
theorem el1:Qo Ek 277 1 24=true:=by kernel_rfl
theorem fl1:Pure Ek 145 [.sc (.slice none 0 0)] (·=BL true):=Zv Tryz.func145 rfl rfl rfl sl1 el1
theorem sl2:sliceB Ek 117 261 1=true:=by kernel_rfl
theorem cl2:H7 Ek 146=true:=by kernel_rfl
theorem fd2:Jm Ek 135 2 2=true:=by kernel_rfl
theorem sc2:Jc Ek 117=true:=by kernel_rfl
theorem el2:Qo Ek 261 1 24=true:=by kernel_rfl
theorem fl2:Pure Ek 146 [.sc (.slice none 0 0)] (·=BL true):=Zv Tryz.func146 rfl rfl rfl sl2 el2
theorem sl3:sliceB Ek 118 22 1=true:=by kernel_rfl
theorem cl3:H7 Ek 147=true:=by kernel_rfl
theorem fd3:Jm Ek 135 3 3=true:=by kernel_rfl
theorem sc3:Jc Ek 118=true:=by kernel_rfl
theorem el3:Qo Ek 22 1 24=true:=by kernel_rfl
theorem fl3:Pure Ek 147 [.sc (.slice none 0 0)] (·=BL true):=Zv Tryz.func147 rfl rfl rfl sl3 el3
theorem sl4:sliceB Ek 119 23 1=true:=by kernel_rfl
theorem cl4:H7 Ek 148=true:=by kernel_rfl
theorem fd4:Jm Ek 135 4 4=true:=by kernel_rfl
theorem sc4:Jc Ek 119=true:=by kernel_rfl
theorem el4:Qo Ek 23 1 24=true:=by kernel_rfl
theorem fl4:Pure Ek 148 [.sc (.slice none 0 0)] (·=BL true):=Zv Tryz.func148 rfl rfl rfl sl4 el4
theorem sl5:sliceB Ek 120 26 1=true:=by kernel_rfl
theorem cl5:H7 Ek 149=true:=by kernel_rfl
theorem fd5:Jm Ek 135 5 5=true:=by kernel_rfl
theorem sc5:Jc Ek 120=true:=by kernel_rfl
theorem el5:Qo Ek 26 1 24=true:=by kernel_rfl
theorem fl5:Pure Ek 149 [.sc (.slice none 0 0)] (·=BL true):=Zv Tryz.func149 rfl rfl rfl sl5 el5
theorem sl6:sliceB Ek 121 27 1=true:=by kernel_rfl
theorem cl6:H7 Ek 150=true:=by kernel_rfl
theorem fd6:Jm Ek 135 6 6=true:=by kernel_rfl
theorem sc6:Jc Ek 121=true:=by kernel_rfl
theorem el6:Qo Ek 27 1 24=true:=by kernel_rfl
theorem fl6:Pure Ek 150 [.sc (.slice none 0 0)] (·=BL true):=Zv Tryz.func150 rfl rfl rfl sl6 el6
theorem sl7:sliceB Ek 122 28 1=true:=by kernel_rfl
theorem cl7:H7 Ek 151=true:=by kernel_rfl
theorem fd7:Jm Ek 135 7 7=true:=by kernel_rfl
theorem sc7:Jc Ek 122=true:=by kernel_rfl
theorem el7:Qo Ek 28 1 24=true:=by kernel_rfl
theorem fl7:Pure Ek 151 [.sc (.slice none 0 0)] (·=BL true):=Zv Tryz.func151 rfl rfl rfl sl7 el7
theorem sl8:sliceB Ek 123 280 1=true:=by kernel_rfl
theorem cl8:H7 Ek 152=true:=by kernel_rfl
theorem fd8:Jm Ek 135 8 8=true:=by kernel_rfl
theorem sc8:Jc Ek 123=true:=by kernel_rfl
theorem el8:Qo Ek 280 1 24=true:=by kernel_rfl
theorem fl8:Pure Ek 152 [.sc (.slice none 0 0)] (·=BL true):=Zv Tryz.func152 rfl rfl rfl sl8 el8
theorem sl9:sliceB Ek 124 188 1=true:=by kernel_rfl
theorem cl9:H7 Ek 153=true:=by kernel_rfl
theorem fd9:Jm Ek 135 9 9=true:=by kernel_rfl
theorem sc9:Jc Ek 124=true:=by kernel_rfl
theorem el9:Qo Ek 188 1 24=true:=by kernel_rfl
theorem fl9:Pure Ek 153 [.sc (.slice none 0 0)] (·=BL true):=Zv Tryz.func153 rfl rfl rfl sl9 el9
theorem sl10:sliceB Ek 125 33 1=true:=by kernel_rfl
theorem cl10:H7 Ek 154=true:=by kernel_rfl
theorem fd10:Jm Ek 135 10 10=true:=by kernel_rfl
theorem sc10:Jc Ek 125=true:=by kernel_rfl
theorem el10:Qo Ek 33 1 24=true:=by kernel_rfl
theorem fl10:Pure Ek 154 [.sc (.slice none 0 0)] (·=BL true):=Zv Tryz.func154 rfl rfl rfl sl10 el10
theorem sl11:sliceB Ek 34 74 1=true:=by kernel_rfl
theorem cl11:H7 Ek 155=true:=by kernel_rfl
theorem fd11:Jm Ek 135 11 11=true:=by kernel_rfl
theorem sc11:Jc Ek 34=true:=by kernel_rfl
theorem el11:Qo Ek 74 1 24=true:=by kernel_rfl
theorem fl11:Pure Ek 155 [.sc (.slice none 0 0)] (·=BL true):=Zv Tryz.func155 rfl rfl rfl sl11 el11
theorem sl12:sliceB Ek 126 34 1=true:=by kernel_rfl
theorem cl12:H7 Ek 156=true:=by kernel_rfl
theorem fd12:Jm Ek 135 12 12=true:=by kernel_rfl
theorem sc12:Jc Ek 126=true:=by kernel_rfl
theorem el12:Qo Ek 34 1 24=true:=by kernel_rfl
theorem fl12:Pure Ek 156 [.sc (.slice none 0 0)] (·=BL true):=Zv Tryz.func156 rfl rfl rfl sl12 el12
theorem sl13:sliceB Ek 127 35 1=true:=by kernel_rfl
theorem cl13:H7 Ek 157=true:=by kernel_rfl
theorem fd13:Jm Ek 135 13 13=true:=by kernel_rfl
theorem sc13:Jc Ek 127=true:=by kernel_rfl
theorem el13:Qo Ek 35 1 24=true:=by kernel_rfl
theorem fl13:Pure Ek 157 [.sc (.slice none 0 0)] (·=BL true):=Zv Tryz.func157 rfl rfl rfl sl13 el13
theorem sl14:sliceB Ek 128 283 1=true:=by kernel_rfl
theorem cl14:H7 Ek 158=true:=by kernel_rfl
theorem fd14:Jm Ek 135 14 14=true:=by kernel_rfl
theorem sc14:Jc Ek 128=true:=by kernel_rfl
theorem el14:Qo Ek 283 1 24=true:=by kernel_rfl
theorem fl14:Pure Ek 158 [.sc (.slice none 0 0)] (·=BL true):=Zv Tryz.func158 rfl rfl rfl sl14 el14
theorem sl15:sliceB Ek 129 285 1=true:=by kernel_rfl
theorem cl15:H7 Ek 159=true:=by kernel_rfl
theorem fd15:Jm Ek 135 15 15=true:=by kernel_rfl
theorem sc15:Jc Ek 129=true:=by kernel_rfl
theorem el15:Qo Ek 285 1 24=true:=by kernel_rfl
theorem fl15:Pure Ek 159 [.sc (.slice none 0 0)] (·=BL true):=Zv Tryz.func159 rfl rfl rfl sl15 el15
theorem sl16:sliceB Ek 63 137 1=true:=by kernel_rfl
theorem cl16:H7 Ek 160=true:=by kernel_rfl
theorem fd16:Jm Ek 135 16 16=true:=by kernel_rfl
theorem sc16:Jc Ek 63=true:=by kernel_rfl
theorem el16:Qo Ek 137 1 24=true:=by kernel_rfl
theorem fl16:Pure Ek 160 [.sc (.slice none 0 0)] (·=BL true):=Zv Tryz.func160 rfl rfl rfl sl16 el16
theorem sl17:sliceB Ek 130 63 1=true:=by kernel_rfl
theorem cl17:H7 Ek 161=true:=by kernel_rfl
theorem fd17:Jm Ek 135 17 17=true:=by kernel_rfl
theorem sc17:Jc Ek 130=true:=by kernel_rfl
theorem el17:Qo Ek 63 1 24=true:=by kernel_rfl
theorem fl17:Pure Ek 161 [.sc (.slice none 0 0)] (·=BL true):=Zv Tryz.func161 rfl rfl rfl sl17 el17
theorem sl18:sliceB Ek 131 291 1=true:=by kernel_rfl
theorem cl18:H7 Ek 162=true:=by kernel_rfl
theorem fd18:Jm Ek 135 18 18=true:=by kernel_rfl
theorem sc18:Jc Ek 131=true:=by kernel_rfl
theorem el18:Qo Ek 291 1 24=true:=by kernel_rfl
theorem fl18:Pure Ek 162 [.sc (.slice none 0 0)] (·=BL true):=Zv Tryz.func162 rfl rfl rfl sl18 el18
theorem sl19:sliceB Ek 132 295 1=true:=by kernel_rfl
theorem cl19:H7 Ek 163=true:=by kernel_rfl
theorem fd19:Jm Ek 135 19 19=true:=by kernel_rfl
theorem sc19:Jc Ek 132=true:=by kernel_rfl
theorem el19:Qo Ek 295 1 24=true:=by kernel_rfl
theorem fl19:Pure Ek 163 [.sc (.slice none 0 0)] (·=BL true):=Zv Tryz.func163 rfl rfl rfl sl19 el19
theorem sl20:sliceB Ek 133 299 1=true:=by kernel_rfl
theorem cl20:H7 Ek 164=true:=by kernel_rfl
theorem fd20:Jm Ek 135 20 20=true:=by kernel_rfl
theorem sc20:Jc Ek 133=true:=by kernel_rfl
theorem el20:Qo Ek 299 1 24=true:=by kernel_rfl
theorem fl20:Pure Ek 164 [.sc (.slice none 0 0)] (·=BL true):=Zv Tryz.func164 rfl rfl rfl sl20 el20
end APF
open APF SFF
theorem aY {N:Cfg} {Q:Post} {ops:Array Oper} {rest:List Oper} {l:Fr} {L:Loc} {cs:List AV} {TB TF fi gi g a b c d e m n:Nat} {f:FuncId} {t1 t2 t3 t4 t5 t6 t7:TypeId} {h j k o p q r:String} {s t v w y z e7:Array Edge}
  (hl:look l 0=.dptr cs) (hgi:(ops[gi]?).bind (·.dst)=some g) (hF:Jm Ek TB fi fi=true) (hc:(cs.drop fi)[0]? = some (.sc (.slice none 0 0))) (hS:Jc Ek TF=true) (hf:Pure Ek f [.sc (.slice none 0 0)] (·=BL true)) (hB:H7 Ek f=true)
  (hn:[a,b,c,d,e,m,n,g].all (fun x=>Nat.blt x N.n)=true) (hd:[a,b,c,d,e].all (fun x=>!Nat.beq x g)=true) (hg:look l g=BL true)
  (hk:JL Ek N ops rest Q ((n,BL true)::(m,BL true)::(e,BL true)::(d,.sc (.slice none 0 0))::(c,.dptr (cs.drop fi))::(b,.dptr cs)::(a,.dptr cs)::l) L) :
  JL Ek N ops (⟨some a,.move (.tmp 0),t1,h,s,some (gi,true)⟩::⟨some b,.nilCheck (.tmp a),t2,j,t,some (gi,true)⟩::⟨some c,.fieldAddr TB (.tmp b) fi,t3,k,v,some (gi,true)⟩::⟨some d,.load TF (.tmp c),t4,o,w,some (gi,true)⟩::⟨some e,.call { callee:=.value (.func f),args:=#[.tmp d],argTypes:=#[TF] },t5,p,y,some (gi,true)⟩::⟨some m,.pick (.tmp g) (.tmp e) (.const (.bool false)),t6,q,z,none⟩::⟨some n,.move (.tmp m),t7,r,e7,none⟩::rest) Q l L:=by
 simp only [List.all_cons,List.all_nil,Bool.and_true,Pp,Bool.not_eq_true'] at hn hd
 obtain⟨na,nb,nc,nd,ne,nm,nn,ng⟩:=hn
 obtain⟨da,db,dc,dd,de⟩:=hd
 have hh:∀ (i:Nat) (u:AV) (l:Fr),look ((i,u)::l) i=u:=fun i u l=>by simp [look]
 have g1:look ((a,.dptr cs)::l) g=BL true:=by simp [look,da,hg]
 have g2:look ((b,.dptr cs)::(a,.dptr cs)::l) g=BL true:=by simp [look,da,db,hg]
 have g3:look ((c,.dptr (cs.drop fi))::(b,.dptr cs)::(a,.dptr cs)::l) g=BL true:=by simp [look,da,db,dc,hg]
 have g4:look ((d,.sc (.slice none 0 0))::(c,.dptr (cs.drop fi))::(b,.dptr cs)::(a,.dptr cs)::l) g=BL true:=by simp [look,da,db,dc,dd,hg]
 have g5:look ((e,BL true)::(d,.sc (.slice none 0 0))::(c,.dptr (cs.drop fi))::(b,.dptr cs)::(a,.dptr cs)::l) g=BL true:=by simp [look,da,db,dc,dd,de,hg]
 refine gG G hgi hg (.sct (b:=true)) (G3 G hl) ?_ G na ng
 refine gG G hgi g1 (.sct (b:=true)) (Ha7 G (hh ..)) ?_ G nb ng
 refine gG G hgi g2 (.sct (b:=true)) (YW hF G (hh ..)) ?_ G nc ng
 refine gG G hgi g3 (.sct (b:=true)) (Ge hS G (hh ..) hc) ?_ G nd ng
 refine gG G hgi g4 (.sct (b:=true)) (Gi (xs:=[.tmp d]) (args:=[.sc (.slice none 0 0)]) G hf hB ⟨congrArg AV.plain (hh ..),G,U⟩) ?_ G ne ng
 refine G0 (rP true G g5 (hh ..)) ?_ G G nm
 exact G0 (G3 G (hh ..)) hk G G nn
def zN (u:AV):List AV:=[u,.sc (.slice none 0 0),.sc (.slice none 0 0),.sc (.slice none 0 0),.sc (.slice none 0 0),.sc (.slice none 0 0),.sc (.slice none 0 0),.sc (.slice none 0 0),.sc (.slice none 0 0),.sc (.slice none 0 0),.sc (.slice none 0 0),.sc (.slice none 0 0),.sc (.slice none 0 0),.sc (.slice none 0 0),.sc (.slice none 0 0),.sc (.slice none 0 0),.sc (.slice none 0 0),.sc (.slice none 0 0),.sc (.slice none 0 0),.sc (.slice none 0 0),.sc (.slice none 0 0)]
theorem J08 (es:List Raw) (H0:Hp) (O0:Nat→Nat) (hlen:es.length≤1000) (hrn:∀ (j:Nat) e,es[j]? = some e→rn e≤1000000) (hok:∀ (j:Nat) e,es[j]? = some e→∀ b n c,e=some (b,n,c)→∃ cs,hg H0 b=some cs/\n≤c/\c≤maxLen/\cs.length=c*1) (hO:Ow O0 es) (hnd:(H0.map Prod.fst).Nodup):Rb Ek 66 [.dptr (zN (Ea es))] (HL 1000000000000 3 H0++[]) (fun r L'=>r=BL true/\∃ H',L'=HL 1000000000000 3 H'++[]/\(H'.map Prod.fst).Nodup/\Bs H0 H'):=by
 refine fL (H0.map fun e=>1000000000000+e.1) [.tmp 2] Tryz.func66 G G Gb0 (Jr fun a=>(JLm (BL false) G (G5 (a (Jr fun d=>(JLm (.dptr (zN (Ea es))) G (JLh (.dptr (zN (Ea es))) (Ha7 G G) G (JLh (.dptr ((zN (Ea es)).drop 0)) (YW fd0 G G) G (JLh (Ea es) (Ge sc0 G G G) G (uV G G G (JV G (Hfe es H0 O0 hlen hrn hok hO hnd) cl0 ⟨G,U⟩) ?_))))))))))
 rintro _ _ ⟨rfl,H',rfl,hn,hB⟩
 refine JLm (BL true) G (aY G G fd1 G sc1 fl1 cl1 G G G (aY G G fd2 G sc2 fl2 cl2 G G G (aY G G fd3 G sc3 fl3 cl3 G G G (aY G G fd4 G sc4 fl4 cl4 G G G (aY G G fd5 G sc5 fl5 cl5 G G G (aY G G fd6 G sc6 fl6 cl6 G G G (aY G G fd7 G sc7 fl7 cl7 G G G (aY G G fd8 G sc8 fl8 cl8 G G G (aY G G fd9 G sc9 fl9 cl9 G G G (aY G G fd10 G sc10 fl10 cl10 G G G (aY G G fd11 G sc11 fl11 cl11 G G G (aY G G fd12 G sc12 fl12 cl12 G G G (aY G G fd13 G sc13 fl13 cl13 G G G (aY G G fd14 G sc14 fl14 cl14 G G G (aY G G fd15 G sc15 fl15 cl15 G G G (aY G G fd16 G sc16 fl16 cl16 G G G (aY G G fd17 G sc17 fl17 cl17 G G G (aY G G fd18 G sc18 fl18 cl18 G G G (aY G G fd19 G sc19 fl19 cl19 G G G ?_)))))))))))))))))))
 refine gG (u:=.dptr (zN (Ea es))) G G G (.sct (b:=true)) (G3 G G) ?_ G G G
 refine gG (u:=.dptr (zN (Ea es))) G G G (.sct (b:=true)) (Ha7 G G) ?_ G G G
 refine gG (u:=.dptr ((zN (Ea es)).drop 20)) G G G (.sct (b:=true)) (YW fd20 G G) ?_ G G G
 refine gG (u:=.sc (.slice none 0 0)) G G G (.sct (b:=true)) (Ge sc20 G G G) ?_ G G G
 refine gG (u:=BL true) G G G (.sct (b:=true)) (Gi G fl20 cl20 ⟨G,G,U⟩) ?_ G G G
 refine JLh (BL true) (rP true G G G) G (JLm (BL true) G (G5 (d (Gs ?_))))
 have hfz:=dC (p:=1000000000000) (E:=3) (l:=[]) (F:=[]) (M:=[]) (M':=[]) hn hB trivial trivial
 exact⟨[BL true],HL 1000000000000 3 H'++[],hfz.loc,hfz.base,⟨⟨_,G,.conv (.same G)⟩,U⟩,G,H',G,hn,hB⟩
namespace APF
theorem szLL:Rc Ek 35 1=true:=by kernel_rfl
theorem scLL:Jc Ek 35=true:=by kernel_rfl
theorem zszL:Yf Ek 51 1=true:=by kernel_rfl
theorem plB:placesOf Ek 135=some [(0,1),(1,1),(2,1),(3,1),(4,1),(5,1),(6,1),(7,1),(8,1),(9,1),(10,1),(11,1),(12,1),(13,1),(14,1),(15,1),(16,1),(17,1),(18,1),(19,1),(20,1)]:=by kernel_rfl
theorem Q21:(Ek.info? 135).bind (fun i=>i.zero.map Value.cells)=some ([.slice none 0 0,.slice none 0 0,.slice none 0 0,.slice none 0 0,.slice none 0 0,.slice none 0 0,.slice none 0 0,.slice none 0 0,.slice none 0 0,.slice none 0 0,.slice none 0 0,.slice none 0 0,.slice none 0 0,.slice none 0 0,.slice none 0 0,.slice none 0 0,.slice none 0 0,.slice none 0 0,.slice none 0 0,.slice none 0 0,.slice none 0 0]:List Value).toArray:=by kernel_rfl
theorem clP:H7 Ek 65=true:=by kernel_rfl
theorem clA:H7 Ek 66=true:=by kernel_rfl
end APF
abbrev Ja3 (xs:List Raw):Loc:=[(1043,.box 135 (zN (OW 1044 1 RA xs))),(1044,.spare 51 1 xs.length xs.length)]
theorem Ja2 (xs:List Raw) (e:Raw) (hx:xs.length≤1000):Rb Ek 65 [.ptr 1043 0,RA e] (Ja3 xs) (fun r L'=>∃ p:Unit,r=.tup []/\L'=Ja3 (xs++[e])):=by
 refine fL [1043,1044] [] Tryz.func65 G G (G88 G) (G1 ?_)
 refine JLm (.ptr 1043 0) G (JLm (.ptr 1043 0) G (JLh (.ptr 1043 0) (H43 G G) G (JLh (.ptr 1043 0) (Z9 fd0 G G) G (JLh (OW 1044 1 RA xs) (Zp scLL G G G G) G (JLm (RA e) G (JLh (.list 1 [RA e]) (Hf (xs:=[RA e]) rfl ⟨rfl,rfl,U⟩ mG zszL rfl (by rcases e with _ | ⟨b,n,c⟩ <;> rfl) rfl rfl) G (JLh (OW 1044 1 RA (xs++[e])) (oO (f:=RA) (xs:=xs) (ys:=[e]) rfl rfl rfl rfl mG elL (P8 ⟨by simp only [Po]; omega,by simp only [Po,maxLen]; omega⟩) J40 (.inl rfl)) G (JLh (.ptr 1043 0) (H43 G G) G (JLh (.ptr 1043 0) (Z9 fd0 G G) G (J7 (u:=.junk) (Hv (u:=OW 1044 1 RA (xs++[e])) (ds:=zN (OW 1044 1 RA (xs++[e]))) szLL G G G G G G G G) (G5 ?_)))))))))))
 exact⟨[],Ja3 (xs++[e]),⟨⟨_,G,.boxEq G G⟩,⟨_,G,.same⟩,U⟩,G,U,(),G,G⟩
abbrev J09 (xs:List Raw) (H0:Hp):Loc:=(1043,.box 135 (zN (OW 1044 1 RA xs)))::(1044,.spare 51 1 xs.length xs.length)::(HL 1000000000000 3 H0++[])
theorem HC {xs:List Raw} {H0:Hp} {b:Nat} {cs:List AV} (h:hg H0 b=some cs):lk (J09 xs H0) (1000000000000+b)=some (.pin 3 b cs):=by
 show lk ((1043,_)::(1044,_)::(HL 1000000000000 3 H0++[])) _=_
 rw [Gm,if_neg (by omega),Gm,if_neg (by omega)]; exact lJ h
theorem JH {xs:List Raw} {H0:Hp} {l F:Fr} {L:Loc} (hF:lD (fun i=>(lk (J09 xs H0) i).isSome) l F) (a:lk L 1043=some (.box 135 (zN (OW 1044 1 RA xs)))) (c:lk L 1044=some (.spare 51 1 xs.length xs.length)) (d:∀ b cs,hg H0 b=some cs→lk L (1000000000000+b)=some (.pin 3 b cs)) (hn:(H0.map Prod.fst).Nodup):Fits (H0.map fun e=>1000000000000+e.1) l L F (J09 xs H0):=
 ⟨hF,⟨⟨_,a,.boxEq rfl rfl⟩,⟨_,c,.same⟩,GY hn d trivial⟩,HD fun e he=>by
  obtain⟨cs,hcs⟩:=Ny (Bs.refl e he)
  rw [HC hcs]; rfl⟩
theorem H9a (es:List Raw) (H0:Hp) (O0:Nat→Nat) (hlen:es.length≤1000) (hrn:∀ (j:Nat) e,es[j]? = some e→rn e≤1000000) (hok:∀ (j:Nat) e,es[j]? = some e→∀ b n c,e=some (b,n,c)→∃ cs,hg H0 b=some cs/\n≤c/\c≤maxLen/\cs.length=c*1) (hO:Ow O0 es) (hnd:(H0.map Prod.fst).Nodup):Rb Ek 25 [Ea es] (HL 1000000000000 3 H0++[]) (fun r L'=>r=BL true/\∃ H',L'=HL 1000000000000 3 H'++[]/\(H'.map Prod.fst).Nodup/\Bs H0 H'):=by
 refine fL (H0.map fun e=>1000000000000+e.1) [.tmp 2] Tryz.func25 G G Gb0 (Jr fun a=>(JLm (BL false) G (G5 (a ?_))))
 refine Jr fun d=>(JLh (.agg [.sc (.slice none 0 0),.sc (.slice none 0 0),.sc (.slice none 0 0),.sc (.slice none 0 0),.sc (.slice none 0 0),.sc (.slice none 0 0),.sc (.slice none 0 0),.sc (.slice none 0 0),.sc (.slice none 0 0),.sc (.slice none 0 0),.sc (.slice none 0 0),.sc (.slice none 0 0),.sc (.slice none 0 0),.sc (.slice none 0 0),.sc (.slice none 0 0),.sc (.slice none 0 0),.sc (.slice none 0 0),.sc (.slice none 0 0),.sc (.slice none 0 0),.sc (.slice none 0 0),.sc (.slice none 0 0)]) (Jq (cs:=[.sc (.slice none 0 0),.sc (.slice none 0 0),.sc (.slice none 0 0),.sc (.slice none 0 0),.sc (.slice none 0 0),.sc (.slice none 0 0),.sc (.slice none 0 0),.sc (.slice none 0 0),.sc (.slice none 0 0),.sc (.slice none 0 0),.sc (.slice none 0 0),.sc (.slice none 0 0),.sc (.slice none 0 0),.sc (.slice none 0 0),.sc (.slice none 0 0),.sc (.slice none 0 0),.sc (.slice none 0 0),.sc (.slice none 0 0),.sc (.slice none 0 0),.sc (.slice none 0 0),.sc (.slice none 0 0)]) [(0,1),(1,1),(2,1),(3,1),(4,1),(5,1),(6,1),(7,1),(8,1),(9,1),(10,1),(11,1),(12,1),(13,1),(14,1),(15,1),(16,1),(17,1),(18,1),(19,1),(20,1)] [.sc (.slice none 0 0),.sc (.slice none 0 0),.sc (.slice none 0 0),.sc (.slice none 0 0),.sc (.slice none 0 0),.sc (.slice none 0 0),.sc (.slice none 0 0),.sc (.slice none 0 0),.sc (.slice none 0 0),.sc (.slice none 0 0),.sc (.slice none 0 0),.sc (.slice none 0 0),.sc (.slice none 0 0),.sc (.slice none 0 0),.sc (.slice none 0 0),.sc (.slice none 0 0),.sc (.slice none 0 0),.sc (.slice none 0 0),.sc (.slice none 0 0),.sc (.slice none 0 0),.sc (.slice none 0 0)] [.slice none 0 0,.slice none 0 0,.slice none 0 0,.slice none 0 0,.slice none 0 0,.slice none 0 0,.slice none 0 0,.slice none 0 0,.slice none 0 0,.slice none 0 0,.slice none 0 0,.slice none 0 0,.slice none 0 0,.slice none 0 0,.slice none 0 0,.slice none 0 0,.slice none 0 0,.slice none 0 0,.slice none 0 0,.slice none 0 0,.slice none 0 0] plB Q21 (zzQ G) G G) G (JLh (.ptr 1043 0) (Jy 1043 rfl rfl rfl rfl ((Za (by decide) H0).trans rfl)) G (JLm (.ptr 1043 0) G ?_)))
 refine G3a 1043 0 1044 51 1 rfl (by rw [Gm,if_neg (by decide)]; exact(Za (by decide) H0).trans rfl) rfl (rfl:_=zN (OW 1044 1 RA [])) (G5 (d (Zc (X:=Unit) (fun _=>True) (fun _=>[(3,.ptr 1043 0)]) (fun _=>J09 es H0) (fun KA eA=>?_) ?_)))
 ·
  refine Jr fun g=>(JLm (I64 0) G (G5 (g (Gf ?_))))
  refine dP (X:=Nat) (fun k=>k≤es.length) (fun k=>[(0,Ea es),(3,.ptr 1043 0),(4,I64 (k:Int))]) (fun k=>J09 (es.take k) H0) (fun k=>es.length - k) 0 (Nat.zero_le _) (JH (.sm G G) G G (fun b cs h=>by
   show lk ((1043,_)::(1044,_)::(1043,_)::(HL 1000000000000 3 H0++[])) _=_
   rw [Gm,if_neg (by omega),Gm,if_neg (by omega),Gm,if_neg (by omega)]; exact lJ h) hnd) ?_
  intro k hk t i
  dsimp only at hk i ⊢
  refine Js fun m=>Jr fun o=>(JLm (I64 (k:Int)) G (JLm (Ea es) G (JLh (Ej es.length) (Q8 (f:=RA) (xs:=es) mG G G) G (JLh (BL (decide ((k:Int) < (es.length:Int)))) (Hr G G G) G (G5 (o (Gg G (fun hb=>?_) (fun hb=>?_))))))))
  ·
   have hkl:k < es.length:=by have:=P6 hb; omega
   obtain⟨e,he⟩:∃ e,es[k]? = some e:=⟨_,Pb hkl⟩
   have hts:es.take (k+1)=es.take k++[e]:=by rw [List.take_add_one,he]; rfl
   refine Gn (m (Js fun q=>Gf (G1 (JLm (.ptr 1043 0) G (JLm (Ea es) G (JLm (I64 (k:Int)) G (JLh (.dptr [RA e]) (Gr (f:=RA) (xs:=es) (y:=e) G G G mG he G) G (JLh (RA e) (Ge scL G G G) G (uV rfl rfl rfl (H48 (u:=fun _:Unit=>.tup []) (Lr:=fun _=>Ja3 (es.take k++[e])) rfl (Ja2 (es.take k) e (by rw [List.length_take]; omega)) clP ⟨.inl rfl,rfl,.inl rfl,rfl,U⟩ ⟨rfl,rfl,U⟩ rfl (fun _=>rfl)) ?_)))))))))
   rintro _ _ ⟨⟨⟩,rfl,rfl⟩
   refine G5 (q (G1 (JLm (I64 (k:Int)) G (JLh (I64 ((k+1:Nat):Int)) (Hs (by rw [show (k:Int)+1=((k+1:Nat):Int) by omega]; exact dV (by omega) (by omega)) rfl rfl rfl) G (JLm (I64 ((k+1:Nat):Int)) G (G5 (i _ _ (k+1) hkl (by show es.length - (k+1) < es.length - k; omega) ?_)))))))
   rw [hts]
   refine JH (.sm G G) G G (fun b cs h=>?_) hnd
   show lk ((1043,_)::(1044,_)::qY _ _) _=_
   rw [Gm,if_neg (by omega),Gm,if_neg (by omega),Ga9,if_neg (by
    show ¬ (lk ((1043,_)::(1044,_)::[]) _).isSome=true
    rw [Gm,if_neg (by omega),Gm,if_neg (by omega)]; exact Bool.false_ne_true)]
   exact HC h
  ·
   have hke:k=es.length:=by have:=P7 hb; omega
   subst hke
   refine H9 (eA _ _ () U ?_)
   rw [List.take_length]
   exact JH ⟨.same G,U⟩ G G (fun b cs h=>HC h) hnd
 rintro⟨⟩ -
 have hfz:=dC (p:=1000000000000) (E:=3) (l:=[]) (F:=[]) (M:=[]) (M':=[]) hnd Bs.refl trivial trivial
 have hone:Fits (H0.map fun e=>1000000000000+e.1) [(3,.ptr 1043 0)] (J09 es H0) [(3,.ptr 1043 0)] ((1043,Jn.box 135 (zN (Ea es)))::(HL 1000000000000 3 H0++[])):=by
  refine⟨⟨.same rfl,U⟩,⟨⟨_,rfl,.box rfl (tI.get (by exact⟨.list rfl,.same rfl,.same rfl,.same rfl,.same rfl,.same rfl,.same rfl,.same rfl,.same rfl,.same rfl,.same rfl,.same rfl,.same rfl,.same rfl,.same rfl,.same rfl,.same rfl,.same rfl,.same rfl,.same rfl,.same rfl,U⟩))⟩,GY hnd (fun b cs h=>HC h) U⟩,HD fun e he=>?_⟩
  obtain⟨cs,hcs⟩:=Ny (Bs.refl e he)
  rw [Gm,if_neg (by omega),lJ hcs]; rfl
 refine rM hone (Gw [(3,.dptr (zN (Ea es)))] (HL 1000000000000 3 H0++[]) 1043 rfl rfl ((Za (by decide) H0).trans rfl) (GY hnd (fun b cs h=>by rw [Gm,if_neg (by omega)]; exact lJ h) trivial) hfz.base ⟨.ptr,trivial⟩ (Jr fun s=>(JLm (.dptr (zN (Ea es))) G (uV G G G (JV G (J08 es H0 O0 hlen hrn hok hO hnd) clA ⟨G,U⟩) ?_))))
 rintro _ _ ⟨rfl,H',rfl,hn,hB⟩
 refine JLm (BL true) G (G5 (s ?_))
 have hfz:=dC (p:=1000000000000) (E:=3) (l:=[]) (F:=[]) (M:=[]) (M':=[]) hn hB trivial trivial
 refine Gs (⟨[BL true],HL 1000000000000 3 H'++[],hfz.loc,hfz.base,⟨⟨_,G,.conv (.same G)⟩,U⟩,G,H',G,hn,hB⟩)
def eM (l:List (List Int)):Option Bool:=need (decide (l.length≤1000)&&l.all (fun m=>decide (m.length≤1000000))) (some true)
end Go.Proofs.YthkihfoleenlmaaGreat
