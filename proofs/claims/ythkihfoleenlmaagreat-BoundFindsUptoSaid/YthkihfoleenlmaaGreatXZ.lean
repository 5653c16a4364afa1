/- Walks of functions. -/
import Derived.Test.YthkihfoleenlmaaGreatXY
set_option maxRecDepth 100000
set_option maxHeartbeats 1000000
set_option linter.unusedVariables false
set_option linter.unusedSimpArgs false
namespace Go.Proofs.YthkihfoleenlmaaGreat
open Go.RowKit

theorem Z5 {f:FuncId} {fn:Func} {TLL TL:TypeId} {p0 p1 p2 p3 p4 p5 p6 p7 p8 p9 p q r s t u v w x y z b0 b1 b2 b3 b4 b5 b6 b7 b8 b9:String} {a0 a1 a2 a3 a4 a5 a6 a7 a8 a9 a10 a11 a12 a13 a14 a15 a16 a17 a18 a19 a20 a21 a22 a23 a24 a25 a26 a27 a28 a29 a30:Array Edge} {x0 x1 x2 x3 x4:Code} (hf:Ej.funcs[f]? = some fn) (hb:fn.body=some (.seq (.region 0 #[⟨some 2,.assign (.const (.bool false)),4,p0,a0,none⟩] false) (.seq (.seq (.region 1 #[⟨some 3,.assign (.const E0),3,p1,a1,none⟩] false) (.block 0 (.loop (.seq (.seq (.region 2 #[⟨some 16,.move (.tmp 3),3,p2,a2,none⟩,⟨some 17,.move (.tmp 0),TLL,p3,a3,none⟩,⟨some 18,.call { callee:=.builtin .len,args:=#[(.tmp 17)],argTypes:=#[TLL] },3,p4,a4,none⟩,⟨some 19,.binOp .lss 3 (.tmp 16) (.tmp 18) 3,4,p5,a5,none⟩] false) (.cond (.tmp 19) .skip (.exit 0))) x0)))) (.seq (.region 8 #[⟨some 40,.move (.tmp 0),TLL,p6,a6,none⟩,⟨some 41,.call { callee:=.builtin .len,args:=#[(.tmp 40)],argTypes:=#[TLL] },3,p7,a7,none⟩,⟨some 42,.makeSlice TLL (.tmp 41) (.tmp 41),TLL,p8,a8,none⟩,⟨some 5,.assign (.tmp 42),TLL,p9,a9,none⟩] false) (.seq (.seq (.region 9 #[⟨some 6,.assign (.const E0),3,p,a10,none⟩] false) (.block 4 (.loop (.seq (.seq (.region 10 #[⟨some 43,.move (.tmp 6),3,q,a11,none⟩,⟨some 44,.move (.tmp 0),TLL,r,a12,none⟩,⟨some 45,.call { callee:=.builtin .len,args:=#[(.tmp 44)],argTypes:=#[TLL] },3,s,a13,none⟩,⟨some 46,.binOp .lss 3 (.tmp 43) (.tmp 45) 3,4,t,a14,none⟩] false) (.cond (.tmp 46) .skip (.exit 4))) x1)))) (.seq (.seq (.region 18 #[⟨some 9,.assign (.const E0),3,u,a15,none⟩] false) (.block 8 (.loop (.seq (.seq (.region 19 #[⟨some 73,.move (.tmp 9),3,v,a16,none⟩,⟨some 74,.move (.tmp 0),TLL,w,a17,none⟩,⟨some 75,.call { callee:=.builtin .len,args:=#[(.tmp 74)],argTypes:=#[TLL] },3,x,a18,none⟩,⟨some 76,.binOp .lss 3 (.tmp 73) (.tmp 75) 3,4,y,a19,none⟩] false) (.cond (.tmp 76) .skip (.exit 8))) x2)))) (.seq (.seq (.region 26 #[⟨some 11,.assign (.const E0),3,z,a20,none⟩] false) (.block 12 (.loop (.seq (.seq (.region 27 #[⟨some 123,.move (.tmp 11),3,b0,a21,none⟩,⟨some 124,.move (.tmp 0),TLL,b1,a22,none⟩,⟨some 125,.call { callee:=.builtin .len,args:=#[(.tmp 124)],argTypes:=#[TLL] },3,b2,a23,none⟩,⟨some 126,.binOp .lss 3 (.tmp 123) (.tmp 125) 3,4,b3,a24,none⟩] false) (.cond (.tmp 126) .skip (.exit 12))) x3)))) (.seq (.seq (.region 35 #[⟨some 14,.assign (.const E0),3,b4,a25,none⟩] false) (.block 16 (.loop (.seq (.seq (.region 36 #[⟨some 152,.move (.tmp 14),3,b5,a26,none⟩,⟨some 153,.move (.tmp 0),TLL,b6,a27,none⟩,⟨some 154,.call { callee:=.builtin .len,args:=#[(.tmp 153)],argTypes:=#[TLL] },3,b7,a28,none⟩,⟨some 155,.binOp .lss 3 (.tmp 152) (.tmp 154) 3,4,b8,a29,none⟩] false) (.cond (.tmp 155) .skip (.exit 16))) x4)))) (.seq (.region 43 #[⟨some 2,.assign (.const (.bool true)),4,b9,a30,none⟩] false) .ret))))))))) (hres:fn.results=#[.tmp 2]) (hn:fn.ntmps=193) (hT:sliceB Ej TLL TL 1=true) (hE:Qd Ej TL 1 24=true):Pure Ej f [.sc (.slice none 0 0)] (·=BL true):=by
 refine Gy [.tmp 2] hf hb hres ?_
 rw [hn]
 refine Jr fun c0=>(JLm (BL false) ø (G7 (c0 (Js fun d=>Jr fun g=>(JLm (I64 0) ø (G7 (g (Gi (bX (X:=Unit) (fun _=>True) (fun _=>[(0,.sc (.slice none 0 0)),(3,I64 0)]) (fun _=>[]) (fun _=>0) () þ ⟨(.sm ø ø),þ,ø⟩ ?_)))))))))
 rintro⟨⟩ - K e
 refine Js fun b=>Jr fun a=>(JLm (I64 0) ø (JLm (.sc (.slice none 0 0)) ø (JLh (I64 ((0:Nat):Int)) (pU ø hT ø) ø (JLh (BL (decide ((0:Int) < ((0:Nat):Int)))) (Ht ø ø ø) ø (G7 (a (Gm rfl (fun hb=>absurd hb (by decide)) (fun hb=>H5 (d (Jr fun c1=>(JLm (.sc (.slice none 0 0)) ø (JLh (I64 ((0:Nat):Int)) (pU ø hT ø) ø (JLh (.own 1 0 1 []) (jC (c:=0) 1 ø ø ø ø hT hE ø ø ø) ø (JLm (.own 1 0 1 []) ø (G7 (c1 (Js fun h=>Jr fun i=>(JLm (I64 0) ø (G7 (i (Gi (bX (X:=Unit) (fun _=>True) (fun _=>[(0,.sc (.slice none 0 0)),(6,I64 0)]) (fun _=>[]) (fun _=>0) () þ ⟨(.sm ø ø),þ,ø⟩ ?_))))))))))))))))))))))
 rintro⟨⟩ - K e
 refine Js fun b=>Jr fun a=>(JLm (I64 0) ø (JLm (.sc (.slice none 0 0)) ø (JLh (I64 ((0:Nat):Int)) (pU ø hT ø) ø (JLh (BL (decide ((0:Int) < ((0:Nat):Int)))) (Ht ø ø ø) ø (G7 (a (Gm rfl (fun hb=>absurd hb (by decide)) (fun hb=>H5 (h (Js fun j=>Jr fun k=>(JLm (I64 0) ø (G7 (k (Gi (bX (X:=Unit) (fun _=>True) (fun _=>[(0,.sc (.slice none 0 0)),(9,I64 0)]) (fun _=>[]) (fun _=>0) () þ ⟨(.sm ø ø),þ,ø⟩ ?_)))))))))))))))
 rintro⟨⟩ - K e
 refine Js fun b=>Jr fun a=>(JLm (I64 0) ø (JLm (.sc (.slice none 0 0)) ø (JLh (I64 ((0:Nat):Int)) (pU ø hT ø) ø (JLh (BL (decide ((0:Int) < ((0:Nat):Int)))) (Ht ø ø ø) ø (G7 (a (Gm rfl (fun hb=>absurd hb (by decide)) (fun hb=>H5 (j (Js fun l=>Jr fun m=>(JLm (I64 0) ø (G7 (m (Gi (bX (X:=Unit) (fun _=>True) (fun _=>[(0,.sc (.slice none 0 0)),(11,I64 0)]) (fun _=>[]) (fun _=>0) () þ ⟨(.sm ø ø),þ,ø⟩ ?_)))))))))))))))
 rintro⟨⟩ - K e
 refine Js fun b=>Jr fun a=>(JLm (I64 0) ø (JLm (.sc (.slice none 0 0)) ø (JLh (I64 ((0:Nat):Int)) (pU ø hT ø) ø (JLh (BL (decide ((0:Int) < ((0:Nat):Int)))) (Ht ø ø ø) ø (G7 (a (Gm rfl (fun hb=>absurd hb (by decide)) (fun hb=>H5 (l (Js fun n=>Jr fun o=>(JLm (I64 0) ø (G7 (o (Gi (bX (X:=Unit) (fun _=>True) (fun _=>[(0,.sc (.slice none 0 0)),(14,I64 0)]) (fun _=>[]) (fun _=>0) () þ ⟨(.sm ø ø),þ,ø⟩ ?_)))))))))))))))
 rintro⟨⟩ - K e
 refine Js fun b=>Jr fun a=>(JLm (I64 0) ø (JLm (.sc (.slice none 0 0)) ø (JLh (I64 ((0:Nat):Int)) (pU ø hT ø) ø (JLh (BL (decide ((0:Int) < ((0:Nat):Int)))) (Ht ø ø ø) ø (G7 (a (Gm rfl (fun hb=>absurd hb (by decide)) (fun hb=>H5 (n (Jr fun c2=>(JLm (BL true) ø (G7 (c2 (Gt (⟨[BL true],[],þ,ø,⟨⟨_,ø,.conv (.same ø)⟩,þ⟩,ø,ø⟩)))))))))))))))
namespace APF
theorem sl0:sliceB Ej 35 51 1=true:=by kernel_rfl
theorem cl0:H8 Ej 144=true:=by kernel_rfl
theorem fd0:Je Ej 135 0 0=true:=by kernel_rfl
theorem sc0:Ja Ej 35=true:=by kernel_rfl
theorem el0:Qd Ej 51 1 24=true:=by kernel_rfl
theorem fl0:Pure Ej 144 [.sc (.slice none 0 0)] (·=BL true):=Z5 Tryz.func144 rfl rfl rfl sl0 el0
theorem sl1:sliceB Ej 116 277 1=true:=by kernel_rfl
theorem cl1:H8 Ej 145=true:=by kernel_rfl
theorem fd1:Je Ej 135 1 1=true:=by kernel_rfl
theorem sc1:Ja Ej 116=true:=by kernel_rfl
theorem el1:Qd Ej 277 1 24=true:=by kernel_rfl
theorem fl1:Pure Ej 145 [.sc (.slice none 0 0)] (·=BL true):=Z5 Tryz.func145 rfl rfl rfl sl1 el1
theorem sl2:sliceB Ej 117 261 1=true:=by kernel_rfl
theorem cl2:H8 Ej 146=true:=by kernel_rfl
theorem fd2:Je Ej 135 2 2=true:=by kernel_rfl
theorem sc2:Ja Ej 117=true:=by kernel_rfl
theorem el2:Qd Ej 261 1 24=true:=by kernel_rfl
theorem fl2:Pure Ej 146 [.sc (.slice none 0 0)] (·=BL true):=Z5 Tryz.func146 rfl rfl rfl sl2 el2
theorem sl3:sliceB Ej 118 22 1=true:=by kernel_rfl
theorem cl3:H8 Ej 147=true:=by kernel_rfl
theorem fd3:Je Ej 135 3 3=true:=by kernel_rfl
theorem sc3:Ja Ej 118=true:=by kernel_rfl
theorem el3:Qd Ej 22 1 24=true:=by kernel_rfl
theorem fl3:Pure Ej 147 [.sc (.slice none 0 0)] (·=BL true):=Z5 Tryz.func147 rfl rfl rfl sl3 el3
theorem sl4:sliceB Ej 119 23 1=true:=by kernel_rfl
theorem cl4:H8 Ej 148=true:=by kernel_rfl
theorem fd4:Je Ej 135 4 4=true:=by kernel_rfl
theorem sc4:Ja Ej 119=true:=by kernel_rfl
theorem el4:Qd Ej 23 1 24=true:=by kernel_rfl
theorem fl4:Pure Ej 148 [.sc (.slice none 0 0)] (·=BL true):=Z5 Tryz.func148 rfl rfl rfl sl4 el4
theorem sl5:sliceB Ej 120 26 1=true:=by kernel_rfl
theorem cl5:H8 Ej 149=true:=by kernel_rfl
theorem fd5:Je Ej 135 5 5=true:=by kernel_rfl
theorem sc5:Ja Ej 120=true:=by kernel_rfl
theorem el5:Qd Ej 26 1 24=true:=by kernel_rfl
theorem fl5:Pure Ej 149 [.sc (.slice none 0 0)] (·=BL true):=Z5 Tryz.func149 rfl rfl rfl sl5 el5
theorem sl6:sliceB Ej 121 27 1=true:=by kernel_rfl
theorem cl6:H8 Ej 150=true:=by kernel_rfl
theorem fd6:Je Ej 135 6 6=true:=by kernel_rfl
theorem sc6:Ja Ej 121=true:=by kernel_rfl
theorem el6:Qd Ej 27 1 24=true:=by kernel_rfl
theorem fl6:Pure Ej 150 [.sc (.slice none 0 0)] (·=BL true):=Z5 Tryz.func150 rfl rfl rfl sl6 el6
theorem sl7:sliceB Ej 122 28 1=true:=by kernel_rfl
theorem cl7:H8 Ej 151=true:=by kernel_rfl
theorem fd7:Je Ej 135 7 7=true:=by kernel_rfl
theorem sc7:Ja Ej 122=true:=by kernel_rfl
theorem el7:Qd Ej 28 1 24=true:=by kernel_rfl
theorem fl7:Pure Ej 151 [.sc (.slice none 0 0)] (·=BL true):=Z5 Tryz.func151 rfl rfl rfl sl7 el7
theorem sl8:sliceB Ej 123 280 1=true:=by kernel_rfl
theorem cl8:H8 Ej 152=true:=by kernel_rfl
theorem fd8:Je Ej 135 8 8=true:=by kernel_rfl
theorem sc8:Ja Ej 123=true:=by kernel_rfl
theorem el8:Qd Ej 280 1 24=true:=by kernel_rfl
theorem fl8:Pure Ej 152 [.sc (.slice none 0 0)] (·=BL true):=Z5 Tryz.func152 rfl rfl rfl sl8 el8
theorem sl9:sliceB Ej 124 188 1=true:=by kernel_rfl
theorem cl9:H8 Ej 153=true:=by kernel_rfl
theorem fd9:Je Ej 135 9 9=true:=by kernel_rfl
theorem sc9:Ja Ej 124=true:=by kernel_rfl
theorem el9:Qd Ej 188 1 24=true:=by kernel_rfl
theorem fl9:Pure Ej 153 [.sc (.slice none 0 0)] (·=BL true):=Z5 Tryz.func153 rfl rfl rfl sl9 el9
theorem sl10:sliceB Ej 125 33 1=true:=by kernel_rfl
theorem cl10:H8 Ej 154=true:=by kernel_rfl
theorem fd10:Je Ej 135 10 10=true:=by kernel_rfl
theorem sc10:Ja Ej 125=true:=by kernel_rfl
theorem el10:Qd Ej 33 1 24=true:=by kernel_rfl
theorem fl10:Pure Ej 154 [.sc (.slice none 0 0)] (·=BL true):=Z5 Tryz.func154 rfl rfl rfl sl10 el10
theorem sl11:sliceB Ej 34 74 1=true:=by kernel_rfl
theorem cl11:H8 Ej 155=true:=by kernel_rfl
theorem fd11:Je Ej 135 11 11=true:=by kernel_rfl
theorem sc11:Ja Ej 34=true:=by kernel_rfl
theorem el11:Qd Ej 74 1 24=true:=by kernel_rfl
theorem fl11:Pure Ej 155 [.sc (.slice none 0 0)] (·=BL true):=Z5 Tryz.func155 rfl rfl rfl sl11 el11
theorem sl12:sliceB Ej 126 34 1=true:=by kernel_rfl
theorem cl12:H8 Ej 156=true:=by kernel_rfl
theorem fd12:Je Ej 135 12 12=true:=by kernel_rfl
theorem sc12:Ja Ej 126=true:=by kernel_rfl
theorem el12:Qd Ej 34 1 24=true:=by kernel_rfl
theorem fl12:Pure Ej 156 [.sc (.slice none 0 0)] (·=BL true):=Z5 Tryz.func156 rfl rfl rfl sl12 el12
theorem sl13:sliceB Ej 127 35 1=true:=by kernel_rfl
theorem cl13:H8 Ej 157=true:=by kernel_rfl
theorem fd13:Je Ej 135 13 13=true:=by kernel_rfl
theorem sc13:Ja Ej 127=true:=by kernel_rfl
theorem el13:Qd Ej 35 1 24=true:=by kernel_rfl
theorem fl13:Pure Ej 157 [.sc (.slice none 0 0)] (·=BL true):=Z5 Tryz.func157 rfl rfl rfl sl13 el13
theorem sl14:sliceB Ej 128 283 1=true:=by kernel_rfl
theorem cl14:H8 Ej 158=true:=by kernel_rfl
theorem fd14:Je Ej 135 14 14=true:=by kernel_rfl
theorem sc14:Ja Ej 128=true:=by kernel_rfl
theorem el14:Qd Ej 283 1 24=true:=by kernel_rfl
theorem fl14:Pure Ej 158 [.sc (.slice none 0 0)] (·=BL true):=Z5 Tryz.func158 rfl rfl rfl sl14 el14
theorem sl15:sliceB Ej 129 285 1=true:=by kernel_rfl
theorem cl15:H8 Ej 159=true:=by kernel_rfl
theorem fd15:Je Ej 135 15 15=true:=by kernel_rfl
theorem sc15:Ja Ej 129=true:=by kernel_rfl
theorem el15:Qd Ej 285 1 24=true:=by kernel_rfl
theorem fl15:Pure Ej 159 [.sc (.slice none 0 0)] (·=BL true):=Z5 Tryz.func159 rfl rfl rfl sl15 el15
theorem cl16:H8 Ej 160=true:=by kernel_rfl
theorem J6c:Je Ej 135 16 16=true:=by kernel_rfl
theorem sc16:Ja Ej 63=true:=by kernel_rfl
theorem sl17:sliceB Ej 130 63 1=true:=by kernel_rfl
theorem cl17:H8 Ej 161=true:=by kernel_rfl
theorem fd17:Je Ej 135 17 17=true:=by kernel_rfl
theorem sc17:Ja Ej 130=true:=by kernel_rfl
theorem el17:Qd Ej 63 1 24=true:=by kernel_rfl
theorem fl17:Pure Ej 161 [.sc (.slice none 0 0)] (·=BL true):=Z5 Tryz.func161 rfl rfl rfl sl17 el17
theorem sl18:sliceB Ej 131 291 1=true:=by kernel_rfl
theorem cl18:H8 Ej 162=true:=by kernel_rfl
theorem fd18:Je Ej 135 18 18=true:=by kernel_rfl
theorem sc18:Ja Ej 131=true:=by kernel_rfl
theorem el18:Qd Ej 291 1 24=true:=by kernel_rfl
theorem fl18:Pure Ej 162 [.sc (.slice none 0 0)] (·=BL true):=Z5 Tryz.func162 rfl rfl rfl sl18 el18
theorem sl19:sliceB Ej 132 295 1=true:=by kernel_rfl
theorem cl19:H8 Ej 163=true:=by kernel_rfl
theorem fd19:Je Ej 135 19 19=true:=by kernel_rfl
theorem sc19:Ja Ej 132=true:=by kernel_rfl
theorem el19:Qd Ej 295 1 24=true:=by kernel_rfl
theorem fl19:Pure Ej 163 [.sc (.slice none 0 0)] (·=BL true):=Z5 Tryz.func163 rfl rfl rfl sl19 el19
theorem sl20:sliceB Ej 133 299 1=true:=by kernel_rfl
theorem cl20:H8 Ej 164=true:=by kernel_rfl
theorem fd20:Je Ej 135 20 20=true:=by kernel_rfl
theorem sc20:Ja Ej 133=true:=by kernel_rfl
theorem el20:Qd Ej 299 1 24=true:=by kernel_rfl
theorem fl20:Pure Ej 164 [.sc (.slice none 0 0)] (·=BL true):=Z5 Tryz.func164 rfl rfl rfl sl20 el20
end APF
open APF SFF
theorem Zx {N:Cfg} {Q:Post} {ops:Array Oper} {rest:List Oper} {l:Fr} {L:Loc} {cs:List AV} {TB TF fi gi g a b c d e m n:Nat} {f:FuncId} {t1 t2 t3 t4 t5 t6 t7:TypeId} {h j k o p q r:String} {s t v w y z e7:Array Edge}
  (hl:look l 0=.dptr cs) (hgi:(ops[gi]?).bind (·.dst)=some g) (hF:Je Ej TB fi fi=true) (hc:(cs.drop fi)[0]? = some (.sc (.slice none 0 0))) (hS:Ja Ej TF=true) (hf:Pure Ej f [.sc (.slice none 0 0)] (·=BL true)) (hB:H8 Ej f=true)
  (hn:[a,b,c,d,e,m,n,g].all (fun x=>Nat.blt x N.n)=true) (hd:[a,b,c,d,e].all (fun x=>!Nat.beq x g)=true) (hg:look l g=BL true)
  (hk:JL Ej N ops rest Q ((n,BL true)::(m,BL true)::(e,BL true)::(d,.sc (.slice none 0 0))::(c,.dptr (cs.drop fi))::(b,.dptr cs)::(a,.dptr cs)::l) L) :
  JL Ej N ops (⟨some a,.move (.tmp 0),t1,h,s,some (gi,true)⟩::⟨some b,.nilCheck (.tmp a),t2,j,t,some (gi,true)⟩::⟨some c,.fieldAddr TB (.tmp b) fi,t3,k,v,some (gi,true)⟩::⟨some d,.load TF (.tmp c),t4,o,w,some (gi,true)⟩::⟨some e,.call { callee:=.value (.func f),args:=#[.tmp d],argTypes:=#[TF] },t5,p,y,some (gi,true)⟩::⟨some m,.pick (.tmp g) (.tmp e) (.const (.bool false)),t6,q,z,none⟩::⟨some n,.move (.tmp m),t7,r,e7,none⟩::rest) Q l L:=by
 simp only [List.all_cons,List.all_nil,Bool.and_true,P7,Bool.not_eq_true'] at hn hd
 obtain⟨na,nb,nc,nd,ne,nm,nn,ng⟩:=hn
 obtain⟨da,db,dc,dd,de⟩:=hd
 have hh:∀ (i:Nat) (u:AV) (l:Fr),look ((i,u)::l) i=u:=fun i u l=>by simp [look]
 have g1:look ((a,.dptr cs)::l) g=BL true:=by simp [look,da,hg]
 have g2:look ((b,.dptr cs)::(a,.dptr cs)::l) g=BL true:=by simp [look,da,db,hg]
 have g3:look ((c,.dptr (cs.drop fi))::(b,.dptr cs)::(a,.dptr cs)::l) g=BL true:=by simp [look,da,db,dc,hg]
 have g4:look ((d,.sc (.slice none 0 0))::(c,.dptr (cs.drop fi))::(b,.dptr cs)::(a,.dptr cs)::l) g=BL true:=by simp [look,da,db,dc,dd,hg]
 have g5:look ((e,BL true)::(d,.sc (.slice none 0 0))::(c,.dptr (cs.drop fi))::(b,.dptr cs)::(a,.dptr cs)::l) g=BL true:=by simp [look,da,db,dc,dd,de,hg]
 refine Zu ø hgi hg (.sct (b:=true)) (G3 ø hl) ?_ ø na ng
 refine Zu ø hgi g1 (.sct (b:=true)) (G71 ø (hh ..)) ?_ ø nb ng
 refine Zu ø hgi g2 (.sct (b:=true)) (zE hF ø (hh ..)) ?_ ø nc ng
 refine Zu ø hgi g3 (.sct (b:=true)) (Gj hS ø (hh ..) hc) ?_ ø nd ng
 refine Zu ø hgi g4 (.sct (b:=true)) (Gq (xs:=[.tmp d]) (args:=[.sc (.slice none 0 0)]) ø hf hB ⟨congrArg AV.plain (hh ..),ø,þ⟩) ?_ ø ne ng
 refine G0 (jT true ø g5 (hh ..)) ?_ ø ø nm
 exact G0 (G3 ø (hh ..)) hk ø ø nn
def sY (u:AV):List AV:=[.sc (.slice none 0 0),.sc (.slice none 0 0),.sc (.slice none 0 0),.sc (.slice none 0 0),.sc (.slice none 0 0),.sc (.slice none 0 0),.sc (.slice none 0 0),.sc (.slice none 0 0),.sc (.slice none 0 0),.sc (.slice none 0 0),.sc (.slice none 0 0),.sc (.slice none 0 0),.sc (.slice none 0 0),.sc (.slice none 0 0),.sc (.slice none 0 0),.sc (.slice none 0 0),u,.sc (.slice none 0 0),.sc (.slice none 0 0),.sc (.slice none 0 0),.sc (.slice none 0 0)]
theorem H99 (es:List Raw) (H0:Hp) (O0:Nat→Nat) (hlen:es.length≤1000) (hrn:∀ (j:Nat) e,es[j]? = some e→rn e≤1000000) (hok:∀ (j:Nat) e,es[j]? = some e→∀ b n c,e=some (b,n,c)→∃ cs,hg H0 b=some cs∧n≤c∧c≤maxLen∧cs.length=c*2) (hO:Ow O0 es) (hnd:(H0.map Prod.fst).Nodup):R5 Ej 66 [.dptr (sY (Ea es))] (HL 1000000000000 139 H0++[]) (fun r L'=>r=BL true∧∃ H',L'=HL 1000000000000 139 H'++[]∧(H'.map Prod.fst).Nodup∧Bs H0 H'):=by
 refine dA (H0.map fun e=>1000000000000+e.1) [.tmp 2] Tryz.func66 ø ø G5f (Jr fun a=>(JLm (BL false) ø (G7 (a (Jr fun d=>(JLm (.dptr (sY (Ea es))) ø (JLh (.dptr (sY (Ea es))) (G71 ø ø) ø (JLh (.dptr ((sY (Ea es)).drop 0)) (zE fd0 ø ø) ø (JLh (.sc (.slice none 0 0)) (Gj sc0 ø ø ø) ø (JLh (BL true) (Gq ø fl0 cl0 ⟨ø,ø,þ⟩) ø (JLm (BL true) ø (Zx ø ø fd1 ø sc1 fl1 cl1 ø ø ø (Zx ø ø fd2 ø sc2 fl2 cl2 ø ø ø (Zx ø ø fd3 ø sc3 fl3 cl3 ø ø ø (Zx ø ø fd4 ø sc4 fl4 cl4 ø ø ø (Zx ø ø fd5 ø sc5 fl5 cl5 ø ø ø (Zx ø ø fd6 ø sc6 fl6 cl6 ø ø ø (Zx ø ø fd7 ø sc7 fl7 cl7 ø ø ø (Zx ø ø fd8 ø sc8 fl8 cl8 ø ø ø (Zx ø ø fd9 ø sc9 fl9 cl9 ø ø ø (Zx ø ø fd10 ø sc10 fl10 cl10 ø ø ø (Zx ø ø fd11 ø sc11 fl11 cl11 ø ø ø ?_))))))))))))))))))))))
 refine Zx ø ø fd12 ø sc12 fl12 cl12 ø ø ø (Zx ø ø fd13 ø sc13 fl13 cl13 ø ø ø (Zx ø ø fd14 ø sc14 fl14 cl14 ø ø ø (Zx ø ø fd15 ø sc15 fl15 cl15 ø ø ø (Zu (u:=.dptr (sY (Ea es))) ø ø ø (.sct (b:=true)) (G3 ø ø) ?_ ø ø ø))))
 refine Zu (u:=.dptr (sY (Ea es))) ø ø ø (.sct (b:=true)) (G71 ø ø) ?_ ø ø ø
 refine Zu (u:=.dptr ((sY (Ea es)).drop 16)) ø ø ø (.sct (b:=true)) (zE J6c ø ø) ?_ ø ø ø
 refine Zu (u:=Ea es) ø ø ø (.sct (b:=true)) (Gj sc16 ø ø ø) ?_ ø ø ø
 refine Gdc ø ø ø (.sct (b:=true)) (GS ø (Gcd es H0 O0 hlen hrn hok hO hnd) cl16 ⟨ø,þ⟩) ?_ ø ø ø
 rintro _ _ ⟨rfl,H',rfl,hn,hB⟩
 refine JLh (BL true) (jT true ø ø ø) ø (JLm (BL true) ø (Zx ø ø fd17 ø sc17 fl17 cl17 ø ø ø (Zx ø ø fd18 ø sc18 fl18 cl18 ø ø ø (Zx ø ø fd19 ø sc19 fl19 cl19 ø ø ø (Zu (u:=.dptr (sY (Ea es))) ø ø ø (.sct (b:=true)) (G3 ø ø) ?_ ø ø ø)))))
 refine Zu (u:=.dptr (sY (Ea es))) ø ø ø (.sct (b:=true)) (G71 ø ø) ?_ ø ø ø
 refine Zu (u:=.dptr ((sY (Ea es)).drop 20)) ø ø ø (.sct (b:=true)) (zE fd20 ø ø) ?_ ø ø ø
 refine Zu (u:=.sc (.slice none 0 0)) ø ø ø (.sct (b:=true)) (Gj sc20 ø ø ø) ?_ ø ø ø
 refine Zu (u:=BL true) ø ø ø (.sct (b:=true)) (Gq ø fl20 cl20 ⟨ø,ø,þ⟩) ?_ ø ø ø
 refine JLh (BL true) (jT true ø ø ø) ø (JLm (BL true) ø (G7 (d (Gt ?_))))
 have hfz:=bQ (p:=1000000000000) (E:=139) (l:=[]) (F:=[]) (M:=[]) (M':=[]) hn hB trivial trivial
 exact⟨[BL true],HL 1000000000000 139 H'++[],hfz.loc,hfz.base,⟨⟨_,ø,.conv (.same ø)⟩,þ⟩,ø,H',ø,hn,hB⟩
namespace APF
theorem szLL:Rg Ej 63 1=true:=by kernel_rfl
theorem scLL:Ja Ej 63=true:=by kernel_rfl
theorem zszL:Rr Ej 137 1=true:=by kernel_rfl
theorem plB:placesOf Ej 135=some [(0,1),(1,1),(2,1),(3,1),(4,1),(5,1),(6,1),(7,1),(8,1),(9,1),(10,1),(11,1),(12,1),(13,1),(14,1),(15,1),(16,1),(17,1),(18,1),(19,1),(20,1)]:=by kernel_rfl
theorem Ja6:(Ej.info? 135).bind (fun i=>i.zero.map Value.cells)=some ([.slice none 0 0,.slice none 0 0,.slice none 0 0,.slice none 0 0,.slice none 0 0,.slice none 0 0,.slice none 0 0,.slice none 0 0,.slice none 0 0,.slice none 0 0,.slice none 0 0,.slice none 0 0,.slice none 0 0,.slice none 0 0,.slice none 0 0,.slice none 0 0,.slice none 0 0,.slice none 0 0,.slice none 0 0,.slice none 0 0,.slice none 0 0]:List Value).toArray:=by kernel_rfl
theorem clP:H8 Ej 86=true:=by kernel_rfl
theorem clA:H8 Ej 66=true:=by kernel_rfl
end APF
abbrev J2b (xs:List Raw):Loc:=[(1023,.box 135 (sY (OW 1024 1 RA xs))),(1024,.spare 137 1 xs.length xs.length)]
theorem J2a (xs:List Raw) (e:Raw) (hx:xs.length≤1000):R5 Ej 86 [.ptr 1023 0,RA e] (J2b xs) (fun r L'=>∃ p:Unit,r=.tup []∧L'=J2b (xs++[e])):=by
 refine dA [1023,1024] [] Tryz.func86 ø ø (YF ø) (G2 ?_)
 refine JLm (.ptr 1023 0) ø (JLm (.ptr 1023 0) ø (JLh (.ptr 1023 0) (Ge4 ø ø) ø (JLh (.ptr 1023 16) (Qn J6c ø ø) ø (JLh (OW 1024 1 RA xs) (bY scLL ø ø ø ø) ø (JLm (RA e) ø (JLh (.list 1 [RA e]) (Hn (xs:=[RA e]) rfl ⟨rfl,rfl,þ⟩ kX zszL rfl (by rcases e with _ | ⟨b,n,c⟩ <;> rfl) rfl rfl) ø (JLh (OW 1024 1 RA (xs++[e])) (nC (f:=RA) (xs:=xs) (ys:=[e]) rfl rfl rfl rfl kX elL (Nr ⟨by simp only [P6]; omega,by simp only [P6,maxLen]; omega⟩) Hd1 (.inl rfl)) ø (JLh (.ptr 1023 0) (Ge4 ø ø) ø (JLh (.ptr 1023 16) (Qn J6c ø ø) ø (J7 (u:=.junk) (Hw (u:=OW 1024 1 RA (xs++[e])) (ds:=sY (OW 1024 1 RA (xs++[e]))) szLL ø ø ø ø ø ø ø ø) (G7 ?_)))))))))))
 exact⟨[],J2b (xs++[e]),⟨⟨_,ø,.boxEq ø ø⟩,⟨_,ø,.same⟩,þ⟩,ø,þ,(),ø,ø⟩
abbrev H9a (xs:List Raw) (H0:Hp):Loc:=(1023,.box 135 (sY (OW 1024 1 RA xs)))::(1024,.spare 137 1 xs.length xs.length)::(HL 1000000000000 139 H0++[])
theorem yM {xs:List Raw} {H0:Hp} {b:Nat} {cs:List AV} (h:hg H0 b=some cs):lk (H9a xs H0) (1000000000000+b)=some (.pin 139 b cs):=by
 show lk ((1023,_)::(1024,_)::(HL 1000000000000 139 H0++[])) _=_
 rw [Gf,if_neg (by omega),Gf,if_neg (by omega)]; exact kH h
theorem GH {xs:List Raw} {H0:Hp} {l F:Fr} {L:Loc} (hF:jU (fun i=>(lk (H9a xs H0) i).isSome) l F) (a:lk L 1023=some (.box 135 (sY (OW 1024 1 RA xs)))) (c:lk L 1024=some (.spare 137 1 xs.length xs.length)) (d:∀ b cs,hg H0 b=some cs→lk L (1000000000000+b)=some (.pin 139 b cs)) (hn:(H0.map Prod.fst).Nodup):Fits (H0.map fun e=>1000000000000+e.1) l L F (H9a xs H0):=
 ⟨hF,⟨⟨_,a,.boxEq rfl rfl⟩,⟨_,c,.same⟩,yF hn d trivial⟩,yN fun e he=>by
  obtain⟨cs,hcs⟩:=Nf (Bs.refl e he)
  rw [yM hcs]; rfl⟩
theorem G60 (es:List Raw) (H0:Hp) (O0:Nat→Nat) (hlen:es.length≤1000) (hrn:∀ (j:Nat) e,es[j]? = some e→rn e≤1000000) (hok:∀ (j:Nat) e,es[j]? = some e→∀ b n c,e=some (b,n,c)→∃ cs,hg H0 b=some cs∧n≤c∧c≤maxLen∧cs.length=c*2) (hO:Ow O0 es) (hnd:(H0.map Prod.fst).Nodup):R5 Ej 31 [Ea es] (HL 1000000000000 139 H0++[]) (fun r L'=>r=BL true∧∃ H',L'=HL 1000000000000 139 H'++[]∧(H'.map Prod.fst).Nodup∧Bs H0 H'):=by
 refine dA (H0.map fun e=>1000000000000+e.1) [.tmp 2] Tryz.func31 ø ø G5f (Jr fun a=>(JLm (BL false) ø (G7 (a ?_))))
 refine Jr fun d=>(JLh (.agg [.sc (.slice none 0 0),.sc (.slice none 0 0),.sc (.slice none 0 0),.sc (.slice none 0 0),.sc (.slice none 0 0),.sc (.slice none 0 0),.sc (.slice none 0 0),.sc (.slice none 0 0),.sc (.slice none 0 0),.sc (.slice none 0 0),.sc (.slice none 0 0),.sc (.slice none 0 0),.sc (.slice none 0 0),.sc (.slice none 0 0),.sc (.slice none 0 0),.sc (.slice none 0 0),.sc (.slice none 0 0),.sc (.slice none 0 0),.sc (.slice none 0 0),.sc (.slice none 0 0),.sc (.slice none 0 0)]) (Jj (cs:=[.sc (.slice none 0 0),.sc (.slice none 0 0),.sc (.slice none 0 0),.sc (.slice none 0 0),.sc (.slice none 0 0),.sc (.slice none 0 0),.sc (.slice none 0 0),.sc (.slice none 0 0),.sc (.slice none 0 0),.sc (.slice none 0 0),.sc (.slice none 0 0),.sc (.slice none 0 0),.sc (.slice none 0 0),.sc (.slice none 0 0),.sc (.slice none 0 0),.sc (.slice none 0 0),.sc (.slice none 0 0),.sc (.slice none 0 0),.sc (.slice none 0 0),.sc (.slice none 0 0),.sc (.slice none 0 0)]) [(0,1),(1,1),(2,1),(3,1),(4,1),(5,1),(6,1),(7,1),(8,1),(9,1),(10,1),(11,1),(12,1),(13,1),(14,1),(15,1),(16,1),(17,1),(18,1),(19,1),(20,1)] [.sc (.slice none 0 0),.sc (.slice none 0 0),.sc (.slice none 0 0),.sc (.slice none 0 0),.sc (.slice none 0 0),.sc (.slice none 0 0),.sc (.slice none 0 0),.sc (.slice none 0 0),.sc (.slice none 0 0),.sc (.slice none 0 0),.sc (.slice none 0 0),.sc (.slice none 0 0),.sc (.slice none 0 0),.sc (.slice none 0 0),.sc (.slice none 0 0),.sc (.slice none 0 0),.sc (.slice none 0 0),.sc (.slice none 0 0),.sc (.slice none 0 0),.sc (.slice none 0 0),.sc (.slice none 0 0)] [.slice none 0 0,.slice none 0 0,.slice none 0 0,.slice none 0 0,.slice none 0 0,.slice none 0 0,.slice none 0 0,.slice none 0 0,.slice none 0 0,.slice none 0 0,.slice none 0 0,.slice none 0 0,.slice none 0 0,.slice none 0 0,.slice none 0 0,.slice none 0 0,.slice none 0 0,.slice none 0 0,.slice none 0 0,.slice none 0 0,.slice none 0 0] plB Ja6 (zzQ ø) ø ø) ø (JLh (.ptr 1023 0) (Qr 1023 rfl rfl rfl rfl ((Yo (by decide) H0).trans rfl)) ø (JLm (.ptr 1023 0) ø ?_)))
 refine xB 1023 16 1024 137 1 rfl (by rw [Gf,if_neg (by decide)]; exact(Yo (by decide) H0).trans rfl) rfl (rfl:_=sY (OW 1024 1 RA [])) (G7 (d (Rh (X:=Unit) (fun _=>True) (fun _=>[(3,.ptr 1023 0)]) (fun _=>H9a es H0) (fun KA eA=>?_) ?_)))
 ·
  refine Jr fun g=>(JLm (I64 0) ø (G7 (g (Gi ?_))))
  refine bX (X:=Nat) (fun k=>k≤es.length) (fun k=>[(0,Ea es),(3,.ptr 1023 0),(4,I64 (k:Int))]) (fun k=>H9a (es.take k) H0) (fun k=>es.length - k) 0 (Nat.zero_le _) (GH (.sm ø ø) ø ø (fun b cs h=>by
   show lk ((1023,_)::(1024,_)::(1023,_)::(HL 1000000000000 139 H0++[])) _=_
   rw [Gf,if_neg (by omega),Gf,if_neg (by omega),Gf,if_neg (by omega)]; exact kH h) hnd) ?_
  intro k hk t i
  dsimp only at hk i ⊢
  refine Js fun m=>Jr fun o=>(JLm (I64 (k:Int)) ø (JLm (Ea es) ø (JLh (Ei es.length) (Q4 (f:=RA) (xs:=es) kX ø ø) ø (JLh (BL (decide ((k:Int) < (es.length:Int)))) (Ht ø ø ø) ø (G7 (o (Gm ø (fun hb=>?_) (fun hb=>?_))))))))
  ·
   have hkl:k < es.length:=by have:=Np hb; omega
   obtain⟨e,he⟩:∃ e,es[k]? = some e:=⟨_,Nu hkl⟩
   have hts:es.take (k+1)=es.take k++[e]:=by rw [List.take_add_one,he]; rfl
   refine Gn (m (Js fun q=>Gi (G2 (JLm (.ptr 1023 0) ø (JLm (Ea es) ø (JLm (I64 (k:Int)) ø (JLh (.dptr [RA e]) (Gs (f:=RA) (xs:=es) (y:=e) ø ø ø kX he ø) ø (JLh (RA e) (Gj scL ø ø ø) ø (hU rfl rfl rfl (zH (u:=fun _:Unit=>.tup []) (Lr:=fun _=>J2b (es.take k++[e])) rfl (J2a (es.take k) e (by rw [List.length_take]; omega)) clP ⟨.inl rfl,rfl,.inl rfl,rfl,þ⟩ ⟨rfl,rfl,þ⟩ rfl (fun _=>rfl)) ?_)))))))))
   rintro _ _ ⟨⟨⟩,rfl,rfl⟩
   refine G7 (q (G2 (JLm (I64 (k:Int)) ø (JLh (I64 ((k+1:Nat):Int)) (Hf (by rw [show (k:Int)+1=((k+1:Nat):Int) by omega]; exact cJ (by omega) (by omega)) rfl rfl rfl) ø (JLm (I64 ((k+1:Nat):Int)) ø (G7 (i _ _ (k+1) hkl (by show es.length - (k+1) < es.length - k; omega) ?_)))))))
   rw [hts]
   refine GH (.sm ø ø) ø ø (fun b cs h=>?_) hnd
   show lk ((1023,_)::(1024,_)::qN _ _) _=_
   rw [Gf,if_neg (by omega),Gf,if_neg (by omega),G56,if_neg (by
    show ¬ (lk ((1023,_)::(1024,_)::[]) _).isSome=true
    rw [Gf,if_neg (by omega),Gf,if_neg (by omega)]; exact Bool.false_ne_true)]
   exact yM h
  ·
   have hke:k=es.length:=by have:=Nq hb; omega
   subst hke
   refine H5 (eA _ _ () þ ?_)
   rw [List.take_length]
   exact GH ⟨.same ø,þ⟩ ø ø (fun b cs h=>yM h) hnd
 rintro⟨⟩ -
 have hfz:=bQ (p:=1000000000000) (E:=139) (l:=[]) (F:=[]) (M:=[]) (M':=[]) hnd Bs.refl trivial trivial
 have hone:Fits (H0.map fun e=>1000000000000+e.1) [(3,.ptr 1023 0)] (H9a es H0) [(3,.ptr 1023 0)] ((1023,Jn.box 135 (sY (Ea es)))::(HL 1000000000000 139 H0++[])):=by
  refine⟨⟨.same rfl,þ⟩,⟨⟨_,rfl,.box rfl (rC.get (by exact⟨.same rfl,.same rfl,.same rfl,.same rfl,.same rfl,.same rfl,.same rfl,.same rfl,.same rfl,.same rfl,.same rfl,.same rfl,.same rfl,.same rfl,.same rfl,.same rfl,.list rfl,.same rfl,.same rfl,.same rfl,.same rfl,þ⟩))⟩,yF hnd (fun b cs h=>yM h) þ⟩,yN fun e he=>?_⟩
  obtain⟨cs,hcs⟩:=Nf (Bs.refl e he)
  rw [Gf,if_neg (by omega),kH hcs]; rfl
 refine Zh hone (H1 [(3,.dptr (sY (Ea es)))] (HL 1000000000000 139 H0++[]) 1023 rfl rfl ((Yo (by decide) H0).trans rfl) (yF hnd (fun b cs h=>by rw [Gf,if_neg (by omega)]; exact kH h) trivial) hfz.base ⟨.ptr,trivial⟩ (Jr fun s=>(JLm (.dptr (sY (Ea es))) ø (hU ø ø ø (GS ø (H99 es H0 O0 hlen hrn hok hO hnd) clA ⟨ø,þ⟩) ?_))))
 rintro _ _ ⟨rfl,H',rfl,hn,hB⟩
 refine JLm (BL true) ø (G7 (s ?_))
 have hfz:=bQ (p:=1000000000000) (E:=139) (l:=[]) (F:=[]) (M:=[]) (M':=[]) hn hB trivial trivial
 refine Gt (⟨[BL true],HL 1000000000000 139 H'++[],hfz.loc,hfz.base,⟨⟨_,ø,.conv (.same ø)⟩,þ⟩,ø,H',ø,hn,hB⟩)
def bT (l:List (List G5)):Option Bool:=need (decide (l.length≤1000)&&l.all (fun m=>decide (m.length≤1000000))) (some true)
end Go.Proofs.YthkihfoleenlmaaGreat
