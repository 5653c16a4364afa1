/- Walks of functions. -/
import Derived.Test.YtibhpogonkdiaaaGreatXS
set_option linter.unnecessarySimpa false
set_option maxRecDepth 100000
set_option maxHeartbeats 1000000
set_option linter.unusedVariables false
set_option linter.unusedSimpArgs false
namespace Go.Proofs.YtibhpogonkdiaaaGreat
open Go.RowKit
noncomputable section
structure Gx where
 e0:Int
 e1:Int
 deriving DecidableEq,Inhabited
def Gx.cs (x:Gx):List AV:=[I64 x.e0,I64 x.e1]
def Gx.av (x:Gx):AV:=.agg x.cs
structure Ge where
 restows:Int
 next:Int
 deriving DecidableEq,Inhabited
def Ge.cs (x:Ge):List AV:=[I64 x.restows,I64 x.next]
def Ge.av (x:Ge):AV:=.agg x.cs
def Gx.ks (x:Gx):List Value:=[.int .i64 x.e0,.int .i64 x.e1]
def Gx.kv (x:Gx):Value:=.agg x.ks.toArray
namespace XLF
open XAF
open XCF
open XFF
open XSF
theorem Y84 (a b:Gx):H93 En 4 93 [.int .i64 a.e0,.int .i64 a.e1] [.int .i64 b.e0,.int .i64 b.e1]=some (decide (a=b)):=by
 refine(show _=some ((a.e0==b.e0)&&((a.e1==b.e1)&&true)) by kernel_rfl).trans (congrArg some ?_)
 rw [Bool.eq_iff_iff]
 simp only [Ma,beq_iff_eq,Mb,Bool.and_true]
 constructor
 ·intro h; obtain⟨_,_⟩:=a; obtain⟨_,_⟩:=b; simp_all
 ·intro h; subst h; simp
theorem G4b:Gb8 En 48 2=true:=by kernel_rfl
theorem G4a:Gb8 En 91 2=true:=by kernel_rfl
theorem Q1d:Gb8 En 93 2=true:=by kernel_rfl
theorem R7d:Y1b En 93 3 1=true:=by kernel_rfl
theorem Q1c:J73 En 4=true:=by kernel_rfl
theorem H82:Hh En 108=true:=by kernel_rfl
theorem Q9a:Hh En 109=true:=by kernel_rfl
theorem J55:Hh En 110=true:=by kernel_rfl
theorem Q99:Hh En 111=true:=by kernel_rfl
theorem Q98:Hh En 112=true:=by kernel_rfl
theorem Q93:Hh En 120=true:=by kernel_rfl
theorem Q92:Hh En 141=true:=by kernel_rfl
theorem Q91:Hh En 142=true:=by kernel_rfl
theorem Q90:Hh En 143=true:=by kernel_rfl
theorem Q8f:Hh En 163=true:=by kernel_rfl
theorem Q8e:Hh En 164=true:=by kernel_rfl
theorem Hd9:Hh En 24=true:=by kernel_rfl
theorem H5c:Hh En 26=true:=by kernel_rfl
theorem R15:Hh En 27=true:=by kernel_rfl
theorem R14:Hh En 28=true:=by kernel_rfl
theorem R13:Hh En 29=true:=by kernel_rfl
theorem H0d:Hh En 30=true:=by kernel_rfl
theorem R12:Hh En 31=true:=by kernel_rfl
theorem R11:Hh En 32=true:=by kernel_rfl
theorem Qfc:Hh En 68=true:=by kernel_rfl
theorem Ja6:Hh En 69=true:=by kernel_rfl
theorem Hd7:Hh En 85=true:=by kernel_rfl
theorem Qf3:Rw En 42 1 24=true:=by kernel_rfl
theorem H09:H67 En 91 0 0=true:=by kernel_rfl
theorem Qf1:H67 En 91 1 1=true:=by kernel_rfl
theorem Q00:Ju En 91 0 0=true:=by kernel_rfl
theorem Jff:Ju En 91 1 1=true:=by kernel_rfl
theorem J93:G14 En 197 3 224=true:=by kernel_rfl
theorem Q18:G14 En 88 93 91=true:=by kernel_rfl
theorem Jfc:placesOf En 224=some []:=by kernel_rfl
theorem Gf5:placesOf En 48=some [(0,1),(1,1)]:=by kernel_rfl
theorem Hfd:placesOf En 91=some [(0,1),(1,1)]:=by kernel_rfl
theorem Jfb:R9 En 197=true:=by kernel_rfl
theorem H38:R9 En 198=true:=by kernel_rfl
theorem G3c:R9 En 81=true:=by kernel_rfl
theorem Q4e:R9 En 87=true:=by kernel_rfl
theorem Q4d:R9 En 88=true:=by kernel_rfl
theorem G61:R9 En 89=true:=by kernel_rfl
theorem Q8b:Re En 197 1=true:=by kernel_rfl
theorem Q8a:Re En 198 1=true:=by kernel_rfl
theorem Q89:Re En 224 0=true:=by kernel_rfl
theorem Qf0:Re En 39 1=true:=by kernel_rfl
theorem Qv:Re En 48 2=true:=by kernel_rfl
theorem Qee:Re En 81 1=true:=by kernel_rfl
theorem Qed:Re En 87 1=true:=by kernel_rfl
theorem Qec:Re En 88 1=true:=by kernel_rfl
theorem Qeb:Re En 89 1=true:=by kernel_rfl
theorem G39:Re En 91 2=true:=by kernel_rfl
theorem G34:sliceB En 81 42 1=true:=by kernel_rfl
theorem Q88:(En.info? 224).bind (fun i=>i.zero.map Value.cells)=some (List.toArray []):=by kernel_rfl
theorem Qea:(En.info? 39).bind (fun i=>i.zero.map Value.cells)=some (List.toArray [.slice none 0 0]):=by kernel_rfl
theorem G38:(En.info? 48).bind (fun i=>i.zero.map Value.cells)=some (List.toArray [.slice none 0 0,.slice none 0 0]):=by kernel_rfl
theorem Qe6:(En.info? 81).bind (fun i=>i.zero.map Value.cells)=some (List.toArray [.slice none 0 0]):=by kernel_rfl
theorem H07:(En.info? 91).bind (fun i=>i.zero.map Value.cells)=some (List.toArray [E0,E0]):=by kernel_rfl
theorem Qe5:(En.info? 93).bind (fun i=>i.zero.map Value.cells)=some (List.toArray [E0,E0]):=by kernel_rfl
theorem Q4b:Qo En 197 1=true:=by kernel_rfl
theorem Q4a:Qo En 198 1=true:=by kernel_rfl
theorem Q49:Qo En 224 0=true:=by kernel_rfl
theorem J4e:Qo En 42 1=true:=by kernel_rfl
theorem Q87:Qo En 87 1=true:=by kernel_rfl
theorem Q86:Qo En 88 1=true:=by kernel_rfl
theorem Q85:Qo En 89 1=true:=by kernel_rfl
theorem H7d:Qo En 91 2=true:=by kernel_rfl
theorem R7a:(En.info? 224).bind (·.zero)=some (.agg #[]):=by kernel_rfl
theorem Rc6:(En.info? 91).bind (·.zero)=some (.agg #[E0,E0]):=by kernel_rfl
theorem R79:Ge3 En 3 Ki:=Ge3.of_int (by kernel_rfl)
theorem Y3a:Ge3 En 93 Gx.kv:=Ge3.of_eq Gx.ks (by kernel_rfl) (fun a b h=>by simp only [Gx.ks,List.cons.injEq,Value.int.injEq,Value.bool.injEq,Value.string.injEq,true_and,and_true] at h; obtain⟨_,_⟩:=a; obtain⟨_,_⟩:=b; simp_all) 4 (by decide) (fun a b=>Y84 a b) (fun a=>by kernel_rfl) (fun a=>by simp [Instr.sameBits,Gx.ks])
end XLF
open XAF
open XCF
open XFF
open XSF
open XLF

def G08 (c0_:Int) (c1_:Int) (c2_:List (List (List G1))) (c3_:(List G1)→(List G1)→Option Int) (c4_:Int) (m_:Gt Gx Ge) (self_:Int→Int→Gt Gx Ge→Option (Ge×Gt Gx Ge)):Option (Ge×(Gt Gx Ge)):=
 chk (c0_+1) fun p=>
 bif decide (p=c1_) then
 (some ((Ge.mk 0 (-1)),m_))
 else
 (chk (c0_+1) fun q=>
  Q4 c2_ q fun i=>
  each (fun r c (a:Int×Int×(Gt Gx Ge)) g=>
   jp (fun d=>
    Q4 c2_ c0_ fun j=>
    Q4 j c4_ fun k=>
    chk (c0_+1) fun l=>
    Q4 c2_ l fun m=>
    Q4 m (c:Int) fun n=>
    bnd (c3_ k n) fun o=>
    chk (c0_+1) fun h=>
    bnd (self_ h (c:Int) a.2.2) fun b=>
    chk (o+b.1.restows) fun e=>
    bif ((decide (a.2.1 < 0))||(decide (e < a.1))) then
    (d (b.2,e,(c:Int)))
    else
    (d (b.2,a.1,a.2.1))) fun(f:(Gt Gx Ge)×Int×Int)=>
   g (f.2.1,f.2.2,f.1))
  (fun(a:Int×Int×(Gt Gx Ge))=>
   some ((Ge.mk a.1 a.2.1),a.2.2)) i 0 (0,(-1),m_))
abbrev Eu (c1_:Int) (c2_:List (List (List G1))) (c3__f:FuncId) (c3__c:List AV):List AV:=[.ptr 1032 0,.dptr [I64 c1_],.dptr [LS 1 (LS 1 (E4)) c2_],.dptr [.fn c3__f c3__c],.ptr 1033 0]
theorem Ha2 (c0_:Int) (c1_:Int) (c2_:List (List (List G1))) (c3_:(List G1)→(List G1)→Option Int) (c3__f:FuncId) (c3__c:List AV) (c3__B:Hh En c3__f=true) (c3__d:Qn (fun _=>false) c3__c=true) (c3__w:∀ a0 a1 q,c3_ a0 a1=some q→Pure En c3__f ([E4 a0,E4 a1]++c3__c) (·=I64 q)) (c4_:Int) (m_:Gt Gx Ge) (self_:Int→Int→Gt Gx Ge→Option (Ge×Gt Gx Ge)) (self_w:∀ (q_0:Int) (q_1:Int) (m_:Gt Gx Ge) (r_:Ge×Gt Gx Ge),self_ q_0 q_1 m_=some r_→Q2 En 30 [I64 q_0,I64 q_1,.ptr 1032 0,.dptr [I64 c1_],.dptr [LS 1 (LS 1 (E4)) c2_],.dptr [.fn c3__f c3__c],.ptr 1033 0] [(1032,.box 88 [.mp 1035]),(1035,MP 88 Gx.kv Ge.av m_),(1033,.box 89 [.fn 30 [.ptr 1032 0,.dptr [I64 c1_],.dptr [LS 1 (LS 1 (E4)) c2_],.dptr [.fn c3__f c3__c],.ptr 1033 0]])] (fun av L'=>av=.agg [I64 r_.1.restows,I64 r_.1.next]∧L'=[(1032,.box 88 [.mp 1035]),(1035,MP 88 Gx.kv Ge.av r_.2),(1033,.box 89 [.fn 30 [.ptr 1032 0,.dptr [I64 c1_],.dptr [LS 1 (LS 1 (E4)) c2_],.dptr [.fn c3__f c3__c],.ptr 1033 0]])])) (r:Ge×(Gt Gx Ge)) (h:G08 c0_ c1_ c2_ c3_ c4_ m_ self_=some r):Q2 En 32 [.dptr [I64 c0_],.dptr [I64 c1_],.dptr [LS 1 (LS 1 (E4)) c2_],.dptr [.fn c3__f c3__c],.dptr [I64 c4_],.ptr 1033 0] [(1032,.box 88 [.mp 1035]),(1035,MP 88 Gx.kv Ge.av m_),(1033,.box 89 [.fn 30 [.ptr 1032 0,.dptr [I64 c1_],.dptr [LS 1 (LS 1 (E4)) c2_],.dptr [.fn c3__f c3__c],.ptr 1033 0]])] (fun av L'=>av=.agg [I64 r.1.restows,I64 r.1.next]∧L'=[(1032,.box 88 [.mp 1035]),(1035,MP 88 Gx.kv Ge.av r.2),(1033,.box 89 [.fn 30 [.ptr 1032 0,.dptr [I64 c1_],.dptr [LS 1 (LS 1 (E4)) c2_],.dptr [.fn c3__f c3__c],.ptr 1033 0]])]):=by
 unfold G08 at h
 refine G0a [1033,1032,1035] [.cell 6 91] Tryz.func32 O O (H91 O) (Jr fun c3=>(JLh (.ptr 1097 0) (Yc 1097 [I64 0,I64 0] [E0,E0] H07 (zzQ O) O O) O (G6 (c3 (Jr fun c4=>(JLh (.agg [I64 0,I64 (-1)]) (Ja (cs:=[I64 0,I64 (-1)]) [(0,1),(1,1)] [I64 0,I64 0] [E0,E0] Hfd H07 (zzQ O) O O) O (JLh (.ptr 1098 0) (Hc 1098 2 H7d O O) O (Hb (u:=.junk) (H0 (u:=.agg [I64 0,I64 (-1)]) (ds:=[I64 0,I64 (-1)]) G39 O O O O O O O O) (G6 (c4 (Js fun c5=>Jr fun c6=>(JLh (I64 c0_) (Gf G9 O O O) O ?_))))))))))))
 obtain⟨v5,c8,h⟩:=J6 h
 refine JLh (I64 v5) (Hz c8 O O O) O (JLh (I64 c1_) (Gf G9 O O O) O (JLh (BL (decide (v5=c1_))) (Q6 O O O) O (G6 (c6 (JCc O h (fun h hb=>?_) (fun h hb=>?_))))))
 ·
  refine Jr fun c9=>(JLh (.agg [I64 0,I64 (-1)]) (G28 G4a O O O O) O (Hb (u:=.junk) (H0 (u:=.agg [I64 0,I64 (-1)]) (ds:=[I64 0,I64 (-1)]) G39 O O O O O O O O) (G6 (c9 (Gj [(6,.ptr 1097 0)] [(1032,.box 88 [.mp 1035]),(1035,MP 88 Gx.kv Ge.av m_),(1033,.box 89 [.fn 30 (Eu c1_ c2_ c3__f c3__c)]),(1097,.box 91 [I64 0,I64 (-1)])] 1098 rfl rfl rfl ⟨⟨_,rfl,.boxEq rfl rfl⟩,fmQ O,⟨_,rfl,.boxEq rfl rfl⟩,⟨_,rfl,.boxEq rfl rfl⟩,ø⟩ rfl (by exact⟨.conv (.same rfl),ø⟩) (H2 ?_))))))
  obtain rfl:=Ky h
  exact⟨[.agg [I64 0,I64 (-1)]],[(1032,.box 88 [.mp 1035]),(1035,MP 88 Gx.kv Ge.av m_),(1033,.box 89 [.fn 30 (Eu c1_ c2_ c3__f c3__c)])],⟨⟨_,O,.boxL O ⟨.same O,ø⟩⟩,⟨_,O,.map⟩,⟨_,O,.boxL O ⟨.same O,ø⟩⟩,ø⟩,O,⟨⟨_,⟨_,_,_,_,O,O,O,.inl ⟨G4a,O⟩⟩,.conv (.same O)⟩,ø⟩,O,O⟩
 ·
  refine Gp (c5 (Js fun d0=>Jr fun d1=>(JLh (LS 1 (LS 1 (E4)) c2_) (Gf G3c O O O) O (JLh (I64 c0_) (Gf G9 O O O) O ?_))))
  obtain⟨v9,d2,h⟩:=J6 h
  refine JLh (I64 v9) (Hz d2 O O O) O ?_
  obtain⟨e0,g,a2,a3,h⟩:=Qx h
  refine JLh (.dptr [LS 1 (E4) g]) (H4 (f:=(LS 1 (E4))) (xs:=c2_) (y:=g) O O O G34 a3 a2) O (JLh (LS 1 (E4) g) (Gf Q1 O O O) O (JLl J8 O O O fun a4=>(JLm (I64 0) O (G6 (d1 (Gk ?_))))))
  obtain⟨d3,a5,a6,p,h⟩:=J5 h
  refine Hk (fun b (a:Int×Int×(Gt Gx Ge))=>each d3 a5 (List.drop b g) b a=some r) (fun b a=>[(0,.dptr [I64 c0_]),(2,.dptr [LS 1 (LS 1 (E4)) c2_]),(3,.dptr [.fn c3__f c3__c]),(4,.dptr [I64 c4_]),(5,.ptr 1033 0),(6,.ptr 1097 0),(7,.ptr 1098 0),(21,Em g.length),(22,Em b)]) (fun b a=>[(1035,MP 88 Gx.kv Ge.av a.2.2),(1032,.box 88 [.mp 1035]),(1033,.box 89 [.fn 30 (Eu c1_ c2_ c3__f c3__c)]),(1097,.box 91 [I64 0,I64 0]),(1098,.box 91 [I64 a.1,I64 a.2.1])]) (fun b=>g.length - b) 0 (0,(-1),m_) h ⟨(.sm O O),⟨fmQ O,fbQ O ⟨.same rfl,ø⟩,fbQ O ⟨.same rfl,ø⟩,fbQ O (.sm O O),fbQ O (.sm O O),ø⟩,rfl⟩ ?_
  clear h
  intro b a n e1 d4
  refine Jr fun a7=>(JLh (BL (decide ((b:Int) < (g.length:Int)))) (Jf O O O) O (G6 (a7 (Js fun a8=>Gn O (fun hb=>?_) (fun hb=>?_)))))
  ·
   have o:=Jn hb
   obtain⟨e2,d8,d9,a9,h⟩:=Hs n o
   replace h:=Rx a6 h
   refine Gp (a8 ?_)
   obtain⟨b0,s,h⟩:=Rc h
   refine Qf (fun e:(Gt Gx Ge)×Int×Int=>b0 e=some r) (fun e=>[(0,.dptr [I64 c0_]),(2,.dptr [LS 1 (LS 1 (E4)) c2_]),(3,.dptr [.fn c3__f c3__c]),(4,.dptr [I64 c4_]),(5,.ptr 1033 0),(6,.ptr 1097 0),(7,.ptr 1098 0),(21,Em g.length),(22,Em b)]) (fun e=>[(1035,MP 88 Gx.kv Ge.av e.1),(1032,.box 88 [.mp 1035]),(1033,.box 89 [.fn 30 (Eu c1_ c2_ c3__f c3__c)]),(1097,.box 91 [I64 0,I64 0]),(1098,.box 91 [I64 e.2.1,I64 e.2.2])]) (fun Kj87 ej87=>?_) ?_
   ·
    refine Gk (Jr fun b1=>(JLm (Em b) O (JLm (Em b) O (G6 (b1 (Js fun b2=>?_))))))
    refine Ye (l':=[(0,.dptr [I64 c0_]),(2,.dptr [LS 1 (LS 1 (E4)) c2_]),(3,.dptr [.fn c3__f c3__c]),(4,.dptr [I64 c4_]),(5,.ptr 1033 0),(6,.ptr 1097 0),(7,.ptr 1098 0),(8,Em b),(21,Em g.length),(22,Em b)]) (L':=[(1035,MP 88 Gx.kv Ge.av a.2.2),(1032,.box 88 [.mp 1035]),(1033,.box 89 [.fn 30 (Eu c1_ c2_ c3__f c3__c)]),(1097,.box 91 [I64 0,I64 0]),(1098,.box 91 [I64 a.1,I64 a.2.1])]) ⟨(.sm O O),⟨fmQ O,fbQ O ⟨.same rfl,ø⟩,fbQ O ⟨.same rfl,ø⟩,fbQ O (.sm O O),fbQ O (.sm O O),ø⟩,rfl⟩ ?_
    obtain⟨e3,l,b3,b4,h⟩:=Qx h
    obtain⟨e4,i,b5,b6,h⟩:=Qx h
    obtain⟨d5,b7,h⟩:=J6 h
    obtain⟨e5,m,b8,b9,h⟩:=Qx h
    obtain⟨e6,j,c0,c1,h⟩:=Qx h
    obtain⟨d6,c2,h⟩:=Gh h
    obtain⟨k,t,h⟩:=J6 h
    obtain⟨d,v,h⟩:=Gh h
    obtain⟨c,w,h⟩:=J6 h
    refine R4 [21] [0,0,0,0,0,0,0,0,0,0,0,0,0,0,0,0,0,0,0,0,0,0,1,1,1] [0,0,0,0,0,0,0,0,0,0,0,0,0,0,0,0,0,0,0,0,0,0,1,1,1] [[(1035,MP 88 Gx.kv Ge.av a.2.2),(1032,.box 88 [.mp 1035]),(1033,.box 89 [.fn 30 (Eu c1_ c2_ c3__f c3__c)]),(1097,.box 91 [I64 0,I64 0]),(1098,.box 91 [I64 a.1,I64 a.2.1])],((1035,MP 88 Gx.kv Ge.av d.2)::[(1035,MP 88 Gx.kv Ge.av a.2.2),(1032,.box 88 [.mp 1035]),(1033,.box 89 [.fn 30 (Eu c1_ c2_ c3__f c3__c)]),(1097,.box 91 [I64 0,I64 0]),(1098,.box 91 [I64 a.1,I64 a.2.1])])] Q3 (by kernel_rfl) rfl rfl ?_
    refine Gr (u:=.fn c3__f c3__c) O O ⟨Gm (Gf Q4e O O O) O,ø⟩ (Gr (u:=LS 1 (LS 1 (E4)) c2_) O O ⟨Gm (Gf G3c O O O) O,ø⟩ (Gr (u:=I64 c0_) O O ⟨Gm (Gf G9 O O O) O,ø⟩ (Gr (u:=.dptr [LS 1 (E4) l]) O O ⟨Gm (H4 (f:=(LS 1 (E4))) (xs:=c2_) (y:=l) O O O G34 b4 b3) O,ø⟩ (Gr (u:=LS 1 (E4) l) O O ⟨Gm (Gf Q1 O O O) O,ø⟩ (Gr (u:=I64 c4_) O O ⟨Gm (Gf G9 O O O) O,ø⟩ (Gr (u:=.dptr [E4 i]) O O ⟨Gm (H4 (f:=(E4)) (xs:=l) (y:=i) O O O J8 b6 b5) O,ø⟩ (Gr (u:=E4 i) O O ⟨Gm (Gf Yk O O O) O,ø⟩ (Gr (u:=LS 1 (LS 1 (E4)) c2_) O O ⟨Gm (Gf G3c O O O) O,ø⟩ (Gr (u:=I64 c0_) O O ⟨Gm (Gf G9 O O O) O,ø⟩ (Gr (u:=I64 d5) O O ⟨Gm (Hz b7 O O O) O,ø⟩ (Gr (u:=.dptr [LS 1 (E4) m]) O O ⟨Gm (H4 (f:=(LS 1 (E4))) (xs:=c2_) (y:=m) O O O G34 b9 b8) O,ø⟩ (Gr (u:=LS 1 (E4) m) O O ⟨Gm (Gf Q1 O O O) O,ø⟩ (Gr (u:=Em b) O O ⟨Gm (G5 O O) O,ø⟩ ?_)))))))))))))
    refine Gr (u:=.dptr [E4 j]) O O ⟨Gm (H4 (f:=(E4)) (xs:=m) (y:=j) O O O J8 c1 c0) O,ø⟩ (Gr (u:=E4 j) O O ⟨Gm (Gf Yk O O O) O,ø⟩ (Gr (u:=I64 d6) O O ⟨Gm (G33 (args:=[E4 i,E4 j]) (caps:=c3__c) O O (c3__w i j _ c2) c3__B ⟨O,O,O,O,ø⟩ c3__d) O,ø⟩ (Gr (u:=.fn 30 (Eu c1_ c2_ c3__f c3__c)) O O ⟨Gm (Jm G61 O O O O) O,ø⟩ (Gr (u:=I64 c0_) O O ⟨Gm (Gf G9 O O O) O,ø⟩ (Gr (u:=I64 k) O O ⟨Gm (Hz t O O O) O,ø⟩ (Gr (u:=Em b) O O ⟨Gm (G5 O O) O,ø⟩ (D_w (u:=.agg [I64 d.1.restows,I64 d.1.next]) O O O O (G04.locEq (Gm (Gb7 (args:=[I64 k,Em b]) (caps:=(Eu c1_ c2_ c3__f c3__c)) (L0:=[(1032,.box 88 [.mp 1035]),(1035,MP 88 Gx.kv Ge.av a.2.2),(1033,.box 89 [.fn 30 (Eu c1_ c2_ c3__f c3__c)])]) (Lr:=[(1032,.box 88 [.mp 1035]),(1035,MP 88 Gx.kv Ge.av d.2),(1033,.box 89 [.fn 30 (Eu c1_ c2_ c3__f c3__c)])]) O O (self_w k (b:Int) a.2.2 d v) H0d ⟨.inl O,O,.inl O,O,ø⟩ O ⟨O,O,O,ø⟩ O O O) O) (G98.of [1035,1032,1033,1097,1098] O O ⟨O,O,O,O,O,ø⟩)) (Gr (u:=I64 d.1.restows) O O ⟨Gm (H53 H09 O O O) O,ø⟩ (Gr (u:=I64 c) O O ⟨Gm (Hz w O O O) O,ø⟩ (Gr (u:=I64 c) O O ⟨Gm (G7 O O) O,ø⟩ (Zg ?_)))))))))))
    refine b2 (Jr fun x=>(JLh (.ptr 1098 1) (J7 Jff O O) O (JLh (I64 a.2.1) (Jm G9 O O O O) O (JLh (BL (decide (a.2.1 < 0))) (Jf O O O) O (JLm (BL (decide (a.2.1 < 0))) O (JLo (I64 c) [] O .scf ø (fun hc=>G5 O O) O (JLo (.ptr 1098 0) [] O .scf ø (fun hc=>J7 Q00 O O) O (JLo (I64 a.1) [54] O .scf ⟨Ua,ø⟩ (fun hc=>Jm G9 O O O O) O (JLo (BL (decide (c < a.1))) [53,55] O .scf ⟨Ua,Ua,ø⟩ (fun hc=>Jf O O O) O (JLh (BL ((decide (a.2.1 < 0))||(decide (c < a.1)))) (G27 O O O O) O (G6 (x (JCc O h (fun h hb=>?_) (fun h hb=>?_))))))))))))))
    ·
     refine G2 (JLm (I64 c) O (JLm (Em b) O (JLh (.agg [I64 c,Em b]) (Ja (cs:=[I64 c,Em b]) [(0,1),(1,1)] [I64 0,I64 0] [E0,E0] Hfd H07 (zzQ O) O O) O (Hb (u:=.junk) (H0 (u:=.agg [I64 c,Em b]) (ds:=[I64 c,Em b]) G39 O O O O O O O O) (G6 (ej87 _ _ (d.2,c,(b:Int)) h ⟨(.sm O O),⟨fmQ O,fbQ O ⟨.same rfl,ø⟩,fbQ O ⟨.same rfl,ø⟩,fbQ O (.sm O O),fbQ O (.sm O O),ø⟩,rfl⟩))))))
    ·
     refine Gp (ej87 _ _ (d.2,a.1,a.2.1) h ⟨(.sm O O),⟨fmQ O,fbQ O ⟨.same rfl,ø⟩,fbQ O ⟨.same rfl,ø⟩,fbQ O (.sm O O),fbQ O (.sm O O),ø⟩,rfl⟩)
   ·intro e h
    replace h:=app1 s h
    refine G2 (JLh (I64 ((b+1:Nat):Int)) (Hz (He o a4) O O O) O (JLm (I64 ((b+1:Nat):Int)) O (G6 (d4 _ _ (b+1) (e.2.1,e.2.2,e.1) (app1 a9 h) (by omega) ⟨(.sm O O),⟨fmQ O,fbQ O ⟨.same rfl,ø⟩,fbQ O ⟨.same rfl,ø⟩,fbQ O (.sm O O),fbQ O (.sm O O),ø⟩,rfl⟩))))
  ·
   have h:=app1 p (Ht n (H9 hb))
   refine Hr (d0 (Jr fun z=>(JLh (.agg [I64 a.1,I64 a.2.1]) (G28 G4a O O O O) O (Hb (u:=.junk) (H0 (u:=.agg [I64 a.1,I64 a.2.1]) (ds:=[I64 a.1,I64 a.2.1]) G39 O O O O O O O O) (G6 (z (Gj [(6,.ptr 1097 0)] [(1035,MP 88 Gx.kv Ge.av a.2.2),(1032,.box 88 [.mp 1035]),(1033,.box 89 [.fn 30 (Eu c1_ c2_ c3__f c3__c)]),(1097,.box 91 [I64 a.1,I64 a.2.1])] 1098 rfl rfl rfl ⟨fmQ O,⟨_,rfl,.boxEq rfl rfl⟩,⟨_,rfl,.boxEq rfl rfl⟩,⟨_,rfl,.boxEq rfl rfl⟩,ø⟩ rfl (by exact⟨.conv (.same rfl),ø⟩) (H2 ?_))))))))
   obtain rfl:=Ky h
   exact⟨[.agg [I64 a.1,I64 a.2.1]],[(1032,.box 88 [.mp 1035]),(1035,MP 88 Gx.kv Ge.av a.2.2),(1033,.box 89 [.fn 30 (Eu c1_ c2_ c3__f c3__c)])],⟨⟨_,O,.boxL O ⟨.same O,ø⟩⟩,⟨_,O,.map⟩,⟨_,O,.boxL O ⟨.same O,ø⟩⟩,ø⟩,O,⟨⟨_,⟨_,_,_,_,O,O,O,.inl ⟨G4a,O⟩⟩,.conv (.same O)⟩,ø⟩,O,O⟩

def Y9 (k_:Gx) (m_:Gt Gx Ge) (c0_:Int) (c1_:Int) (c2_:List (List (List G1))) (c3_:(List G1)→(List G1)→Option Int) (c4_:Int) (self_:Int→Int→Gt Gx Ge→Option (Ge×Gt Gx Ge)):Option (Ge×(Gt Gx Ge)):=
 bnd (some (Gt.get m_ k_ (Ge.mk 0 0))) fun b=>
 bif (Gt.has m_ k_) then
 (some (b,m_))
 else
 (bnd (G08 c0_ c1_ c2_ c3_ c4_ m_ self_) fun a=>
  some (a.1,(Gt.put a.2 k_ a.1)))
abbrev Ev (c1_:Int) (c2_:List (List (List G1))) (c3__f:FuncId) (c3__c:List AV):List AV:=[.ptr 1032 0,.dptr [I64 c1_],.dptr [LS 1 (LS 1 (E4)) c2_],.dptr [.fn c3__f c3__c],.ptr 1033 0]
abbrev Ew (c0_:Int) (c1_:Int) (c2_:List (List (List G1))) (c3__f:FuncId) (c3__c:List AV) (c4_:Int):List AV:=[.dptr [I64 c0_],.dptr [I64 c1_],.dptr [LS 1 (LS 1 (E4)) c2_],.dptr [.fn c3__f c3__c],.dptr [I64 c4_],.ptr 1033 0]
theorem H23 (k_:Gx) (m_:Gt Gx Ge) (c0_:Int) (c1_:Int) (c2_:List (List (List G1))) (c3_:(List G1)→(List G1)→Option Int) (c3__f:FuncId) (c3__c:List AV) (c3__B:Hh En c3__f=true) (c3__d:Qn (fun _=>false) c3__c=true) (c3__w:∀ a0 a1 q,c3_ a0 a1=some q→Pure En c3__f ([E4 a0,E4 a1]++c3__c) (·=I64 q)) (c4_:Int) (self_:Int→Int→Gt Gx Ge→Option (Ge×Gt Gx Ge)) (self_w:∀ (q_0:Int) (q_1:Int) (m_:Gt Gx Ge) (r_:Ge×Gt Gx Ge),self_ q_0 q_1 m_=some r_→Q2 En 30 [I64 q_0,I64 q_1,.ptr 1032 0,.dptr [I64 c1_],.dptr [LS 1 (LS 1 (E4)) c2_],.dptr [.fn c3__f c3__c],.ptr 1033 0] [(1032,.box 88 [.mp 1035]),(1035,MP 88 Gx.kv Ge.av m_),(1033,.box 89 [.fn 30 [.ptr 1032 0,.dptr [I64 c1_],.dptr [LS 1 (LS 1 (E4)) c2_],.dptr [.fn c3__f c3__c],.ptr 1033 0]])] (fun av L'=>av=.agg [I64 r_.1.restows,I64 r_.1.next]∧L'=[(1032,.box 88 [.mp 1035]),(1035,MP 88 Gx.kv Ge.av r_.2),(1033,.box 89 [.fn 30 [.ptr 1032 0,.dptr [I64 c1_],.dptr [LS 1 (LS 1 (E4)) c2_],.dptr [.fn c3__f c3__c],.ptr 1033 0]])])) (r:Ge×(Gt Gx Ge)) (h:Y9 k_ m_ c0_ c1_ c2_ c3_ c4_ self_=some r):Q2 En 31 [.mp 1035,.agg [I64 k_.e0,I64 k_.e1],.fn 32 [.dptr [I64 c0_],.dptr [I64 c1_],.dptr [LS 1 (LS 1 (E4)) c2_],.dptr [.fn c3__f c3__c],.dptr [I64 c4_],.ptr 1033 0]] [(1032,.box 88 [.mp 1035]),(1035,MP 88 Gx.kv Ge.av m_),(1033,.box 89 [.fn 30 [.ptr 1032 0,.dptr [I64 c1_],.dptr [LS 1 (LS 1 (E4)) c2_],.dptr [.fn c3__f c3__c],.ptr 1033 0]])] (fun av L'=>av=.agg [I64 r.1.restows,I64 r.1.next]∧L'=[(1032,.box 88 [.mp 1035]),(1035,MP 88 Gx.kv Ge.av r.2),(1033,.box 89 [.fn 30 [.ptr 1032 0,.dptr [I64 c1_],.dptr [LS 1 (LS 1 (E4)) c2_],.dptr [.fn c3__f c3__c],.ptr 1033 0]])]):=by
 unfold Y9 at h
 refine G0a [1032,1035,1033] [.cell 6 91] Tryz.func31 O O (H91 O) (Jr fun e=>(JLh (.ptr 1093 0) (Q5 (cs:=[I64 k_.e0,I64 k_.e1]) 1093 O O O O O) O (JLh (.ptr 1094 0) (Yc 1094 [I64 0,I64 0] [E0,E0] H07 (zzQ O) O O) O (G6 (e ?_)))))
 refine fzQ [(0,.mp 1035),(2,.fn 32 (Ew c0_ c1_ c2_ c3__f c3__c c4_)),(4,.dptr [I64 k_.e0,I64 k_.e1]),(6,.ptr 1094 0)] [(1032,.box 88 [.mp 1035]),(1035,MP 88 Gx.kv Ge.av m_),(1033,.box 89 [.fn 30 (Ev c1_ c2_ c3__f c3__c)]),(1094,.box 91 [I64 0,I64 0])] 1093 rfl rfl rfl ⟨⟨_,rfl,.boxEq rfl rfl⟩,fmQ O,⟨_,rfl,.boxEq rfl rfl⟩,⟨_,rfl,.boxEq rfl rfl⟩,ø⟩ rfl (Js fun f=>Jr fun g=>(JLm (.mp 1035) O (JLh (.agg [I64 k_.e0,I64 k_.e1]) (Gg Q1d O O O) O ?_)))
 obtain⟨c,i,h⟩:=Gh h
 refine JLh (.tup [.agg [I64 c.restows,I64 c.next],BL (Gt.has m_ k_)]) (((Ky i) ▸ Hf7 (av:=Ge.av) (m:=m_) (a:=k_) (Ge.mk 0 0) (.agg #[E0,E0]) O O O O Y3a Q18 Rc6 O)) O (JLm (.tup [.agg [I64 c.restows,I64 c.next],BL (Gt.has m_ k_)]) O (JLh (.agg [I64 c.restows,I64 c.next]) (Gv O O O) O (JLh (BL (Gt.has m_ k_)) (Gv O O O) O (JLh (.ptr 1095 0) (Hc 1095 2 H7d O O) O (Hb (u:=.junk) (H0 (u:=.agg [I64 c.restows,I64 c.next]) (ds:=[I64 c.restows,I64 c.next]) G39 O O O O O O O O) (JLm (BL (Gt.has m_ k_)) O (G6 (g ?_))))))))
 refine fzQ [(0,.mp 1035),(2,.fn 32 (Ew c0_ c1_ c2_ c3__f c3__c c4_)),(4,.dptr [I64 k_.e0,I64 k_.e1]),(6,.ptr 1094 0),(7,.dptr [I64 c.restows,I64 c.next]),(8,BL (Gt.has m_ k_))] [(1032,.box 88 [.mp 1035]),(1035,MP 88 Gx.kv Ge.av m_),(1033,.box 89 [.fn 30 (Ev c1_ c2_ c3__f c3__c)]),(1094,.box 91 [I64 0,I64 0])] 1095 rfl rfl rfl ⟨⟨_,rfl,.boxEq rfl rfl⟩,fmQ O,⟨_,rfl,.boxEq rfl rfl⟩,⟨_,rfl,.boxEq rfl rfl⟩,ø⟩ rfl (Jr fun j=>(JLm (BL (Gt.has m_ k_)) O (G6 (j (JCc O h (fun h hb=>?_) (fun h hb=>?_))))))
 ·
  refine Jr fun k=>(JLh (.agg [I64 c.restows,I64 c.next]) (Gg G4a O O O) O (Hb (u:=.junk) (H0 (u:=.agg [I64 c.restows,I64 c.next]) (ds:=[I64 c.restows,I64 c.next]) G39 O O O O O O O O) (G6 (k (H2 ?_)))))
  obtain rfl:=Ky h
  exact⟨[.agg [I64 c.restows,I64 c.next]],[(1032,.box 88 [.mp 1035]),(1035,MP 88 Gx.kv Ge.av m_),(1033,.box 89 [.fn 30 (Ev c1_ c2_ c3__f c3__c)])],⟨⟨_,O,.boxL O ⟨.same O,ø⟩⟩,⟨_,O,.map⟩,⟨_,O,.boxL O ⟨.same O,ø⟩⟩,ø⟩,O,⟨⟨_,⟨_,_,_,_,O,O,O,.inl ⟨G4a,O⟩⟩,.conv (.same O)⟩,ø⟩,O,O⟩
 ·
  refine Gp (f (Jr fun l=>(JLm (.fn 32 (Ew c0_ c1_ c2_ c3__f c3__c c4_)) O ?_)))
  obtain⟨b,n,h⟩:=Gh h
  refine JLh (.agg [I64 b.1.restows,I64 b.1.next]) (Gb7 (args:=[]) (caps:=(Ew c0_ c1_ c2_ c3__f c3__c c4_)) (L0:=[(1032,.box 88 [.mp 1035]),(1035,MP 88 Gx.kv Ge.av m_),(1033,.box 89 [.fn 30 (Ev c1_ c2_ c3__f c3__c)])]) (Lr:=[(1032,.box 88 [.mp 1035]),(1035,MP 88 Gx.kv Ge.av b.2),(1033,.box 89 [.fn 30 (Ev c1_ c2_ c3__f c3__c)])]) O O (Ha2 c0_ c1_ c2_ c3_ c3__f c3__c c3__B c3__d c3__w c4_ m_ self_ self_w b n) R11 ø O ⟨O,O,O,ø⟩ O O O) O (JLh (.ptr 1096 0) (Hc 1096 2 H7d O O) O (Hb (u:=.junk) (H0 (u:=.agg [I64 b.1.restows,I64 b.1.next]) (ds:=[I64 b.1.restows,I64 b.1.next]) G39 O O O O O O O O) (G6 (l ?_))))
  refine fzQ [(0,.mp 1035),(4,.dptr [I64 k_.e0,I64 k_.e1]),(6,.ptr 1094 0),(9,.dptr [I64 b.1.restows,I64 b.1.next])] [(1032,.box 88 [.mp 1035]),(1035,MP 88 Gx.kv Ge.av b.2),(1033,.box 89 [.fn 30 (Ev c1_ c2_ c3__f c3__c)]),(1094,.box 91 [I64 0,I64 0])] 1096 rfl rfl rfl ⟨⟨_,rfl,.boxEq rfl rfl⟩,fmQ O,⟨_,rfl,.boxEq rfl rfl⟩,⟨_,rfl,.boxEq rfl rfl⟩,ø⟩ rfl ?_
  refine Jr fun o=>(JLm (.mp 1035) O (JLh (.agg [I64 k_.e0,I64 k_.e1]) (Gg Q1d O O O) O (JLh (.agg [I64 b.1.restows,I64 b.1.next]) (Gg G4a O O O) O (Hb (u:=.junk) (G6b (m:=b.2) (a:=k_) (v:=b.1) O O O O O O Y3a Q18) (G6 (o (Jr fun d=>(JLh (.agg [I64 b.1.restows,I64 b.1.next]) (Gg G4a O O O) O (Hb (u:=.junk) (H0 (u:=.agg [I64 b.1.restows,I64 b.1.next]) (ds:=[I64 b.1.restows,I64 b.1.next]) G39 O O O O O O O O) (G6 (d (H2 ?_))))))))))))
  obtain rfl:=Ky h
  exact⟨[.agg [I64 b.1.restows,I64 b.1.next]],[(1032,.box 88 [.mp 1035]),(1035,MP 88 Gx.kv Ge.av (Gt.put b.2 k_ b.1)),(1033,.box 89 [.fn 30 (Ev c1_ c2_ c3__f c3__c)])],⟨⟨_,O,.boxL O ⟨.same O,ø⟩⟩,⟨_,O,.map⟩,⟨_,O,.boxL O ⟨.same O,ø⟩⟩,ø⟩,O,⟨⟨_,⟨_,_,_,_,O,O,O,.inl ⟨G4a,O⟩⟩,.conv (.same O)⟩,ø⟩,O,O⟩

def Z3 (k:Int) (i:Int) (b:Gt Gx Ge) (c:Int) (d:List (List (List G1))) (e:(List G1)→(List G1)→Option Int) (self_:Int→Int→Gt Gx Ge→Option (Ge×Gt Gx Ge)):Option (Ge×(Gt Gx Ge)):=
 bnd (Y9 (Gx.mk k i) b k c d e i self_) fun a=>
 some (a.1,a.2)
abbrev Ex (a:Int) (b:List (List (List G1))) (p5_f:FuncId) (p5_c:List AV):List AV:=[.ptr 1032 0,.dptr [I64 a],.dptr [LS 1 (LS 1 (E4)) b],.dptr [.fn p5_f p5_c],.ptr 1033 0]
abbrev Ey (k:Int) (a:Int) (b:List (List (List G1))) (p5_f:FuncId) (p5_c:List AV) (i:Int):List AV:=[.dptr [I64 k],.dptr [I64 a],.dptr [LS 1 (LS 1 (E4)) b],.dptr [.fn p5_f p5_c],.dptr [I64 i],.ptr 1033 0]
theorem Hf2 (k:Int) (i:Int) (d:Gt Gx Ge) (a:Int) (b:List (List (List G1))) (e:(List G1)→(List G1)→Option Int) (p5_f:FuncId) (p5_c:List AV) (p5_B:Hh En p5_f=true) (p5_d:Qn (fun _=>false) p5_c=true) (p5_w:∀ a0 a1 q,e a0 a1=some q→Pure En p5_f ([E4 a0,E4 a1]++p5_c) (·=I64 q)) (self_:Int→Int→Gt Gx Ge→Option (Ge×Gt Gx Ge)) (self_w:∀ (q_0:Int) (q_1:Int) (m_:Gt Gx Ge) (r_:Ge×Gt Gx Ge),self_ q_0 q_1 m_=some r_→Q2 En 30 [I64 q_0,I64 q_1,.ptr 1032 0,.dptr [I64 a],.dptr [LS 1 (LS 1 (E4)) b],.dptr [.fn p5_f p5_c],.ptr 1033 0] [(1032,.box 88 [.mp 1035]),(1035,MP 88 Gx.kv Ge.av m_),(1033,.box 89 [.fn 30 [.ptr 1032 0,.dptr [I64 a],.dptr [LS 1 (LS 1 (E4)) b],.dptr [.fn p5_f p5_c],.ptr 1033 0]])] (fun av L'=>av=.agg [I64 r_.1.restows,I64 r_.1.next]∧L'=[(1032,.box 88 [.mp 1035]),(1035,MP 88 Gx.kv Ge.av r_.2),(1033,.box 89 [.fn 30 [.ptr 1032 0,.dptr [I64 a],.dptr [LS 1 (LS 1 (E4)) b],.dptr [.fn p5_f p5_c],.ptr 1033 0]])])) (r:Ge×(Gt Gx Ge)) (h:Z3 k i d a b e self_=some r):Q2 En 30 [I64 k,I64 i,.ptr 1032 0,.dptr [I64 a],.dptr [LS 1 (LS 1 (E4)) b],.dptr [.fn p5_f p5_c],.ptr 1033 0] [(1032,.box 88 [.mp 1035]),(1035,MP 88 Gx.kv Ge.av d),(1033,.box 89 [.fn 30 [.ptr 1032 0,.dptr [I64 a],.dptr [LS 1 (LS 1 (E4)) b],.dptr [.fn p5_f p5_c],.ptr 1033 0]])] (fun av L'=>av=.agg [I64 r.1.restows,I64 r.1.next]∧L'=[(1032,.box 88 [.mp 1035]),(1035,MP 88 Gx.kv Ge.av r.2),(1033,.box 89 [.fn 30 [.ptr 1032 0,.dptr [I64 a],.dptr [LS 1 (LS 1 (E4)) b],.dptr [.fn p5_f p5_c],.ptr 1033 0]])]):=by
 unfold Z3 at h
 refine G0a [1032,1035,1033] [.cell 9 91] Tryz.func30 O O (H91 O) (Jr fun f=>(JLh (.ptr 1090 0) (Q5 (cs:=[I64 k]) 1090 O O O O O) O (JLh (.ptr 1091 0) (Q5 (cs:=[I64 i]) 1091 O O O O O) O (JLh (.ptr 1092 0) (Yc 1092 [I64 0,I64 0] [E0,E0] H07 (zzQ O) O O) O (G6 (f ?_))))))
 refine fzQ [(2,.ptr 1032 0),(3,.dptr [I64 a]),(4,.dptr [LS 1 (LS 1 (E4)) b]),(5,.dptr [.fn p5_f p5_c]),(6,.ptr 1033 0),(7,.dptr [I64 k]),(8,.ptr 1091 0),(9,.ptr 1092 0)] [(1032,.box 88 [.mp 1035]),(1035,MP 88 Gx.kv Ge.av d),(1033,.box 89 [.fn 30 (Ex a b p5_f p5_c)]),(1091,.box 3 [I64 i]),(1092,.box 91 [I64 0,I64 0])] 1090 rfl rfl rfl ⟨⟨_,rfl,.boxEq rfl rfl⟩,fmQ O,⟨_,rfl,.boxEq rfl rfl⟩,⟨_,rfl,.boxEq rfl rfl⟩,⟨_,rfl,.boxEq rfl rfl⟩,ø⟩ rfl ?_
 refine fzQ [(2,.ptr 1032 0),(3,.dptr [I64 a]),(4,.dptr [LS 1 (LS 1 (E4)) b]),(5,.dptr [.fn p5_f p5_c]),(6,.ptr 1033 0),(7,.dptr [I64 k]),(8,.dptr [I64 i]),(9,.ptr 1092 0)] [(1032,.box 88 [.mp 1035]),(1035,MP 88 Gx.kv Ge.av d),(1033,.box 89 [.fn 30 (Ex a b p5_f p5_c)]),(1092,.box 91 [I64 0,I64 0])] 1091 rfl rfl rfl ⟨⟨_,rfl,.boxEq rfl rfl⟩,fmQ O,⟨_,rfl,.boxEq rfl rfl⟩,⟨_,rfl,.boxEq rfl rfl⟩,ø⟩ rfl ?_
 refine Jr fun g=>(JLh (.mp 1035) (Jm Q4d O O O O) O (JLh (I64 k) (Gf G9 O O O) O (JLh (I64 i) (Gf G9 O O O) O (JLh (.agg [I64 k,I64 i]) (Hf8 (cs:=[I64 k,I64 i]) [E0,E0] R7d Qe5 O O) O (JLh (.fn 32 (Ey k a b p5_f p5_c i)) (Z5 (cs:=(Ey k a b p5_f p5_c i)) O O) O ?_)))))
 obtain⟨c,j,h⟩:=Gh h
 refine JLh (.agg [I64 c.1.restows,I64 c.1.next]) (H37 (args:=[.mp 1035,.agg [I64 k,I64 i],.fn 32 (Ey k a b p5_f p5_c i)]) (L0:=[(1032,.box 88 [.mp 1035]),(1035,MP 88 Gx.kv Ge.av d),(1033,.box 89 [.fn 30 (Ex a b p5_f p5_c)])]) (Lr:=[(1032,.box 88 [.mp 1035]),(1035,MP 88 Gx.kv Ge.av c.2),(1033,.box 89 [.fn 30 (Ex a b p5_f p5_c)])]) O (H23 (Gx.mk k i) d k a b e p5_f p5_c p5_B p5_d p5_w i self_ self_w c j) R12 ⟨.inl O,O,.inl O,O,.inl O,O,ø⟩ ⟨O,O,O,ø⟩ O O O) O (Hb (u:=.junk) (H0 (u:=.agg [I64 c.1.restows,I64 c.1.next]) (ds:=[I64 c.1.restows,I64 c.1.next]) G39 O O O O O O O O) (G6 (g ?_)))
 refine H2 ?_
 obtain rfl:=Ky h
 exact⟨[.agg [I64 c.1.restows,I64 c.1.next]],[(1032,.box 88 [.mp 1035]),(1035,MP 88 Gx.kv Ge.av c.2),(1033,.box 89 [.fn 30 (Ex a b p5_f p5_c)])],⟨⟨_,O,.boxL O ⟨.same O,ø⟩⟩,⟨_,O,.map⟩,⟨_,O,.boxL O ⟨.same O,ø⟩⟩,ø⟩,O,⟨⟨_,⟨_,_,_,_,O,O,O,.inl ⟨G4a,O⟩⟩,.conv (.same O)⟩,ø⟩,O,O⟩

def Qi:Nat→Int→Int→(Gt Gx Ge)→Int→(List (List (List G1)))→((List G1)→(List G1)→Option Int)→Option (Ge×Gt Gx Ge)
 | 0,_,_,_,_,_,_=>none
 | F+1,k,i,a,b,c,d=>Z3 k i a b c d (fun k i a=>Qi F k i a b c d)
theorem G3d:∀ (F:Nat) (k:Int) (i:Int) (a:Gt Gx Ge) (b:Int) (c:List (List (List G1))) (d:(List G1)→(List G1)→Option Int) (p5_f:FuncId) (p5_c:List AV) (p5_B:Hh En p5_f=true) (p5_d:Qn (fun _=>false) p5_c=true) (p5_w:∀ a0 a1 q,d a0 a1=some q→Pure En p5_f ([E4 a0,E4 a1]++p5_c) (·=I64 q)) (r:Ge×Gt Gx Ge) (h:Qi F k i a b c d=some r),Q2 En 30 [I64 k,I64 i,.ptr 1032 0,.dptr [I64 b],.dptr [LS 1 (LS 1 (E4)) c],.dptr [.fn p5_f p5_c],.ptr 1033 0] [(1032,.box 88 [.mp 1035]),(1035,MP 88 Gx.kv Ge.av a),(1033,.box 89 [.fn 30 [.ptr 1032 0,.dptr [I64 b],.dptr [LS 1 (LS 1 (E4)) c],.dptr [.fn p5_f p5_c],.ptr 1033 0]])] (fun av L'=>av=.agg [I64 r.1.restows,I64 r.1.next]∧L'=[(1032,.box 88 [.mp 1035]),(1035,MP 88 Gx.kv Ge.av r.2),(1033,.box 89 [.fn 30 [.ptr 1032 0,.dptr [I64 b],.dptr [LS 1 (LS 1 (E4)) c],.dptr [.fn p5_f p5_c],.ptr 1033 0]])]):=by
 intro F
 induction F with
 | zero=>intro k i a b c d p5_f p5_c p5_B p5_d p5_w r h; cases h
 | succ F ih=>intro k i a b c d p5_f p5_c p5_B p5_d p5_w r h; exact Hf2 k i a b c d p5_f p5_c p5_B p5_d p5_w (fun k i a=>Qi F k i a b c d) (fun k i a r_ h_=>ih k i a b c d p5_f p5_c p5_B p5_d p5_w r_ h_) r h

def G7c (x:G1) (a:Int):Option Bool:=
 some (decide (x.Box=a))
theorem J81 (x:G1) (a:Int) (r:Bool) (h:G7c x a=some r):Pure En 120 [.agg (G1.cs x),.dptr [I64 a]] (·=BL r):=by
 unfold G7c at h
 refine Ha [.tmp 3] Tryz.func120 O O (Jr fun b=>(JLh (.ptr 1193 0) (Q5 (cs:=[I64 x.Box,I64 x.Slot.G4,I64 x.Slot.Tier,U8 x.Slot.Half]) 1193 O O O O O) O (JLm (BL false) O (G6 (b (Gj [(1,.dptr [I64 a]),(2,Eg x)] [] 1193 rfl rfl rfl ø rfl (by exact⟨.conv (.same rfl),.ptr,ø⟩) (Jr fun c=>(JLh (Eg x) (Gc Jz O O O) O (JLh (I64 x.Box) (Gf G9 O O O) O (JLh (I64 a) (Gf G9 O O O) O (JLh (BL (decide (x.Box=a))) (Q6 O O O) O (JLm (BL (decide (x.Box=a))) O (G6 (c (H2 (fin1 BL h))))))))))))))))

def Qh (s:List G1) (f:G1→Option Bool):Option Int:=
 each (fun b c (d:Unit) a=>
  bnd (f b) fun e=>
  bif e then
  (some (c:Int))
  else
  (a ()))
 (fun(d:Unit)=>
  some (-1)) s 0 ()
theorem G30 (s:List G1) (f:G1→Option Bool) (f_f:FuncId) (f_c:List AV) (f_B:Hh En f_f=true) (f_d:Qn (fun _=>false) f_c=true) (f_w:∀ a0 q,f a0=some q→Pure En f_f ([.agg (G1.cs a0)]++f_c) (·=BL q)) (r:Int) (h:Qh s f=some r):Pure En 69 [E4 s,.fn f_f f_c] (·=I64 r):=by
 unfold Qh at h
 refine Ha [.tmp 4] Tryz.func69 O O (Jr fun x=>(JLm (I64 0) O (G6 (x (Js fun z=>Jr fun a1=>(JLm (E4 s) O (JLl Hd O O O fun a2=>(JLm (I64 0) O (G6 (a1 (Gk ?_)))))))))))
 obtain⟨a3,i,j,g,h⟩:=J5 h
 refine Hk (fun a (c:Unit)=>each a3 i (List.drop a s) a c=some r) (fun a c=>[(0,E4 s),(1,.fn f_f f_c),(7,Em s.length),(8,Em a)]) (fun a c=>[]) (fun a=>s.length - a) 0 () h ⟨⟨.same O,.same (Jx _ _ f_d),.same O,.same O,ø⟩,ø,O⟩ ?_
 clear h
 intro a c d a7 a4
 refine Jr fun k=>(JLh (BL (decide ((a:Int) < (s.length:Int)))) (Jf O O O) O (G6 (k (Js fun l=>Gn O (fun hb=>?_) (fun hb=>?_)))))
 ·
  have e:=Jn hb
  obtain⟨b,a6,m,n,h⟩:=Hs d e
  replace h:=Rx j h
  refine Gp (l (Js fun o=>Gk (Jr fun p=>(JLm (Em a) O (JLm (Em a) O (G6 (p (Jr fun t=>(JLm (.fn f_f f_c) O (JLm (E4 s) O (JLm (Em a) O (JLh (Eg b) (H4 (f:=G1.av) (xs:=s) (y:=b) O O O Hd m O) O (JLh (.agg (G1.cs b)) (Gg Qw O O O) O ?_)))))))))))))
  obtain⟨a5,u,h⟩:=Gh h
  refine JLh (BL a5) (G33 (args:=[.agg (G1.cs b)]) (caps:=f_c) O O (f_w b _ u) f_B ⟨O,O,ø⟩ f_d) O (G6 (t (JCc O h (fun h hb=>?_) (fun h hb=>?_))))
  ·
   refine Jr fun v=>(JLm (Em a) O (JLm (Em a) O (G6 (v (H2 (fin1 I64 h))))))
  ·
   refine Gp (o (G2 (JLh (I64 ((a+1:Nat):Int)) (Hz (He e a2) O O O) O (JLm (I64 ((a+1:Nat):Int)) O (G6 (a4 _ _ (a+1) () (app1 n h) (by omega) ⟨⟨.same rfl,.same (Jx _ _ f_d),.same rfl,.same rfl,ø⟩,ø,rfl⟩))))))
 ·
  have h:=app1 g (Ht d (H9 hb))
  refine Hr (z (Jr fun w=>(JLm (I64 (-1)) O (G6 (w (H2 (fin1 I64 h)))))))

def G5e (l:List G1) (id_:Int):Option (Slot×Bool):=
 bnd (Qh l (fun z0=>G7c z0 id_)) fun a=>
 bif decide (a < 0) then
 (some ((Slot.mk 0 0 0),false))
 else
 (Q4 l a fun b=>
  some (b.Slot,true))
theorem H44 (l:List G1) (id_:Int) (r:Slot×Bool) (h:G5e l id_=some r):Pure En 85 [E4 l,I64 id_] (·=.tup [.agg (Slot.cs r.1),BL r.2]):=by
 unfold G5e at h
 refine Ha [.cell 4 63,.tmp 5] Tryz.func85 O O (Jr fun c=>(JLh (.ptr 1166 0) (Q5 (cs:=[I64 id_]) 1166 O O O O O) O (JLh (.ptr 1167 0) (Yc 1167 [I64 0,I64 0,U8 0] [E0,E0,.int .u8 0] Gbc (zzQ O) O O) O (JLm (BL false) O (G6 (c (Gj [(0,E4 l),(3,.dptr [I64 id_]),(4,.ptr 1167 0)] [(1167,.box 63 [I64 0,I64 0,U8 0])] 1166 rfl rfl rfl ⟨⟨_,rfl,.boxEq rfl rfl⟩,ø⟩ rfl (by exact⟨.conv (.same rfl),.ptr,.conv (.same rfl),ø⟩) (Jr fun d=>(JLm (E4 l) O (JLh (.fn 120 [.dptr [I64 id_]]) (Z5 (cs:=[.dptr [I64 id_]]) O O) O ?_))))))))))
 obtain⟨b,e,h⟩:=Gh h
 refine JLh (I64 b) (H3 O (G30 l (fun z0=>G7c z0 id_) 120 [.dptr [I64 id_]] Q93 O (fun z0 q hq=>J81 z0 id_ q hq) b e) Ja6 ⟨O,O,O,O,ø⟩) O (JLm (I64 b) O (G6 (d (Js fun g=>Jr fun i=>(JLm (I64 b) O (JLh (BL (decide (b < 0))) (Jf O O O) O (G6 (i (JCc O h (fun h hb=>?_) (fun h hb=>?_))))))))))
 ·
  refine Jr fun j=>(JLh (.agg [I64 0,I64 0,U8 0]) (Ja (cs:=[I64 0,I64 0,U8 0]) [(0,1),(1,1),(2,1)] [I64 0,I64 0,U8 0] [E0,E0,.int .u8 0] G9d Gbc (zzQ O) O O) O (Hb (u:=.junk) (H0 (u:=.agg [I64 0,I64 0,U8 0]) (ds:=[I64 0,I64 0,U8 0]) G3a O O O O O O O O) (JLm (BL false) O (G6 (j (H2 (⟨[.agg [I64 0,I64 0,U8 0],BL false],[],ø,O,⟨⟨_,⟨_,_,_,_,O,O,O,.inl ⟨Qa,O⟩⟩,.conv (.same O)⟩,⟨_,O,.conv (.same O)⟩,ø⟩,O,congrArg (fun r:Slot×Bool=>(.tup [.agg (Slot.cs r.1),BL r.2]:AV)) (Ky h)⟩)))))))
 ·
  refine Gp (g (Jr fun k=>(JLm (E4 l) O (JLm (I64 b) O ?_))))
  obtain⟨o,a,m,n,h⟩:=Qx h
  refine JLh (Eg a) (H4 (f:=G1.av) (xs:=l) (y:=a) O O O Hd n m) O (JLh (.dptr ((G1.cs a).drop 1)) (Gc Qc O O O) O (JLh (.agg ((G1.cs a).drop 1)) (Gg Qa O O O) O (Hb (u:=.junk) (H0 (u:=.agg ((G1.cs a).drop 1)) (ds:=[I64 a.Slot.G4,I64 a.Slot.Tier,U8 a.Slot.Half]) G3a O O O O O O O O) (JLm (BL true) O (G6 (k (H2 (⟨[.agg ((G1.cs a).drop 1),BL true],[],ø,O,⟨⟨_,⟨_,_,_,_,O,O,O,.inl ⟨Qa,O⟩⟩,.conv (.same O)⟩,⟨_,O,.conv (.same O)⟩,ø⟩,O,congrArg (fun r:Slot×Bool=>(.tup [.agg (Slot.cs r.1),BL r.2]:AV)) (Ky h)⟩))))))))

def G43 (r_:Int) (a:G4):Option Bool:=
 some (decide (r_=a.Row))
theorem J1e (r_:Int) (a:G4) (r:Bool) (h:G43 r_ a=some r):Pure En 164 [I64 r_,Ei a] (·=BL r):=by
 unfold G43 at h
 refine Ha [.tmp 3] Tryz.func164 O O (Jr fun b=>(JLm (BL false) O (G6 (b (Jr fun c=>(JLm (I64 r_) O (JLh (.dptr ((G4.cs a).drop 1)) (Gc G48 O O O) O (JLh (I64 a.Row) (Gf G9 O O O) O (JLh (BL (decide (r_=a.Row))) (Q6 O O O) O (JLm (BL (decide (r_=a.Row))) O (G6 (c (H2 (fin1 BL h))))))))))))))

def G19 (l:List Int) (wanted:Int→Option Bool):Option (List Int):=
 each (fun e b (a:(List Int)) d=>
  jp (fun c=>
   bnd (wanted e) fun f=>
   bif f then
   (need (decide ((a.length+[(b:Int)].length)*8≤140737488355328∧a.length+[(b:Int)].length≤maxLen)) <|
    c (a++[(b:Int)]))
   else
   (c a)) fun(g:(List Int))=>
  d g)
 (fun(a:(List Int))=>
  some a) l 0 []
theorem Hbf (l:List Int) (wanted:Int→Option Bool) (wanted_f:FuncId) (wanted_c:List AV) (wanted_B:Hh En wanted_f=true) (wanted_d:Qn (fun _=>false) wanted_c=true) (wanted_w:∀ a0 q,wanted a0=some q→Pure En wanted_f ([I64 a0]++wanted_c) (·=BL q)) (r:(List Int)) (h:G19 l wanted=some r):Pure En 163 [E5 l,.fn wanted_f wanted_c] (·=E5 r):=by
 unfold G19 at h
 refine Ha [.tmp 4] Tryz.func163 O O (Jr fun a1=>(JLh (E5 ([]:List Int)) (Qj 1 O O) O (G6 (a1 (Jr fun a2=>(JLh (OW 1199 1 I64 ([]:List Int)) (G45 1199 3 1 O O O) O (G6 (a2 (Js fun a3=>Jr fun a4=>(JLm (E5 l) O (JLl H1 O O O fun a5=>(JLm (I64 0) O (G6 (a4 (Gk ?_)))))))))))))))
 obtain⟨a6,k,m,i,h⟩:=J5 h
 refine Hk (fun a (b:(List Int))=>each a6 k (List.drop a l) a b=some r) (fun a b=>[(1,.fn wanted_f wanted_c),(5,OW 1199 1 I64 b),(8,E5 l),(9,Em l.length),(10,Em a)]) (fun a b=>[(1199,.spare 3 1 b.length b.length)]) (fun a=>l.length - a) 0 [] h ⟨⟨.same (Jx _ _ wanted_d),.same O,.same O,.same O,.same O,ø⟩,⟨⟨_,O,.same⟩,ø⟩,O⟩ ?_
 clear h
 intro a b e b0 a7
 refine Jr fun n=>(JLh (BL (decide ((a:Int) < (l.length:Int)))) (Jf O O O) O (G6 (n (Js fun o=>Gn O (fun hb=>?_) (fun hb=>?_)))))
 ·
  have g:=Jn hb
  obtain⟨d,a9,p,s,h⟩:=Hs e g
  replace h:=Rx m h
  refine Gp (o ?_)
  obtain⟨t,j,h⟩:=Rc h
  refine Qf (fun c:(List Int)=>t c=some r) (fun c=>[(1,.fn wanted_f wanted_c),(5,OW 1199 1 I64 c),(8,E5 l),(9,Em l.length),(10,Em a)]) (fun c=>[(1199,.spare 3 1 c.length c.length)]) (fun Kj24 ej24=>?_) ?_
  ·
   refine Gk (Jr fun u=>(JLm (Em a) O (JLh (.dptr [I64 d]) (H4 (f:=I64) (xs:=l) (y:=d) O O O H1 p O) O (JLh (I64 d) (Gf G9 O O O) O (JLm (Em a) O (JLm (I64 d) O (G6 (u (Jr fun v=>(JLm (.fn wanted_f wanted_c) O (JLm (I64 d) O ?_)))))))))))
   obtain⟨a8,w,h⟩:=Gh h
   refine JLh (BL a8) (G33 (args:=[I64 d]) (caps:=wanted_c) O O (wanted_w d _ w) wanted_B ⟨O,O,ø⟩ wanted_d) O (G6 (v (JCc O h (fun h hb=>?_) (fun h hb=>?_))))
   ·
    refine G2 (JLm (OW 1199 1 I64 b) O (JLm (Em a) O (JLh (E5 [(a:Int)]) (H7 (xs:=[Em a]) O ⟨O,O,ø⟩ H1 Rb O O O O) O ?_)))
    obtain⟨x,h⟩:=J9 h
    refine JLh (OW 1199 1 I64 (b++[(a:Int)])) (R0 (f:=I64) (xs:=b) (ys:=[(a:Int)]) O O O O H1 G64 x (fun _=>O) (.inl O) O) O (JLm (OW 1199 1 I64 (b++[(a:Int)])) O (G6 (ej24 _ _ (b++[(a:Int)]) h ⟨⟨.same (Jx _ _ wanted_d),.same O,.same O,.same O,.same O,ø⟩,⟨⟨_,O,.same⟩,ø⟩,O⟩)))
   ·
    refine Gp (ej24 _ _ b h ⟨⟨.same (Jx _ _ wanted_d),.same O,.same O,.same O,.same O,ø⟩,⟨⟨_,O,.same⟩,ø⟩,O⟩)
  ·intro c h
   replace h:=app1 j h
   refine G2 (JLh (I64 ((a+1:Nat):Int)) (Hz (He g a5) O O O) O (JLm (I64 ((a+1:Nat):Int)) O (G6 (a7 _ _ (a+1) c (app1 s h) (by omega) ⟨⟨.same (Jx _ _ wanted_d),.same rfl,.same rfl,.same rfl,.same rfl,ø⟩,⟨⟨_,rfl,.same⟩,ø⟩,rfl⟩))))
 ·
  have h:=app1 i (Ht e (H9 hb))
  refine Hr (a3 (Jr fun z=>(JLm (OW 1199 1 I64 b) O (JLm (OW 1199 1 I64 b) O (G6 (z (H2 (fin1l (fun r:(List Int)=>(E5 r:AV)) h))))))))

def G7b (x:Gs) (c:G4):Option Bool:=
 bnd (bif decide (x.Bay=c.Bay) then G19 x.Rows (fun z0=>G43 z0 c) else some default) fun a=>
 some ((decide (x.Bay=c.Bay))&&(decide (0 < (a.length:Int))))
theorem J7e (x:Gs) (c:G4) (r:Bool) (h:G7b x c=some r):Pure En 143 [.agg [I64 x.Bay,E5 x.Rows],.agg (G4.cs c)] (·=BL r):=by
 unfold G7b at h
 refine Ha [.tmp 4] Tryz.func143 O O (Jr fun b=>(JLh (.ptr 1197 0) (Q5 (cs:=[I64 x.Bay,E5 x.Rows]) 1197 O O O O O) O (JLh (.ptr 1198 0) (Q5 (cs:=(G4.cs c)) 1198 O O O O O) O (JLm (BL false) O (G6 (b (Gj [(2,.dptr [I64 x.Bay,E5 x.Rows]),(3,.ptr 1198 0)] [(1198,.box 41 (G4.cs c))] 1197 rfl rfl rfl ⟨⟨_,rfl,.boxEq rfl rfl⟩,ø⟩ rfl (by exact⟨.ptr,.conv (.same rfl),ø⟩) ?_)))))))
 refine Gj [(2,.dptr [I64 x.Bay,E5 x.Rows]),(3,Ei c)] [] 1198 rfl rfl rfl ø rfl (by exact⟨.conv (.same rfl),.ptr,ø⟩) (Jr fun d=>(JLh (.dptr [I64 x.Bay,E5 x.Rows]) (Gc G9f O O O) O (JLh (I64 x.Bay) (Gf G9 O O O) O (JLh (Ei c) (Gc G49 O O O) O (JLh (I64 c.Bay) (Gf G9 O O O) O (JLh (BL (decide (x.Bay=c.Bay))) (Q6 O O O) O (JLm (BL (decide (x.Bay=c.Bay))) O (JLo (.dptr [E5 x.Rows]) [] O .sct ø (fun hc=>Gc G9e O O O) O (JLo (E5 x.Rows) [11] O .sct ⟨Ua,ø⟩ (fun hc=>Gf Qt O O O) O (JLo (.fn 164 [.dptr (G4.cs c)]) [] O .sct ø (fun hc=>Z5 (cs:=[.dptr (G4.cs c)]) O O) O ?_))))))))))
 obtain⟨a,e,h⟩:=Gh h
 refine JLo (E5 a) [12,13] O .sct ⟨Ua,Ua,ø⟩ (fun hc=>H3 (args:=[E5 x.Rows,.fn 164 [.dptr (G4.cs c)]]) O (Hbf x.Rows (fun z0=>G43 z0 c) 164 [.dptr (G4.cs c)] Q8e O (fun z0 q hq=>J1e z0 c q hq) a (Hg hc e)) Q8f ⟨O,O,O,O,ø⟩) O (JLo (Em a.length) [14] O .sct ⟨Ua,ø⟩ (fun hc=>G32 (f:=I64) (xs:=a) H1 O O) O (JLo (BL (decide (0 < (a.length:Int)))) [15] O .sct ⟨Ua,ø⟩ (fun hc=>G46 O O O) O (JLh (BL ((decide (x.Bay=c.Bay))&&(decide (0 < (a.length:Int))))) (Qr O O O O) O (JLm (BL ((decide (x.Bay=c.Bay))&&(decide (0 < (a.length:Int))))) O (G6 (d (H2 (fin1 BL h))))))))

def G01 (x:Gs) (a:Gb) (b:Int):Option Bool:=
 Q4 a.Columns b fun c=>
 bnd (G7b x c) fun d=>
 some d
theorem Hf3 (x:Gs) (a:Gb) (c:Int) (r:Bool) (h:G01 x a c=some r):Pure En 142 [.agg [I64 x.Bay,E5 x.Rows],Ef a,.dptr [I64 c]] (·=BL r):=by
 unfold G01 at h
 refine Ha [.tmp 4] Tryz.func142 O O (Jr fun e=>(JLh (.ptr 1196 0) (Q5 (cs:=[I64 x.Bay,E5 x.Rows]) 1196 O O O O O) O (JLm (BL false) O (G6 (e (Gj [(1,Ef a),(2,.dptr [I64 c]),(3,.dptr [I64 x.Bay,E5 x.Rows])] [] 1196 rfl rfl rfl ø rfl (by exact⟨.conv (.same rfl),.conv (.same rfl),.ptr,ø⟩) (Js fun g=>?_)))))))
 obtain⟨l,b,i,j,h⟩:=Qx h
 obtain⟨d,k,h⟩:=Gh h
 refine JC_d0 Q3 (by kernel_rfl) (Dq (.agg [I64 x.Bay,E5 x.Rows]) (Gg H5d O O O) O (Dq (Ef a) (Gc Hm O O O) O (Dq (E7 a.Columns) (Gf J3 O O O) O (Dq (I64 c) (Gf G9 O O O) O (Dq (Ei b) (H4 (f:=G4.av) (xs:=a.Columns) (y:=b) O O O Ho j i) O (Dq (.agg (G4.cs b)) (Gg G65 O O O) O (Dq (BL d) (H3 (args:=[.agg [I64 x.Bay,E5 x.Rows],.agg (G4.cs b)]) O (J7e x b d k) Q90 ⟨O,O,O,O,ø⟩) O (Dq (BL d) (G7 O O) O (Dnil (g (H2 (fin1 BL h))))))))))))

def Yq (l:List Gs) (wanted:Gs→Option Bool):Option (List Int):=
 each (fun e b (a:(List Int)) d=>
  jp (fun c=>
   bnd (wanted e) fun f=>
   bif f then
   (need (decide ((a.length+[(b:Int)].length)*8≤140737488355328∧a.length+[(b:Int)].length≤maxLen)) <|
    c (a++[(b:Int)]))
   else
   (c a)) fun(g:(List Int))=>
  d g)
 (fun(a:(List Int))=>
  some a) l 0 []
theorem H43 (l:List Gs) (wanted:Gs→Option Bool) (wanted_f:FuncId) (wanted_c:List AV) (wanted_B:Hh En wanted_f=true) (wanted_d:Qn (fun _=>false) wanted_c=true) (wanted_w:∀ a0 q,wanted a0=some q→Pure En wanted_f ([.agg [I64 a0.Bay,E5 a0.Rows]]++wanted_c) (·=BL q)) (r:(List Int)) (h:Yq l wanted=some r):Pure En 141 [E9 l,.fn wanted_f wanted_c] (·=E5 r):=by
 unfold Yq at h
 refine Ha [.tmp 4] Tryz.func141 O O (Jr fun a2=>(JLh (E5 ([]:List Int)) (Qj 1 O O) O (G6 (a2 (Jr fun a3=>(JLh (OW 1194 1 I64 ([]:List Int)) (G45 1194 3 1 O O O) O (G6 (a3 (Js fun a4=>Jr fun a5=>(JLm (E9 l) O (JLl G0f O O O fun a6=>(JLm (I64 0) O (G6 (a5 (Gk ?_)))))))))))))))
 obtain⟨a7,k,m,i,h⟩:=J5 h
 refine Hk (fun a (b:(List Int))=>each a7 k (List.drop a l) a b=some r) (fun a b=>[(1,.fn wanted_f wanted_c),(5,OW 1194 1 I64 b),(8,E9 l),(9,Em l.length),(10,Em a)]) (fun a b=>[(1194,.spare 3 1 b.length b.length)]) (fun a=>l.length - a) 0 [] h ⟨⟨.same (Jx _ _ wanted_d),.same O,.same O,.same O,.same O,ø⟩,⟨⟨_,O,.same⟩,ø⟩,O⟩ ?_
 clear h
 intro a b e b1 a8
 refine Jr fun n=>(JLh (BL (decide ((a:Int) < (l.length:Int)))) (Jf O O O) O (G6 (n (Js fun o=>Gn O (fun hb=>?_) (fun hb=>?_)))))
 ·
  have g:=Jn hb
  obtain⟨c,b0,p,s,h⟩:=Hs e g
  replace h:=Rx m h
  refine Gp (o ?_)
  obtain⟨t,j,h⟩:=Rc h
  refine Qf (fun d:(List Int)=>t d=some r) (fun d=>[(1,.fn wanted_f wanted_c),(5,OW 1194 1 I64 d),(8,E9 l),(9,Em l.length),(10,Em a)]) (fun d=>[(1194,.spare 3 1 d.length d.length)]) (fun Kj24 ej24=>?_) ?_
  ·
   refine Gk (Jr fun v=>(JLm (Em a) O (JLh (.dptr [I64 c.Bay,E5 c.Rows]) (H4 (f:=Gs.av) (xs:=l) (y:=c) O O O G0f p O) O (JLh (.agg [I64 c.Bay,E5 c.Rows]) (Gg H5d O O O) O (JLh (.ptr 1195 0) (Hc 1195 2 Gf2 O O) O (JLm (Em a) O (Hb (u:=.junk) (H0 (u:=.agg [I64 c.Bay,E5 c.Rows]) (ds:=[I64 c.Bay,E5 c.Rows]) J52 O O O O O O O O) (G6 (v ?_)))))))))
   refine Gj [(1,.fn wanted_f wanted_c),(5,OW 1194 1 I64 b),(6,Em a),(7,.dptr [I64 c.Bay,E5 c.Rows]),(8,E9 l),(9,Em l.length),(10,Em a)] [(1194,.spare 3 1 b.length b.length)] 1195 rfl rfl rfl ⟨⟨_,rfl,.same⟩,ø⟩ rfl (by exact⟨.conv (.same (Jx _ _ wanted_d)),.conv (.same rfl),.conv (.same rfl),.ptr,.conv (.same rfl),.conv (.same rfl),.conv (.same rfl),ø⟩) (Jr fun w=>(JLm (.fn wanted_f wanted_c) O (JLh (.agg [I64 c.Bay,E5 c.Rows]) (Gg H5d O O O) O ?_)))
   obtain⟨a9,x,h⟩:=Gh h
   refine JLh (BL a9) (G33 (args:=[.agg [I64 c.Bay,E5 c.Rows]]) (caps:=wanted_c) O O (wanted_w c _ x) wanted_B ⟨O,O,ø⟩ wanted_d) O (G6 (w (JCc O h (fun h hb=>?_) (fun h hb=>?_))))
   ·
    refine G2 (JLm (OW 1194 1 I64 b) O (JLm (Em a) O (JLh (E5 [(a:Int)]) (H7 (xs:=[Em a]) O ⟨O,O,ø⟩ H1 Rb O O O O) O ?_)))
    obtain⟨z,h⟩:=J9 h
    refine JLh (OW 1194 1 I64 (b++[(a:Int)])) (R0 (f:=I64) (xs:=b) (ys:=[(a:Int)]) O O O O H1 G64 z (fun _=>O) (.inl O) O) O (JLm (OW 1194 1 I64 (b++[(a:Int)])) O (G6 (ej24 _ _ (b++[(a:Int)]) h ⟨⟨.same (Jx _ _ wanted_d),.same O,.same O,.same O,.same O,ø⟩,⟨⟨_,O,.same⟩,ø⟩,O⟩)))
   ·
    refine Gp (ej24 _ _ b h ⟨⟨.same (Jx _ _ wanted_d),.same O,.same O,.same O,.same O,ø⟩,⟨⟨_,O,.same⟩,ø⟩,O⟩)
  ·intro d h
   replace h:=app1 j h
   refine G2 (JLh (I64 ((a+1:Nat):Int)) (Hz (He g a6) O O O) O (JLm (I64 ((a+1:Nat):Int)) O (G6 (a8 _ _ (a+1) d (app1 s h) (by omega) ⟨⟨.same (Jx _ _ wanted_d),.same rfl,.same rfl,.same rfl,.same rfl,ø⟩,⟨⟨_,rfl,.same⟩,ø⟩,rfl⟩))))
 ·
  have h:=app1 i (Ht e (H9 hb))
  refine Hr (a4 (Jr fun a1=>(JLm (OW 1194 1 I64 b) O (JLm (OW 1194 1 I64 b) O (G6 (a1 (H2 (fin1l (fun r:(List Int)=>(E5 r:AV)) h))))))))

def G07 (s:Gb) (column:Int):Option Int:=
 bif ((decide (column < 0))||(decide ((s.Columns.length:Int)≤column))) then
 (some (-1))
 else
 (bnd (Yq s.Covers (fun z0=>G01 z0 s column)) fun a=>
  bif decide ((a.length:Int)=0) then
  (some (-1))
  else
  (Q4 a 0 fun b=>
   some b))
theorem H4f (s:Gb) (column:Int) (r:Int) (h:G07 s column=some r):Pure En 110 [.agg (Gb.cs s),I64 column] (·=I64 r):=by
 unfold G07 at h
 refine Ha [.tmp 4] Tryz.func110 O O (Jr fun g=>(JLh (.ptr 1187 0) (Q5 (cs:=(Gb.cs s)) 1187 O O O O O) O (JLh (.ptr 1188 0) (Q5 (cs:=[I64 column]) 1188 O O O O O) O (JLm (I64 0) O (G6 (g (Gj [(2,Ef s),(3,.ptr 1188 0)] [(1188,.box 3 [I64 column])] 1187 rfl rfl rfl ⟨⟨_,rfl,.boxEq rfl rfl⟩,ø⟩ rfl (by exact⟨.ptr,.conv (.same rfl),ø⟩) (Gj [(2,Ef s),(3,.dptr [I64 column])] [] 1188 rfl rfl rfl ø rfl (by exact⟨.conv (.same rfl),.ptr,ø⟩) (Js fun i=>?_)))))))))
 refine Jr fun j=>(JLh (I64 column) (Gf G9 O O O) O (JLh (BL (decide (column < 0))) (Jf O O O) O (JLm (BL (decide (column < 0))) O (JLo (I64 column) [] O .scf ø (fun hc=>Gf G9 O O O) O (JLo (Ef s) [] O .scf ø (fun hc=>Gc Hm O O O) O (JLo (E7 s.Columns) [10] O .scf ⟨Ua,ø⟩ (fun hc=>Gf J3 O O O) O (JLo (Em s.Columns.length) [11] O .scf ⟨Ua,ø⟩ (fun hc=>G32 (f:=G4.av) (xs:=s.Columns) Ho O O) O (JLo (BL (decide ((s.Columns.length:Int)≤column))) [9,12] O .scf ⟨Ua,Ua,ø⟩ (fun hc=>Ge4 O O O) O (JLh (BL ((decide (column < 0))||(decide ((s.Columns.length:Int)≤column)))) (G27 O O O O) O (G6 (j (JCc O h (fun h hb=>?_) (fun h hb=>?_)))))))))))))
 ·
  refine Jr fun k=>(JLm (I64 (-1)) O (G6 (k (H2 (fin1 I64 h)))))
 ·
  refine Gp (i (Jr fun l=>(JLh (.dptr ((Gb.cs s).drop 1)) (Gc G20 O O O) O (JLh (E9 s.Covers) (Gf G9c O O O) O (JLh (.fn 142 [.dptr (Gb.cs s),.dptr [I64 column]]) (Z5 (cs:=[.dptr (Gb.cs s),.dptr [I64 column]]) O O) O ?_)))))
  obtain⟨a,m,h⟩:=Gh h
  refine JLh (E5 a) (H3 O (H43 s.Covers (fun z0=>G01 z0 s column) 142 [.dptr (Gb.cs s),.dptr [I64 column]] Q91 O (fun z0 q hq=>Hf3 z0 s column q hq) a m) Q92 ⟨O,O,O,O,ø⟩) O (JLm (E5 a) O (G6 (l (Js fun n=>Jr fun o=>(JLm (E5 a) O (JLl H1 O O O fun t=>(JLh (BL (decide ((a.length:Int)=0))) (Q6 O O O) O (G6 (o (JCc O h (fun h hb=>?_) (fun h hb=>?_)))))))))))
  ·
   refine Jr fun p=>(JLm (I64 (-1)) O (G6 (p (H2 (fin1 I64 h)))))
  ·
   refine Gp (n (Jr fun c=>(JLm (E5 a) O ?_)))
   obtain⟨u,b,d,e,h⟩:=Qx h
   refine JLh (.dptr [I64 b]) (H4 (f:=I64) (xs:=a) (y:=b) O O O H1 e d) O (JLh (I64 b) (Gf G9 O O O) O (JLm (I64 b) O (G6 (c (H2 (fin1 I64 h))))))

def Gdd (a:Slot) (b:Slot):Option Bool:=
 bnd (bif ((decide (a.G4=b.G4))&&(decide (b.Tier < a.Tier))) then G4e a.Half b.Half else some default) fun c=>
 some (((decide (a.G4=b.G4))&&(decide (b.Tier < a.Tier)))&&c)
theorem Q0c (a:Slot) (b:Slot) (r:Bool) (h:Gdd a b=some r):Pure En 111 [.agg [I64 a.G4,I64 a.Tier,U8 a.Half],.agg [I64 b.G4,I64 b.Tier,U8 b.Half]] (·=BL r):=by
 unfold Gdd at h
 refine Ha [.tmp 4] Tryz.func111 O O (Jr fun d=>(JLh (.ptr 1189 0) (Q5 (cs:=[I64 a.G4,I64 a.Tier,U8 a.Half]) 1189 O O O O O) O (JLh (.ptr 1190 0) (Q5 (cs:=[I64 b.G4,I64 b.Tier,U8 b.Half]) 1190 O O O O O) O (JLm (BL false) O (G6 (d (Gj [(2,.dptr [I64 a.G4,I64 a.Tier,U8 a.Half]),(3,.ptr 1190 0)] [(1190,.box 63 [I64 b.G4,I64 b.Tier,U8 b.Half])] 1189 rfl rfl rfl ⟨⟨_,rfl,.boxEq rfl rfl⟩,ø⟩ rfl (by exact⟨.ptr,.conv (.same rfl),ø⟩) (Gj [(2,.dptr [I64 a.G4,I64 a.Tier,U8 a.Half]),(3,.dptr [I64 b.G4,I64 b.Tier,U8 b.Half])] [] 1190 rfl rfl rfl ø rfl (by exact⟨.conv (.same rfl),.ptr,ø⟩) ?_))))))))
 refine Jr fun e=>(JLh (.dptr [I64 a.G4,I64 a.Tier,U8 a.Half]) (Gc Qd O O O) O (JLh (I64 a.G4) (Gf G9 O O O) O (JLh (.dptr [I64 b.G4,I64 b.Tier,U8 b.Half]) (Gc Qd O O O) O (JLh (I64 b.G4) (Gf G9 O O O) O (JLh (BL (decide (a.G4=b.G4))) (Q6 O O O) O (JLm (BL (decide (a.G4=b.G4))) O (JLo (.dptr [I64 a.Tier,U8 a.Half]) [] O .sct ø (fun hc=>Gc Ru O O O) O (JLo (I64 a.Tier) [11] O .sct ⟨Ua,ø⟩ (fun hc=>Gf G9 O O O) O (JLo (.dptr [I64 b.Tier,U8 b.Half]) [] O .sct ø (fun hc=>Gc Ru O O O) O (JLo (I64 b.Tier) [13] O .sct ⟨Ua,ø⟩ (fun hc=>Gf G9 O O O) O (JLo (BL (decide (b.Tier < a.Tier))) [12,14] O .sct ⟨Ua,Ua,ø⟩ (fun hc=>G46 O O O) O (JLh (BL ((decide (a.G4=b.G4))&&(decide (b.Tier < a.Tier)))) (Qr O O O O) O (JLm (BL ((decide (a.G4=b.G4))&&(decide (b.Tier < a.Tier)))) O ?_)))))))))))))
 refine JLo (.dptr [U8 a.Half]) [] O .sct ø (fun hc=>Gc Rt O O O) O (JLo (U8 a.Half) [18] O .sct ⟨Ua,ø⟩ (fun hc=>Gf Jc O O O) O (JLo (.dptr [U8 b.Half]) [] O .sct ø (fun hc=>Gc Rt O O O) O (JLo (U8 b.Half) [20] O .sct ⟨Ua,ø⟩ (fun hc=>Gf Jc O O O) O ?_)))
 obtain⟨c,f,h⟩:=Gh h
 refine JLo (BL c) [19,21] O .sct ⟨Ua,Ua,ø⟩ (fun hc=>H3 (args:=[U8 a.Half,U8 b.Half]) O (H73 a.Half b.Half c (Hg hc f)) Ja3 ⟨O,O,O,O,ø⟩) O (JLh (BL (((decide (a.G4=b.G4))&&(decide (b.Tier < a.Tier)))&&c)) (Qr O O O O) O (JLm (BL (((decide (a.G4=b.G4))&&(decide (b.Tier < a.Tier)))&&c)) O (G6 (e (H2 (fin1 BL h))))))

def G09 (m:Gt Int Unit) (k:Int):Option (Bool×(Gt Int Unit)):=
 bif (Gt.has m k) then
 (some (false,m))
 else
 (some (true,(Gt.put m k ())))
theorem Ge2 (m:Gt Int Unit) (k:Int) (r:Bool×(Gt Int Unit)) (h:G09 m k=some r):Q2 En 109 [.mp 1155,I64 k] [(1155,MP 197 Ki (fun _:Unit=>.agg []) m)] (fun av L'=>av=BL r.1∧L'=[(1155,MP 197 Ki (fun _:Unit=>.agg []) r.2)]):=by
 unfold G09 at h
 refine G0a [1155] [.tmp 4] Tryz.func109 O O (H91 O) (Jr fun b=>(JLm (BL false) O (G6 (b (Js fun c=>Jr fun d=>(JLm (.mp 1155) O (JLm (I64 k) O (JLh (.tup [.agg [],BL (Gt.has m k)]) (Hf7 (av:=(fun _:Unit=>.agg [])) (m:=m) (a:=k) () (.agg #[]) O O O O R79 J93 R7a O) O (JLm (.tup [.agg [],BL (Gt.has m k)]) O (JLh (.agg []) (Gv O O O) O (JLh (BL (Gt.has m k)) (Gv O O O) O (JLh (.ptr 1186 0) (Hc 1186 0 Q49 O O) O (Hb (u:=.junk) (Rf2 (u:=.agg []) Q89 O O O O O O) (JLm (BL (Gt.has m k)) O (G6 (d ?_))))))))))))))))
 refine Gj [(0,.mp 1155),(1,I64 k),(6,BL (Gt.has m k))] [(1155,MP 197 Ki (fun _:Unit=>.agg []) m)] 1186 rfl rfl rfl ⟨fmQ O,ø⟩ rfl (by exact⟨.conv (.same rfl),.conv (.same rfl),.conv (.same rfl),ø⟩) (Jr fun e=>(JLm (BL (Gt.has m k)) O (G6 (e (JCc O h (fun h hb=>?_) (fun h hb=>?_))))))
 ·
  refine Jr fun f=>(JLm (BL false) O (G6 (f (H2 ?_))))
  obtain rfl:=Ky h
  exact⟨[BL false],[(1155,MP 197 Ki (fun _:Unit=>.agg []) m)],⟨⟨_,O,.map⟩,ø⟩,O,⟨⟨_,O,.conv (.same O)⟩,ø⟩,O,O⟩
 ·
  refine Gp (c (Jr fun g=>(JLm (.mp 1155) O (JLm (I64 k) O (JLh (.agg []) (Ja (cs:=[]) [] [] [] Jfc Q88 ø O O) O (Hb (u:=.junk) (G6b (m:=m) (a:=k) (v:=()) O O O O O O R79 J93) (G6 (g (Jr fun i=>(JLm (BL true) O (G6 (i (H2 ?_)))))))))))))
  obtain rfl:=Ky h
  exact⟨[BL true],[(1155,MP 197 Ki (fun _:Unit=>.agg []) (Gt.put m k ()))],⟨⟨_,O,.map⟩,ø⟩,O,⟨⟨_,O,.conv (.same O)⟩,ø⟩,O,O⟩

def Zk (self_:Int→(Gt Int Unit)→(List Int)→(List (List G1))→Gb→Option ((Gt Int Unit)×(List Int))) (F:Nat) (id_:Int) (p1:Gt Int Unit) (p:List Int) (q:List (List G1)) (i:Gb):Option ((Gt Int Unit)×(List Int)):=
 bnd (G09 p1 id_) fun w=>
 bif (!w.1) then
 (some (w.2,p))
 else
 (need (decide ((p.length+[id_].length)*8≤140737488355328∧p.length+[id_].length≤maxLen)) <|
  each (fun y7 i7 (d:(Gt Int Unit)×(List Int)) a1=>
   jp (fun j=>
    bnd (G5e y7 id_) fun f=>
    bif (!f.2) then
    (j (d.1,d.2))
    else
    (jp (fun k=>
      Q4 i.Columns f.1.G4 fun a2=>
      bif (!a2.Deck) then
      (bnd (G07 i f.1.G4) fun a3=>
       k a3)
      else
      (k (-1))) fun(g:Int)=>
     each (fun s a8 (b:(Gt Int Unit)×(List Int)) x=>
      jp (fun l=>
       bnd (Gdd s.Slot f.1) fun a4=>
       bif a4 then
       (bnd (self_ s.Box b.1 b.2 q i) fun t=>
        l (t.1,t.2))
       else
       (l (b.1,b.2))) fun(u:(Gt Int Unit)×(List Int))=>
      x (u.1,u.2))
     (fun(b:(Gt Int Unit)×(List Int))=>
      each (fun a5 a9 (c:(Gt Int Unit)×(List Int)) y=>
       each (fun e a7 (a:(Gt Int Unit)×(List Int)) r=>
        jp (fun h=>
         bnd (bif decide (0≤g) then Q4 i.Columns e.Slot.G4 some else some default) fun m=>
         bnd (bif ((decide (0≤g))&&m.Deck) then G07 i e.Slot.G4 else some default) fun z=>
         bif (((decide (0≤g))&&m.Deck)&&(decide (z=g))) then
         (bnd (self_ e.Box a.1 a.2 q i) fun n=>
          h (n.1,n.2))
         else
         (h (a.1,a.2))) fun(o:(Gt Int Unit)×(List Int))=>
        r (o.1,o.2))
       (fun(a:(Gt Int Unit)×(List Int))=>
        y (a.1,a.2)) a5 0 (c.1,c.2))
      (fun(c:(Gt Int Unit)×(List Int))=>
       j (c.1,c.2)) q 0 (b.1,b.2)) y7 0 (d.1,d.2))) fun(v:(Gt Int Unit)×(List Int))=>
   a1 (v.1,v.2))
  (fun(d:(Gt Int Unit)×(List Int))=>
   some (d.1,d.2)) q 0 (w.2,(p++[id_])))
def Rg:Nat→Int→(Gt Int Unit)→(List Int)→(List (List G1))→Gb→Option ((Gt Int Unit)×(List Int))
 | 0,_,_,_,_,_=>none
 | F+1,id_,a,b,c,d=>Zk (Rg F) F id_ a b c d
abbrev Ez (a:List (List G1)) (b:Gb):List AV:=[.ptr 1149 0,.ptr 1150 0,.dptr [LS 1 (E4) a],Ef b,.ptr 1151 0]
theorem J24 (self_:Int→(Gt Int Unit)→(List Int)→(List (List G1))→Gb→Option ((Gt Int Unit)×(List Int))) (self_w:∀ (id_:Int) (p1:Gt Int Unit) (m:List Int) (a:List (List G1)) (c:Gb) (r:(Gt Int Unit)×(List Int)),self_ id_ p1 m a c=some r→Q2 En 108 [I64 id_,.ptr 1149 0,.ptr 1150 0,.dptr [LS 1 (E4) a],Ef c,.ptr 1151 0] [(1149,.box 197 [.mp 1155]),(1155,MP 197 Ki (fun _:Unit=>.agg []) p1),(1150,.box 39 [.vec 1156 m.length 1 m.length]),(1156,.vec 3 1 m.length (m.map I64)),(1151,.box 198 [.fn 108 [.ptr 1149 0,.ptr 1150 0,.dptr [LS 1 (E4) a],Ef c,.ptr 1151 0]])] (fun av L'=>av=.tup []∧L'=[(1149,.box 197 [.mp 1155]),(1155,MP 197 Ki (fun _:Unit=>.agg []) r.1),(1150,.box 39 [.vec 1156 r.2.length 1 r.2.length]),(1156,.vec 3 1 r.2.length (r.2.map I64)),(1151,.box 198 [.fn 108 [.ptr 1149 0,.ptr 1150 0,.dptr [LS 1 (E4) a],Ef c,.ptr 1151 0]])])) (F:Nat) (id_:Int) (p1:Gt Int Unit) (m:List Int) (a:List (List G1)) (c:Gb) (r:(Gt Int Unit)×(List Int)) (h:Zk self_ F id_ p1 m a c=some r):Q2 En 108 [I64 id_,.ptr 1149 0,.ptr 1150 0,.dptr [LS 1 (E4) a],Ef c,.ptr 1151 0] [(1149,.box 197 [.mp 1155]),(1155,MP 197 Ki (fun _:Unit=>.agg []) p1),(1150,.box 39 [.vec 1156 m.length 1 m.length]),(1156,.vec 3 1 m.length (m.map I64)),(1151,.box 198 [.fn 108 [.ptr 1149 0,.ptr 1150 0,.dptr [LS 1 (E4) a],Ef c,.ptr 1151 0]])] (fun av L'=>av=.tup []∧L'=[(1149,.box 197 [.mp 1155]),(1155,MP 197 Ki (fun _:Unit=>.agg []) r.1),(1150,.box 39 [.vec 1156 r.2.length 1 r.2.length]),(1156,.vec 3 1 r.2.length (r.2.map I64)),(1151,.box 198 [.fn 108 [.ptr 1149 0,.ptr 1150 0,.dptr [LS 1 (E4) a],Ef c,.ptr 1151 0]])]):=by
 unfold Zk at h
 refine G0a [1149,1155,1150,1156,1151] [] Tryz.func108 O O (H91 O) (Js fun i0=>Jr fun i1=>(JLh (.mp 1155) (Jm Jfb O O O O) O (JLm (I64 id_) O ?_)))
 obtain⟨r3,i2,h⟩:=Gh h
 refine JLh (BL r3.1) (H37 (args:=[.mp 1155,I64 id_]) (L0:=[(1155,MP 197 Ki (fun _:Unit=>.agg []) p1)]) (Lr:=[(1155,MP 197 Ki (fun _:Unit=>.agg []) r3.2)]) O (Ge2 p1 id_ r3 i2) Q9a ⟨.inl O,O,.inl O,O,ø⟩ ⟨O,ø⟩ O O O) O (JLh (BL (!r3.1)) (G1f (b:=r3.1) O O) O (G6 (i1 (JCc O h (fun h hb=>?_) (fun h hb=>?_)))))
 ·
  refine H2 ?_
  obtain rfl:=Ky h
  exact⟨[],[(1149,.box 197 [.mp 1155]),(1155,MP 197 Ki (fun _:Unit=>.agg []) r3.2),(1150,.box 39 [.vec 1156 m.length 1 m.length]),(1156,.vec 3 1 m.length (m.map I64)),(1151,.box 198 [.fn 108 (Ez a c)])],⟨⟨_,O,.boxL O ⟨.same O,ø⟩⟩,⟨_,O,.map⟩,⟨_,O,.boxL O ⟨.same O,ø⟩⟩,⟨_,O,.vec⟩,⟨_,O,.boxL O ⟨.same O,ø⟩⟩,ø⟩,O,ø,O,O⟩
 ·
  refine Gp (i0 (Jr fun i3=>(JLh (.vec 1156 m.length 1 m.length) (Jm Qt O O O O) O (JLm (I64 id_) O (JLh (E5 [id_]) (H7 (xs:=[I64 id_]) O ⟨O,O,ø⟩ H1 Rb O O O O) O ?_)))))
  obtain⟨i4,h⟩:=J9 h
  refine JLh (.vec 1156 ((m++[id_]).length) 1 ((m++[id_]).length)) (G8e (f:=I64) (xs:=m) (ys:=[id_]) (ver:=m.length) (ver1:=(m++[id_]).length) rfl rfl rfl rfl H1 G64 i4 (fun _=>rfl) (.inl rfl) (by simp)) O (Hb (u:=.junk) (H0 (u:=.vec 1156 ((m++[id_]).length) 1 ((m++[id_]).length)) (ds:=[.vec 1156 ((m++[id_]).length) 1 ((m++[id_]).length)]) Qf0 O O O O O O O O) (G6 (i3 (Jr fun i5=>(JLh (LS 1 (E4) a) (Gf Q1 O O O) O (JLl J8 O O O fun d7=>(JLm (I64 0) O (G6 (i5 (Gk ?_))))))))))
  obtain⟨b7,i6,i8,d8,h⟩:=J5 h
  refine Hk (fun s (l:(Gt Int Unit)×(List Int))=>each b7 i6 (List.drop s a) s l=some r) (fun s l=>[(0,I64 id_),(3,.dptr [LS 1 (E4) a]),(4,Ef c),(5,.ptr 1151 0),(26,LS 1 (E4) a),(27,Em a.length),(28,Em s)]) (fun s l=>[(1155,MP 197 Ki (fun _:Unit=>.agg []) l.1),(1156,.vec 3 1 l.2.length (l.2.map I64)),(1149,.box 197 [.mp 1155]),(1150,.box 39 [.vec 1156 l.2.length 1 l.2.length]),(1151,.box 198 [.fn 108 (Ez a c)])]) (fun s=>a.length - s) 0 (r3.2,(m++[id_])) h ⟨(.sm O O),⟨fmQ O,⟨_,rfl,.vec⟩,fbQ O ⟨.same rfl,ø⟩,fbQ O ⟨.same rfl,ø⟩,fbQ O ⟨.same rfl,ø⟩,ø⟩,rfl⟩ ?_
  clear h
  intro s l d4 K7 e7
  refine Jr fun i9=>(JLh (BL (decide ((s:Int) < (a.length:Int)))) (Jf O O O) O (G6 (i9 (Js fun j0=>Gn O (fun hb=>?_) (fun hb=>?_)))))
  ·
   have d5:=Jn hb
   obtain⟨w,k3,j1,j2,h⟩:=Hs d4 d5
   replace h:=Rx i8 h
   refine Gp (j0 ?_)
   obtain⟨d9,b6,h⟩:=Rc h
   refine Qf (fun x:(Gt Int Unit)×(List Int)=>d9 x=some r) (fun x=>[(0,I64 id_),(3,.dptr [LS 1 (E4) a]),(4,Ef c),(5,.ptr 1151 0),(26,LS 1 (E4) a),(27,Em a.length),(28,Em s)]) (fun x=>[(1155,MP 197 Ki (fun _:Unit=>.agg []) x.1),(1156,.vec 3 1 x.2.length (x.2.map I64)),(1149,.box 197 [.mp 1155]),(1150,.box 39 [.vec 1156 x.2.length 1 x.2.length]),(1151,.box 198 [.fn 108 (Ez a c)])]) (fun Kj10 ej10=>?_) ?_
   ·
    refine Gk (Jr fun e0=>(JLh (.dptr [E4 w]) (H4 (f:=(E4)) (xs:=a) (y:=w) O O O J8 j1 O) O (JLh (E4 w) (Gf Yk O O O) O (JLm (E4 w) O (G6 (e0 (Jr fun e1=>(JLm (E4 w) O (JLm (I64 id_) O ?_)))))))))
    obtain⟨g,e2,h⟩:=Gh h
    refine JLh (.tup [.agg (Slot.cs g.1),BL g.2]) (H3 O (H44 w id_ g e2) Hd7 ⟨O,O,O,O,ø⟩) O (JLm (.tup [.agg (Slot.cs g.1),BL g.2]) O (JLh (.agg (Slot.cs g.1)) (Gv O O O) O (JLh (BL g.2) (Gv O O O) O (JLh (.ptr 1183 0) (Hc 1183 3 G0e O O) O (Hb (u:=.junk) (H0 (u:=.agg (Slot.cs g.1)) (ds:=[I64 g.1.G4,I64 g.1.Tier,U8 g.1.Half]) G3a O O O O O O O O) (JLm (BL g.2) O (G6 (e1 ?_))))))))
    refine fzQ [(0,I64 id_),(3,.dptr [LS 1 (E4) a]),(4,Ef c),(5,.ptr 1151 0),(8,E4 w),(9,Ej g.1),(10,BL g.2),(26,LS 1 (E4) a),(27,Em a.length),(28,Em s)] [(1155,MP 197 Ki (fun _:Unit=>.agg []) l.1),(1156,.vec 3 1 l.2.length (l.2.map I64)),(1149,.box 197 [.mp 1155]),(1150,.box 39 [.vec 1156 l.2.length 1 l.2.length]),(1151,.box 198 [.fn 108 (Ez a c)])] 1183 rfl rfl rfl ⟨fmQ O,⟨_,rfl,.vec⟩,⟨_,rfl,.boxEq rfl rfl⟩,⟨_,rfl,.boxEq rfl rfl⟩,⟨_,rfl,.boxEq rfl rfl⟩,ø⟩ rfl (Js fun e3=>?_)
    refine Jr fun e4=>(JLm (BL g.2) O (JLh (BL (!g.2)) (G1f (b:=g.2) O O) O (G6 (e4 (JCc O h (fun h hb=>?_) (fun h hb=>?_))))))
    ·
     refine Hr (ej10 _ _ (l.1,l.2) h ⟨(.sm O O),⟨fmQ O,⟨_,rfl,.vec⟩,fbQ O ⟨.same rfl,ø⟩,fbQ O ⟨.same rfl,ø⟩,fbQ O ⟨.same rfl,ø⟩,ø⟩,rfl⟩)
    ·
     refine Gp (e3 (Jr fun e5=>(JLm (I64 (-1)) O (G6 (e5 ?_)))))
     obtain⟨e6,b8,h⟩:=Rc h
     refine Qf (fun j:Int=>e6 j=some r) (fun j=>[(0,I64 id_),(3,.dptr [LS 1 (E4) a]),(4,Ef c),(5,.ptr 1151 0),(8,E4 w),(9,Ej g.1),(11,I64 j),(26,LS 1 (E4) a),(27,Em a.length),(28,Em s)]) (fun j=>[(1155,MP 197 Ki (fun _:Unit=>.agg []) l.1),(1156,.vec 3 1 l.2.length (l.2.map I64)),(1149,.box 197 [.mp 1155]),(1150,.box 39 [.vec 1156 l.2.length 1 l.2.length]),(1151,.box 198 [.fn 108 (Ez a c)])]) (fun Kj17 ej17=>?_) ?_
     ·
      refine Jr fun e8=>(JLh (Ef c) (Gc Hm O O O) O (JLh (E7 c.Columns) (Gf J3 O O O) O (JLh (Ej g.1) (Gc Qd O O O) O (JLh (I64 g.1.G4) (Gf G9 O O O) O ?_))))
      obtain⟨k4,a3,e9,f0,h⟩:=Qx h
      refine JLh (Ei a3) (H4 (f:=G4.av) (xs:=c.Columns) (y:=a3) O O O Ho f0 e9) O (JLh (.dptr ((G4.cs a3).drop 2)) (Gc G47 O O O) O (JLh (BL a3.Deck) (Gf Y5 O O O) O (JLh (BL (!a3.Deck)) (G1f (b:=a3.Deck) O O) O (G6 (e8 (JCc O h (fun h hb=>?_) (fun h hb=>?_)))))))
      ·
       refine G2 (JLh (.agg (Gb.cs c)) (Gg Hn O O O) O (JLh (Ej g.1) (Gc Qd O O O) O (JLh (I64 g.1.G4) (Gf G9 O O O) O ?_)))
       obtain⟨a7,f1,h⟩:=Gh h
       refine JLh (I64 a7) (H3 O (H4f c g.1.G4 a7 f1) J55 ⟨O,O,O,O,ø⟩) O (JLm (I64 a7) O (G6 (ej17 _ _ a7 h ⟨(.sm O O),⟨fmQ O,⟨_,rfl,.vec⟩,fbQ O ⟨.same rfl,ø⟩,fbQ O ⟨.same rfl,ø⟩,fbQ O ⟨.same rfl,ø⟩,ø⟩,rfl⟩)))
      ·
       refine Gp (ej17 _ _ (-1) h ⟨(.sm O O),⟨fmQ O,⟨_,rfl,.vec⟩,fbQ O ⟨.same rfl,ø⟩,fbQ O ⟨.same rfl,ø⟩,fbQ O ⟨.same rfl,ø⟩,ø⟩,rfl⟩)
     ·intro j h
      replace h:=app1 b8 h
      refine Js fun f2=>Jr fun f3=>(JLm (E4 w) O (JLl Hd O O O fun f4=>(JLm (I64 0) O (G6 (f3 (Gk ?_))))))
      obtain⟨j3,f5,f6,b9,h⟩:=J5 h
      refine Hk (fun t (i:(Gt Int Unit)×(List Int))=>each j3 f5 (List.drop t w) t i=some r) (fun t i=>[(0,I64 id_),(3,.dptr [LS 1 (E4) a]),(4,Ef c),(5,.ptr 1151 0),(9,Ej g.1),(11,I64 j),(26,LS 1 (E4) a),(27,Em a.length),(28,Em s),(52,E4 w),(53,Em w.length),(54,Em t)]) (fun t i=>[(1155,MP 197 Ki (fun _:Unit=>.agg []) i.1),(1156,.vec 3 1 i.2.length (i.2.map I64)),(1149,.box 197 [.mp 1155]),(1150,.box 39 [.vec 1156 i.2.length 1 i.2.length]),(1151,.box 198 [.fn 108 (Ez a c)])]) (fun t=>w.length - t) 0 (l.1,l.2) h ⟨(.sm O O),⟨fmQ O,⟨_,rfl,.vec⟩,fbQ O ⟨.same rfl,ø⟩,fbQ O ⟨.same rfl,ø⟩,fbQ O ⟨.same rfl,ø⟩,ø⟩,rfl⟩ ?_
      clear h
      intro t i b0 k5 j4
      refine Jr fun f7=>(JLh (BL (decide ((t:Int) < (w.length:Int)))) (Jf O O O) O (G6 (f7 (Js fun f8=>Gn O (fun hb=>?_) (fun hb=>?_)))))
      ·
       have b1:=Jn hb
       obtain⟨n,k0,f9,g0,h⟩:=Hs b0 b1
       replace h:=Rx f6 h
       refine Gp (f8 ?_)
       obtain⟨g1,c0,h⟩:=Rc h
       refine Qf (fun z:(Gt Int Unit)×(List Int)=>g1 z=some r) (fun z=>[(0,I64 id_),(3,.dptr [LS 1 (E4) a]),(4,Ef c),(5,.ptr 1151 0),(9,Ej g.1),(11,I64 j),(26,LS 1 (E4) a),(27,Em a.length),(28,Em s),(52,E4 w),(53,Em w.length),(54,Em t)]) (fun z=>[(1155,MP 197 Ki (fun _:Unit=>.agg []) z.1),(1156,.vec 3 1 z.2.length (z.2.map I64)),(1149,.box 197 [.mp 1155]),(1150,.box 39 [.vec 1156 z.2.length 1 z.2.length]),(1151,.box 198 [.fn 108 (Ez a c)])]) (fun Kj59 ej59=>?_) ?_
       ·
        refine Gk (Jr fun g2=>(JLh (Eg n) (H4 (f:=G1.av) (xs:=w) (y:=n) O O O Hd f9 O) O (JLh (.agg (G1.cs n)) (Gg Qw O O O) O (JLh (.ptr 1184 0) (Hc 1184 4 Qk O O) O (Hb (u:=.junk) (H0 (u:=.agg (G1.cs n)) (ds:=[I64 n.Box,I64 n.Slot.G4,I64 n.Slot.Tier,U8 n.Slot.Half]) Z0 O O O O O O O O) (G6 (g2 ?_)))))))
        refine fzQ [(0,I64 id_),(3,.dptr [LS 1 (E4) a]),(4,Ef c),(5,.ptr 1151 0),(9,Ej g.1),(11,I64 j),(13,Eg n),(26,LS 1 (E4) a),(27,Em a.length),(28,Em s),(52,E4 w),(53,Em w.length),(54,Em t)] [(1155,MP 197 Ki (fun _:Unit=>.agg []) i.1),(1156,.vec 3 1 i.2.length (i.2.map I64)),(1149,.box 197 [.mp 1155]),(1150,.box 39 [.vec 1156 i.2.length 1 i.2.length]),(1151,.box 198 [.fn 108 (Ez a c)])] 1184 rfl rfl rfl ⟨fmQ O,⟨_,rfl,.vec⟩,⟨_,rfl,.boxEq rfl rfl⟩,⟨_,rfl,.boxEq rfl rfl⟩,⟨_,rfl,.boxEq rfl rfl⟩,ø⟩ rfl ?_
        refine Jr fun g3=>(JLh (.dptr ((G1.cs n).drop 1)) (Gc Qc O O O) O (JLh (.agg ((G1.cs n).drop 1)) (Gg Qa O O O) O (JLh (.agg (Slot.cs g.1)) (Gg Qa O O O) O ?_)))
        obtain⟨d6,g4,h⟩:=Gh h
        refine JLh (BL d6) (H3 O (Q0c n.Slot g.1 d6 g4) Q99 ⟨O,O,O,O,ø⟩) O (G6 (g3 (JCc O h (fun h hb=>?_) (fun h hb=>?_))))
        ·
         refine G2 (JLh (.fn 108 (Ez a c)) (Jm H38 O O O O) O (JLh (Eg n) (Gc Jz O O O) O (JLh (I64 n.Box) (Gf G9 O O O) O ?_)))
         obtain⟨a2,g5,h⟩:=Gh h
         refine JLh (.tup []) (Gb7 (args:=[I64 n.Box]) (caps:=(Ez a c)) (L0:=[(1149,.box 197 [.mp 1155]),(1155,MP 197 Ki (fun _:Unit=>.agg []) i.1),(1150,.box 39 [.vec 1156 i.2.length 1 i.2.length]),(1156,.vec 3 1 i.2.length (i.2.map I64)),(1151,.box 198 [.fn 108 (Ez a c)])]) (Lr:=[(1149,.box 197 [.mp 1155]),(1155,MP 197 Ki (fun _:Unit=>.agg []) a2.1),(1150,.box 39 [.vec 1156 a2.2.length 1 a2.2.length]),(1156,.vec 3 1 a2.2.length (a2.2.map I64)),(1151,.box 198 [.fn 108 (Ez a c)])]) O O (self_w n.Box i.1 i.2 a c a2 g5) H82 ⟨.inl O,O,ø⟩ O ⟨O,O,O,O,O,ø⟩ O O O) O (G6 ?_)
         exact ej59 _ _ (a2.1,a2.2) h ⟨(.sm O O),⟨fmQ O,⟨_,rfl,.vec⟩,fbQ O ⟨.same rfl,ø⟩,fbQ O ⟨.same rfl,ø⟩,fbQ O ⟨.same rfl,ø⟩,ø⟩,rfl⟩
        ·
         refine Gp (ej59 _ _ (i.1,i.2) h ⟨(.sm O O),⟨fmQ O,⟨_,rfl,.vec⟩,fbQ O ⟨.same rfl,ø⟩,fbQ O ⟨.same rfl,ø⟩,fbQ O ⟨.same rfl,ø⟩,ø⟩,rfl⟩)
       ·intro z h
        replace h:=app1 c0 h
        refine G2 (JLh (I64 ((t+1:Nat):Int)) (Hz (He b1 f4) O O O) O (JLm (I64 ((t+1:Nat):Int)) O (G6 (j4 _ _ (t+1) (z.1,z.2) (app1 g0 h) (by omega) ⟨(.sm O O),⟨fmQ O,⟨_,rfl,.vec⟩,fbQ O ⟨.same rfl,ø⟩,fbQ O ⟨.same rfl,ø⟩,fbQ O ⟨.same rfl,ø⟩,ø⟩,rfl⟩))))
      ·
       have h:=app1 b9 (Ht b0 (H9 hb))
       refine Hr (f2 (Jr fun g6=>(JLh (LS 1 (E4) a) (Gf Q1 O O O) O (JLl J8 O O O fun g7=>(JLm (I64 0) O (G6 (g6 (Gk ?_))))))))
       obtain⟨j5,g8,g9,c1,h⟩:=J5 h
       refine Hk (fun o (v:(Gt Int Unit)×(List Int))=>each j5 g8 (List.drop o a) o v=some r) (fun o v=>[(0,I64 id_),(3,.dptr [LS 1 (E4) a]),(4,Ef c),(5,.ptr 1151 0),(11,I64 j),(26,LS 1 (E4) a),(27,Em a.length),(28,Em s),(67,LS 1 (E4) a),(68,Em a.length),(69,Em o)]) (fun o v=>[(1155,MP 197 Ki (fun _:Unit=>.agg []) v.1),(1156,.vec 3 1 v.2.length (v.2.map I64)),(1149,.box 197 [.mp 1155]),(1150,.box 39 [.vec 1156 v.2.length 1 v.2.length]),(1151,.box 198 [.fn 108 (Ez a c)])]) (fun o=>a.length - o) 0 (i.1,i.2) h ⟨(.sm O O),⟨fmQ O,⟨_,rfl,.vec⟩,fbQ O ⟨.same rfl,ø⟩,fbQ O ⟨.same rfl,ø⟩,fbQ O ⟨.same rfl,ø⟩,ø⟩,rfl⟩ ?_
       clear h
       intro o v b2 k6 j6
       refine Jr fun h0=>(JLh (BL (decide ((o:Int) < (a.length:Int)))) (Jf O O O) O (G6 (h0 (Js fun h1=>Gn O (fun hb=>?_) (fun hb=>?_)))))
       ·
        have b3:=Jn hb
        obtain⟨p,k1,h2,h3,h⟩:=Hs b2 b3
        replace h:=Rx g9 h
        refine Gp (h1 (Js fun h4=>Gk (Jr fun h5=>(JLh (.dptr [E4 p]) (H4 (f:=(E4)) (xs:=a) (y:=p) O O O J8 h2 O) O (JLh (E4 p) (Gf Yk O O O) O (JLm (E4 p) O (G6 (h5 (Jr fun h6=>(JLm (E4 p) O (JLl Hd O O O fun h7=>(JLm (I64 0) O (G6 (h6 (Gk ?_)))))))))))))))
        obtain⟨h8,c2,c3,b4,h⟩:=J5 h
        refine Hk (fun k (d:(Gt Int Unit)×(List Int))=>each h8 c2 (List.drop k p) k d=some r) (fun k d=>[(0,I64 id_),(3,.dptr [LS 1 (E4) a]),(4,Ef c),(5,.ptr 1151 0),(11,I64 j),(26,LS 1 (E4) a),(27,Em a.length),(28,Em s),(67,LS 1 (E4) a),(68,Em a.length),(69,Em o),(73,E4 p),(74,Em p.length),(75,Em k)]) (fun k d=>[(1155,MP 197 Ki (fun _:Unit=>.agg []) d.1),(1156,.vec 3 1 d.2.length (d.2.map I64)),(1149,.box 197 [.mp 1155]),(1150,.box 39 [.vec 1156 d.2.length 1 d.2.length]),(1151,.box 198 [.fn 108 (Ez a c)])]) (fun k=>p.length - k) 0 (v.1,v.2) h ⟨(.sm O O),⟨fmQ O,⟨_,rfl,.vec⟩,fbQ O ⟨.same rfl,ø⟩,fbQ O ⟨.same rfl,ø⟩,fbQ O ⟨.same rfl,ø⟩,ø⟩,rfl⟩ ?_
        clear h
        intro k d a8 k2 h9
        refine Jr fun c4=>(JLh (BL (decide ((k:Int) < (p.length:Int)))) (Jf O O O) O (G6 (c4 (Js fun c5=>Gn O (fun hb=>?_) (fun hb=>?_)))))
        ·
         have a9:=Jn hb
         obtain⟨e,j7,c6,c7,h⟩:=Hs a8 a9
         replace h:=Rx c3 h
         refine Gp (c5 ?_)
         obtain⟨c8,b5,h⟩:=Rc h
         refine Qf (fun q:(Gt Int Unit)×(List Int)=>c8 q=some r) (fun q=>[(0,I64 id_),(3,.dptr [LS 1 (E4) a]),(4,Ef c),(5,.ptr 1151 0),(11,I64 j),(26,LS 1 (E4) a),(27,Em a.length),(28,Em s),(67,LS 1 (E4) a),(68,Em a.length),(69,Em o),(73,E4 p),(74,Em p.length),(75,Em k)]) (fun q=>[(1155,MP 197 Ki (fun _:Unit=>.agg []) q.1),(1156,.vec 3 1 q.2.length (q.2.map I64)),(1149,.box 197 [.mp 1155]),(1150,.box 39 [.vec 1156 q.2.length 1 q.2.length]),(1151,.box 198 [.fn 108 (Ez a c)])]) (fun Kj110 ej110=>?_) ?_
         ·
          refine Gk (Jr fun c9=>(JLh (Eg e) (H4 (f:=G1.av) (xs:=p) (y:=e) O O O Hd c6 O) O (JLh (.agg (G1.cs e)) (Gg Qw O O O) O (JLh (.ptr 1185 0) (Hc 1185 4 Qk O O) O (Hb (u:=.junk) (H0 (u:=.agg (G1.cs e)) (ds:=[I64 e.Box,I64 e.Slot.G4,I64 e.Slot.Tier,U8 e.Slot.Half]) Z0 O O O O O O O O) (G6 (c9 ?_)))))))
          refine fzQ [(0,I64 id_),(3,.dptr [LS 1 (E4) a]),(4,Ef c),(5,.ptr 1151 0),(11,I64 j),(17,Eg e),(26,LS 1 (E4) a),(27,Em a.length),(28,Em s),(67,LS 1 (E4) a),(68,Em a.length),(69,Em o),(73,E4 p),(74,Em p.length),(75,Em k)] [(1155,MP 197 Ki (fun _:Unit=>.agg []) d.1),(1156,.vec 3 1 d.2.length (d.2.map I64)),(1149,.box 197 [.mp 1155]),(1150,.box 39 [.vec 1156 d.2.length 1 d.2.length]),(1151,.box 198 [.fn 108 (Ez a c)])] 1185 rfl rfl rfl ⟨fmQ O,⟨_,rfl,.vec⟩,⟨_,rfl,.boxEq rfl rfl⟩,⟨_,rfl,.boxEq rfl rfl⟩,⟨_,rfl,.boxEq rfl rfl⟩,ø⟩ rfl ?_
          refine Jr fun d0=>(JLm (I64 j) O (JLh (BL (decide (0≤j))) (Ge4 O O O) O (JLm (BL (decide (0≤j))) O (JLo (Ef c) [] O .sct ø (fun hc=>Gc Hm O O O) O (JLo (E7 c.Columns) [82] O .sct ⟨Ua,ø⟩ (fun hc=>Gf J3 O O O) O (JLo (.dptr ((G1.cs e).drop 1)) [] O .sct ø (fun hc=>Gc Qc O O O) O (JLo (.dptr ((G1.cs e).drop 1)) [84] O .sct ⟨Ua,ø⟩ (fun hc=>Gc Qd O O O) O (JLo (I64 e.Slot.G4) [85] O .sct ⟨Ua,ø⟩ (fun hc=>Gf G9 O O O) O ?_))))))))
          obtain⟨a1,d1,h⟩:=Gh h
          refine JLo (Ei a1) [83,86] O .sct ⟨Ua,Ua,ø⟩ (fun hc=>(match G2d (Hg hc d1) with | ⟨_,hm_,hy_⟩=>H4 (f:=G4.av) (xs:=c.Columns) (y:=a1) O O O Ho hy_ hm_)) O (JLo (.dptr ((G4.cs a1).drop 2)) [87] O .sct ⟨Ua,ø⟩ (fun hc=>Gc G47 O O O) O (JLo (BL a1.Deck) [88] O .sct ⟨Ua,ø⟩ (fun hc=>Gf Y5 O O O) O (JLh (BL ((decide (0≤j))&&a1.Deck)) (Qr O O O O) O (JLm (BL ((decide (0≤j))&&a1.Deck)) O (JLo (.agg (Gb.cs c)) [] O .sct ø (fun hc=>Gg Hn O O O) O (JLo (.dptr ((G1.cs e).drop 1)) [] O .sct ø (fun hc=>Gc Qc O O O) O (JLo (.dptr ((G1.cs e).drop 1)) [93] O .sct ⟨Ua,ø⟩ (fun hc=>Gc Qd O O O) O (JLo (I64 e.Slot.G4) [94] O .sct ⟨Ua,ø⟩ (fun hc=>Gf G9 O O O) O ?_))))))))
          obtain⟨a4,d2,h⟩:=Gh h
          refine JLo (I64 a4) [92,95] O .sct ⟨Ua,Ua,ø⟩ (fun hc=>H3 (args:=[.agg (Gb.cs c),I64 e.Slot.G4]) O (H4f c e.Slot.G4 a4 (Hg hc d2)) J55 ⟨O,O,O,O,ø⟩) O (JLo (I64 j) [] O .sct ø (fun hc=>G5 O O) O (JLo (BL (decide (a4=j))) [96,97] O .sct ⟨Ua,Ua,ø⟩ (fun hc=>Q6 O O O) O (JLh (BL (((decide (0≤j))&&a1.Deck)&&(decide (a4=j)))) (Qr O O O O) O (G6 (d0 (JCc O h (fun h hb=>?_) (fun h hb=>?_)))))))
          ·
           refine G2 (JLh (.fn 108 (Ez a c)) (Jm H38 O O O O) O (JLh (Eg e) (Gc Jz O O O) O (JLh (I64 e.Box) (Gf G9 O O O) O ?_)))
           obtain⟨a0,d3,h⟩:=Gh h
           refine JLh (.tup []) (Gb7 (args:=[I64 e.Box]) (caps:=(Ez a c)) (L0:=[(1149,.box 197 [.mp 1155]),(1155,MP 197 Ki (fun _:Unit=>.agg []) d.1),(1150,.box 39 [.vec 1156 d.2.length 1 d.2.length]),(1156,.vec 3 1 d.2.length (d.2.map I64)),(1151,.box 198 [.fn 108 (Ez a c)])]) (Lr:=[(1149,.box 197 [.mp 1155]),(1155,MP 197 Ki (fun _:Unit=>.agg []) a0.1),(1150,.box 39 [.vec 1156 a0.2.length 1 a0.2.length]),(1156,.vec 3 1 a0.2.length (a0.2.map I64)),(1151,.box 198 [.fn 108 (Ez a c)])]) O O (self_w e.Box d.1 d.2 a c a0 d3) H82 ⟨.inl O,O,ø⟩ O ⟨O,O,O,O,O,ø⟩ O O O) O (G6 ?_)
           exact ej110 _ _ (a0.1,a0.2) h ⟨(.sm O O),⟨fmQ O,⟨_,rfl,.vec⟩,fbQ O ⟨.same rfl,ø⟩,fbQ O ⟨.same rfl,ø⟩,fbQ O ⟨.same rfl,ø⟩,ø⟩,rfl⟩
          ·
           refine Gp (ej110 _ _ (d.1,d.2) h ⟨(.sm O O),⟨fmQ O,⟨_,rfl,.vec⟩,fbQ O ⟨.same rfl,ø⟩,fbQ O ⟨.same rfl,ø⟩,fbQ O ⟨.same rfl,ø⟩,ø⟩,rfl⟩)
         ·intro q h
          replace h:=app1 b5 h
          refine G2 (JLh (I64 ((k+1:Nat):Int)) (Hz (He a9 h7) O O O) O (JLm (I64 ((k+1:Nat):Int)) O (G6 (h9 _ _ (k+1) (q.1,q.2) (app1 c7 h) (by omega) ⟨(.sm O O),⟨fmQ O,⟨_,rfl,.vec⟩,fbQ O ⟨.same rfl,ø⟩,fbQ O ⟨.same rfl,ø⟩,fbQ O ⟨.same rfl,ø⟩,ø⟩,rfl⟩))))
        ·
         have h:=app1 b4 (Ht a8 (H9 hb))
         refine Hr (h4 (G2 (JLh (I64 ((o+1:Nat):Int)) (Hz (He b3 g7) O O O) O (JLm (I64 ((o+1:Nat):Int)) O (G6 (j6 _ _ (o+1) (d.1,d.2) (app1 h3 h) (by omega) ⟨(.sm O O),⟨fmQ O,⟨_,rfl,.vec⟩,fbQ O ⟨.same rfl,ø⟩,fbQ O ⟨.same rfl,ø⟩,fbQ O ⟨.same rfl,ø⟩,ø⟩,rfl⟩))))))
       ·
        have h:=app1 c1 (Ht b2 (H9 hb))
        refine Hr (ej10 _ _ (v.1,v.2) h ⟨(.sm O O),⟨fmQ O,⟨_,rfl,.vec⟩,fbQ O ⟨.same rfl,ø⟩,fbQ O ⟨.same rfl,ø⟩,fbQ O ⟨.same rfl,ø⟩,ø⟩,rfl⟩)
   ·intro x h
    replace h:=app1 b6 h
    refine G2 (JLh (I64 ((s+1:Nat):Int)) (Hz (He d5 d7) O O O) O (JLm (I64 ((s+1:Nat):Int)) O (G6 (e7 _ _ (s+1) (x.1,x.2) (app1 j2 h) (by omega) ⟨(.sm O O),⟨fmQ O,⟨_,rfl,.vec⟩,fbQ O ⟨.same rfl,ø⟩,fbQ O ⟨.same rfl,ø⟩,fbQ O ⟨.same rfl,ø⟩,ø⟩,rfl⟩))))
  ·
   have h:=app1 d8 (Ht d4 (H9 hb))
   refine Hr ?_
   obtain rfl:=Ky h
   exact⟨[],[(1149,.box 197 [.mp 1155]),(1155,MP 197 Ki (fun _:Unit=>.agg []) l.1),(1150,.box 39 [.vec 1156 l.2.length 1 l.2.length]),(1156,.vec 3 1 l.2.length (l.2.map I64)),(1151,.box 198 [.fn 108 (Ez a c)])],⟨⟨_,O,.boxL O ⟨.same O,ø⟩⟩,⟨_,O,.map⟩,⟨_,O,.boxL O ⟨.same O,ø⟩⟩,⟨_,O,.vec⟩,⟨_,O,.boxL O ⟨.same O,ø⟩⟩,ø⟩,O,ø,O,O⟩
theorem J1f:∀ (F:Nat) (id_:Int) (d:Gt Int Unit) (a:List Int) (b:List (List G1)) (c:Gb) (r:(Gt Int Unit)×(List Int)) (h:Rg F id_ d a b c=some r),Q2 En 108 [I64 id_,.ptr 1149 0,.ptr 1150 0,.dptr [LS 1 (E4) b],Ef c,.ptr 1151 0] [(1149,.box 197 [.mp 1155]),(1155,MP 197 Ki (fun _:Unit=>.agg []) d),(1150,.box 39 [.vec 1156 a.length 1 a.length]),(1156,.vec 3 1 a.length (a.map I64)),(1151,.box 198 [.fn 108 [.ptr 1149 0,.ptr 1150 0,.dptr [LS 1 (E4) b],Ef c,.ptr 1151 0]])] (fun av L'=>av=.tup []∧L'=[(1149,.box 197 [.mp 1155]),(1155,MP 197 Ki (fun _:Unit=>.agg []) r.1),(1150,.box 39 [.vec 1156 r.2.length 1 r.2.length]),(1156,.vec 3 1 r.2.length (r.2.map I64)),(1151,.box 198 [.fn 108 [.ptr 1149 0,.ptr 1150 0,.dptr [LS 1 (E4) b],Ef c,.ptr 1151 0]])]):=by
 intro F
 induction F with
 | zero=>intro id_ d a b c r h; cases h
 | succ F ih=>intro id_ d a b c r h; exact J24 (Rg F) ih F id_ d a b c r h

def G26 (F:Nat) (s:Gb) (bf:List G1) (af:List G1):Option (List Int):=
 each (fun l n (d:(Gt Int Unit)×(List Int)) j=>
  each (fun b m (a:(Gt Int Unit)×(List Int)) i=>
   jp (fun c=>
    bnd (G5e bf b.Box) fun e=>
    bnd (G5e af b.Box) fun f=>
    bif ((!(e.2==f.2))||(!decide (e.1=f.1))) then
    (bnd (Rg F b.Box a.1 a.2 [bf,af] s) fun g=>
     c (g.1,g.2))
    else
    (c (a.1,a.2))) fun(h:(Gt Int Unit)×(List Int))=>
   i (h.1,h.2))
  (fun(a:(Gt Int Unit)×(List Int))=>
   j (a.1,a.2)) l 0 (d.1,d.2))
 (fun(d:(Gt Int Unit)×(List Int))=>
  bnd (H86 d.2) fun k=>
  some k) [bf,af] 0 ((Gt.empty:Gt Int Unit),[])
abbrev K0 (bf:List G1) (af:List G1) (s:Gb):List AV:=[.ptr 1149 0,.ptr 1150 0,.dptr [LS 1 (E4) [bf,af]],Ef s,.ptr 1151 0]
theorem J80 (F:Nat) (s:Gb) (bf:List G1) (af:List G1) (r:(List Int)) (h:G26 F s bf af=some r):Pure En 68 [.agg (Gb.cs s),E4 bf,E4 af] (·=E5 r):=by
 unfold G26 at h
 refine Ha [.tmp 6] Tryz.func68 O O (Jr fun c3=>(JLh (.ptr 1147 0) (Q5 (cs:=(Gb.cs s)) 1147 O O O O O) O (JLh (E5 ([]:List Int)) (Qj 1 O O) O (G6 (c3 (Gj [(1,E4 bf),(2,E4 af),(3,Ef s)] [] 1147 rfl rfl rfl ø rfl (by exact⟨.conv (.same rfl),.conv (.same rfl),.ptr,ø⟩) ?_))))))
 refine Jr fun c4=>(JLm (E4 bf) O (JLm (E4 af) O (JLh (LS 1 (E4) [bf,af]) (H7 (xs:=[E4 bf,E4 af]) O ⟨O,O,O,O,ø⟩ J8 Gd5 O O O O) O (JLh (.ptr 1148 0) (Hc 1148 1 J4e O O) O (Hb (u:=.junk) (H0 (u:=LS 1 (E4) [bf,af]) (ds:=[LS 1 (E4) [bf,af]]) H59 O O O O O O O O) (G6 (c4 (fzQ [(1,E4 bf),(2,E4 af),(3,Ef s),(7,.dptr [LS 1 (E4) [bf,af]])] [] 1148 rfl rfl rfl ø rfl ?_))))))))
 refine Jr fun c5=>(JLh (.mp 1155) (G5f 1155 Ki (fun _:Unit=>.agg []) O O) O (JLh (.ptr 1149 0) (Hc 1149 1 Q4b O O) O (Hb (u:=.junk) (H0 (u:=.mp 1155) (ds:=[.mp 1155]) Q8b O O O O O O O O) (G6 (c5 (Jr fun c6=>(JLh (.ptr 1150 0) (Yc 1150 [.sc (.slice none 0 0)] [.slice none 0 0] Qea ⟨.inl O,ø⟩ O O) O (Hf6 1150 0 1156 3 1 O O O (cs':=[.vec 1156 (([]:List Int).length) 1 (([]:List Int).length)]) O (G6 (c6 (Jr fun c7=>(JLh (.ptr 1151 0) (Hc 1151 1 Q4a O O) O (G6 (c7 ?_))))))))))))))
 refine Jr fun c8=>(JLh (.fn 108 (K0 bf af s)) (Z5 (cs:=(K0 bf af s)) O O) O (Hb (u:=.junk) (H0 (u:=.fn 108 (K0 bf af s)) (ds:=[.fn 108 (K0 bf af s)]) Q8a O O O O O O O O) (G6 (c8 (Js fun c9=>Jr fun d0=>(JLh (LS 1 (E4) [bf,af]) (Gf Q1 O O O) O (JLl J8 O O O fun w=>(JLm (I64 0) O (G6 (d0 (Gk ?_)))))))))))
 obtain⟨b9,d1,d2,x,h⟩:=J5 h
 refine Hk (fun j (i:(Gt Int Unit)×(List Int))=>each b9 d1 (List.drop j [bf,af]) j i=some r) (fun j i=>[(1,E4 bf),(2,E4 af),(9,.ptr 1150 0),(10,.ptr 1151 0),(24,LS 1 (E4) [bf,af]),(25,I64 ([bf,af].length:Int)),(26,Em j)]) (fun j i=>[(1155,MP 197 Ki (fun _:Unit=>.agg []) i.1),(1156,.vec 3 1 i.2.length (i.2.map I64)),(1149,.box 197 [.mp 1155]),(1150,.box 39 [.vec 1156 i.2.length 1 i.2.length]),(1151,.box 198 [.fn 108 (K0 bf af s)])]) (fun j=>[bf,af].length - j) 0 ((Gt.empty:Gt Int Unit),[]) h ⟨(.sm O O),⟨fmQ O,⟨_,rfl,.vec⟩,fbQ O ⟨.same rfl,ø⟩,fbQ O ⟨.same rfl,ø⟩,fbQ O ⟨.same rfl,ø⟩,ø⟩,rfl⟩ ?_
 clear h
 intro j i q K9 e9
 refine Jr fun z=>(JLh (BL (decide ((j:Int) < ([bf,af].length:Int)))) (Jf O O O) O (G6 (z (Js fun a0=>Gn O (fun hb=>?_) (fun hb=>?_)))))
 ·
  have t:=Jn hb
  obtain⟨g,e0,d3,d4,h⟩:=Hs q t
  replace h:=Rx d2 h
  refine Gp (a0 (Js fun a1=>Gk (Jr fun a2=>(JLh (.dptr [E4 g]) (H4 (f:=(E4)) (xs:=[bf,af]) (y:=g) O O O J8 d3 O) O (JLh (E4 g) (Gf Yk O O O) O (JLm (E4 g) O (G6 (a2 (Jr fun a3=>(JLm (E4 g) O (JLl Hd O O O fun a4=>(JLm (I64 0) O (G6 (a3 (Gk ?_)))))))))))))))
  obtain⟨d5,a5,a6,o,h⟩:=J5 h
  refine Hk (fun e (a:(Gt Int Unit)×(List Int))=>each d5 a5 (List.drop e g) e a=some r) (fun e a=>[(1,E4 bf),(2,E4 af),(9,.ptr 1150 0),(10,.ptr 1151 0),(24,LS 1 (E4) [bf,af]),(25,I64 ([bf,af].length:Int)),(26,Em j),(30,E4 g),(31,Em g.length),(32,Em e)]) (fun e a=>[(1155,MP 197 Ki (fun _:Unit=>.agg []) a.1),(1156,.vec 3 1 a.2.length (a.2.map I64)),(1149,.box 197 [.mp 1155]),(1150,.box 39 [.vec 1156 a.2.length 1 a.2.length]),(1151,.box 198 [.fn 108 (K0 bf af s)])]) (fun e=>g.length - e) 0 (i.1,i.2) h ⟨(.sm O O),⟨fmQ O,⟨_,rfl,.vec⟩,fbQ O ⟨.same rfl,ø⟩,fbQ O ⟨.same rfl,ø⟩,fbQ O ⟨.same rfl,ø⟩,ø⟩,rfl⟩ ?_
  clear h
  intro e a m e1 d6
  refine Jr fun a7=>(JLh (BL (decide ((e:Int) < (g.length:Int)))) (Jf O O O) O (G6 (a7 (Js fun a8=>Gn O (fun hb=>?_) (fun hb=>?_)))))
  ·
   have n:=Jn hb
   obtain⟨d,d9,a9,b0,h⟩:=Hs m n
   replace h:=Rx a6 h
   refine Gp (a8 ?_)
   obtain⟨b1,p,h⟩:=Rc h
   refine Qf (fun k:(Gt Int Unit)×(List Int)=>b1 k=some r) (fun k=>[(1,E4 bf),(2,E4 af),(9,.ptr 1150 0),(10,.ptr 1151 0),(24,LS 1 (E4) [bf,af]),(25,I64 ([bf,af].length:Int)),(26,Em j),(30,E4 g),(31,Em g.length),(32,Em e)]) (fun k=>[(1155,MP 197 Ki (fun _:Unit=>.agg []) k.1),(1156,.vec 3 1 k.2.length (k.2.map I64)),(1149,.box 197 [.mp 1155]),(1150,.box 39 [.vec 1156 k.2.length 1 k.2.length]),(1151,.box 198 [.fn 108 (K0 bf af s)])]) (fun Kj62 ej62=>?_) ?_
   ·
    refine Gk (Jr fun b2=>(JLh (Eg d) (H4 (f:=G1.av) (xs:=g) (y:=d) O O O Hd a9 O) O (JLh (.agg (G1.cs d)) (Gg Qw O O O) O (JLh (.ptr 1152 0) (Hc 1152 4 Qk O O) O (Hb (u:=.junk) (H0 (u:=.agg (G1.cs d)) (ds:=[I64 d.Box,I64 d.Slot.G4,I64 d.Slot.Tier,U8 d.Slot.Half]) Z0 O O O O O O O O) (G6 (b2 ?_)))))))
    refine fzQ [(1,E4 bf),(2,E4 af),(9,.ptr 1150 0),(10,.ptr 1151 0),(14,Eg d),(24,LS 1 (E4) [bf,af]),(25,I64 ([bf,af].length:Int)),(26,Em j),(30,E4 g),(31,Em g.length),(32,Em e)] [(1155,MP 197 Ki (fun _:Unit=>.agg []) a.1),(1156,.vec 3 1 a.2.length (a.2.map I64)),(1149,.box 197 [.mp 1155]),(1150,.box 39 [.vec 1156 a.2.length 1 a.2.length]),(1151,.box 198 [.fn 108 (K0 bf af s)])] 1152 rfl rfl rfl ⟨fmQ O,⟨_,rfl,.vec⟩,⟨_,rfl,.boxEq rfl rfl⟩,⟨_,rfl,.boxEq rfl rfl⟩,⟨_,rfl,.boxEq rfl rfl⟩,ø⟩ rfl ?_
    refine Jr fun b3=>(JLm (E4 bf) O (JLh (Eg d) (Gc Jz O O O) O (JLh (I64 d.Box) (Gf G9 O O O) O ?_)))
    obtain⟨b,b4,h⟩:=Gh h
    refine JLh (.tup [.agg (Slot.cs b.1),BL b.2]) (H3 O (H44 bf d.Box b b4) Hd7 ⟨O,O,O,O,ø⟩) O (JLm (.tup [.agg (Slot.cs b.1),BL b.2]) O (JLh (.agg (Slot.cs b.1)) (Gv O O O) O (JLh (BL b.2) (Gv O O O) O (JLh (.ptr 1153 0) (Hc 1153 3 G0e O O) O (Hb (u:=.junk) (H0 (u:=.agg (Slot.cs b.1)) (ds:=[I64 b.1.G4,I64 b.1.Tier,U8 b.1.Half]) G3a O O O O O O O O) (JLm (BL b.2) O (G6 (b3 ?_))))))))
    refine fzQ [(1,E4 bf),(2,E4 af),(9,.ptr 1150 0),(10,.ptr 1151 0),(14,Eg d),(15,Ej b.1),(16,BL b.2),(24,LS 1 (E4) [bf,af]),(25,I64 ([bf,af].length:Int)),(26,Em j),(30,E4 g),(31,Em g.length),(32,Em e)] [(1155,MP 197 Ki (fun _:Unit=>.agg []) a.1),(1156,.vec 3 1 a.2.length (a.2.map I64)),(1149,.box 197 [.mp 1155]),(1150,.box 39 [.vec 1156 a.2.length 1 a.2.length]),(1151,.box 198 [.fn 108 (K0 bf af s)])] 1153 rfl rfl rfl ⟨fmQ O,⟨_,rfl,.vec⟩,⟨_,rfl,.boxEq rfl rfl⟩,⟨_,rfl,.boxEq rfl rfl⟩,⟨_,rfl,.boxEq rfl rfl⟩,ø⟩ rfl ?_
    refine Jr fun b5=>(JLm (E4 af) O (JLh (Eg d) (Gc Jz O O O) O (JLh (I64 d.Box) (Gf G9 O O O) O ?_)))
    obtain⟨c,b6,h⟩:=Gh h
    refine JLh (.tup [.agg (Slot.cs c.1),BL c.2]) (H3 O (H44 af d.Box c b6) Hd7 ⟨O,O,O,O,ø⟩) O (JLm (.tup [.agg (Slot.cs c.1),BL c.2]) O (JLh (.agg (Slot.cs c.1)) (Gv O O O) O (JLh (BL c.2) (Gv O O O) O (JLh (.ptr 1154 0) (Hc 1154 3 G0e O O) O (Hb (u:=.junk) (H0 (u:=.agg (Slot.cs c.1)) (ds:=[I64 c.1.G4,I64 c.1.Tier,U8 c.1.Half]) G3a O O O O O O O O) (JLm (BL c.2) O (G6 (b5 ?_))))))))
    refine fzQ [(1,E4 bf),(2,E4 af),(9,.ptr 1150 0),(10,.ptr 1151 0),(14,Eg d),(15,Ej b.1),(16,BL b.2),(17,Ej c.1),(18,BL c.2),(24,LS 1 (E4) [bf,af]),(25,I64 ([bf,af].length:Int)),(26,Em j),(30,E4 g),(31,Em g.length),(32,Em e)] [(1155,MP 197 Ki (fun _:Unit=>.agg []) a.1),(1156,.vec 3 1 a.2.length (a.2.map I64)),(1149,.box 197 [.mp 1155]),(1150,.box 39 [.vec 1156 a.2.length 1 a.2.length]),(1151,.box 198 [.fn 108 (K0 bf af s)])] 1154 rfl rfl rfl ⟨fmQ O,⟨_,rfl,.vec⟩,⟨_,rfl,.boxEq rfl rfl⟩,⟨_,rfl,.boxEq rfl rfl⟩,⟨_,rfl,.boxEq rfl rfl⟩,ø⟩ rfl ?_
    refine Jr fun b7=>(JLm (BL b.2) O (JLm (BL c.2) O (JLh (BL (!(b.2==c.2))) (Rf5 Q1c O O O) O (JLm (BL (!(b.2==c.2))) O (JLo (.agg (Slot.cs b.1)) [] O .scf ø (fun hc=>Gg Qa O O O) O (JLo (.agg (Slot.cs c.1)) [] O .scf ø (fun hc=>Gg Qa O O O) O (JLo (BL (!decide (b.1=c.1))) [54,55] O .scf ⟨Ua,Ua,ø⟩ (fun hc=>R73 (vs:=[.int .i64 b.1.G4,.int .i64 b.1.Tier,.int .u8 b.1.Half]) (us:=[.int .i64 c.1.G4,.int .i64 c.1.Tier,.int .u8 c.1.Half]) 4 O (Y39 b.1 c.1) J58 Q1a O O O) O (JLh (BL ((!(b.2==c.2))||(!decide (b.1=c.1)))) (G27 O O O O) O (G6 (b7 (JCc O h (fun h hb=>?_) (fun h hb=>?_))))))))))))
    ·
     refine G2 (JLh (.fn 108 (K0 bf af s)) (Jm H38 O O O O) O (JLh (Eg d) (Gc Jz O O O) O (JLh (I64 d.Box) (Gf G9 O O O) O ?_)))
     obtain⟨l,b8,h⟩:=Gh h
     refine JLh (.tup []) (Gb7 (args:=[I64 d.Box]) (caps:=(K0 bf af s)) (L0:=[(1149,.box 197 [.mp 1155]),(1155,MP 197 Ki (fun _:Unit=>.agg []) a.1),(1150,.box 39 [.vec 1156 a.2.length 1 a.2.length]),(1156,.vec 3 1 a.2.length (a.2.map I64)),(1151,.box 198 [.fn 108 (K0 bf af s)])]) (Lr:=[(1149,.box 197 [.mp 1155]),(1155,MP 197 Ki (fun _:Unit=>.agg []) l.1),(1150,.box 39 [.vec 1156 l.2.length 1 l.2.length]),(1156,.vec 3 1 l.2.length (l.2.map I64)),(1151,.box 198 [.fn 108 (K0 bf af s)])]) O O (J1f F d.Box a.1 a.2 [bf,af] s l b8) H82 ⟨.inl O,O,ø⟩ O ⟨O,O,O,O,O,ø⟩ O O O) O (G6 ?_)
     exact ej62 _ _ (l.1,l.2) h ⟨(.sm O O),⟨fmQ O,⟨_,rfl,.vec⟩,fbQ O ⟨.same rfl,ø⟩,fbQ O ⟨.same rfl,ø⟩,fbQ O ⟨.same rfl,ø⟩,ø⟩,rfl⟩
    ·
     refine Gp (ej62 _ _ (a.1,a.2) h ⟨(.sm O O),⟨fmQ O,⟨_,rfl,.vec⟩,fbQ O ⟨.same rfl,ø⟩,fbQ O ⟨.same rfl,ø⟩,fbQ O ⟨.same rfl,ø⟩,ø⟩,rfl⟩)
   ·intro k h
    replace h:=app1 p h
    refine G2 (JLh (I64 ((e+1:Nat):Int)) (Hz (He n a4) O O O) O (JLm (I64 ((e+1:Nat):Int)) O (G6 (d6 _ _ (e+1) (k.1,k.2) (app1 b0 h) (by omega) ⟨(.sm O O),⟨fmQ O,⟨_,rfl,.vec⟩,fbQ O ⟨.same rfl,ø⟩,fbQ O ⟨.same rfl,ø⟩,fbQ O ⟨.same rfl,ø⟩,ø⟩,rfl⟩))))
  ·
   have h:=app1 o (Ht m (H9 hb))
   refine Hr (a1 (G2 (JLh (I64 ((j+1:Nat):Int)) (Hz (He t w) O O O) O (JLm (I64 ((j+1:Nat):Int)) O (G6 (e9 _ _ (j+1) (a.1,a.2) (app1 d4 h) (by omega) ⟨(.sm O O),⟨fmQ O,⟨_,rfl,.vec⟩,fbQ O ⟨.same rfl,ø⟩,fbQ O ⟨.same rfl,ø⟩,fbQ O ⟨.same rfl,ø⟩,ø⟩,rfl⟩))))))
 ·
  have h:=app1 x (Ht q (H9 hb))
  refine Hr (c9 (Jr fun c0=>(JLh (.vec 1156 i.2.length 1 i.2.length) (Jm Qt O O O O) O ?_)))
  obtain⟨v,c1,h⟩:=Gh h
  refine JLh (.tup []) (Y2d (F:=112) (xs:=i.2) (r:=v) O Q56 Q05 Q98 O O O c1 O) O (G6 (c0 (Jr fun c2=>(JLh (.vec 1156 i.2.length 1 i.2.length) (Jm Qt O O O O) O (JLm (.vec 1156 i.2.length 1 i.2.length) O (G6 (c2 (H6d [(6,E5 v)] [] 1156 rfl rfl ø rfl (by exact⟨.vec,ø⟩) (H2 (fin1 (fun r:(List Int)=>(E5 r:AV)) h))))))))))

def G4f (F:Nat) (s:Gb) (boxes:List Box) (bf:List G1) (af:List G1):Option ((List Int)×Int):=
 bnd (Q9 s boxes bf) fun a=>
 bnd (bif (!(!a)) then Q9 s boxes af else some default) fun b=>
 bif ((!a)||(!b)) then
 (some ([],2))
 else
 (bnd (G26 F s bf af) fun c=>
  some (c,0))
theorem J82 (F:Nat) (s:Gb) (boxes:List Box) (bf:List G1) (af:List G1) (r:(List Int)×Int) (h:G4f F s boxes bf af=some r):Pure En 27 [.agg (Gb.cs s),E6 boxes,E4 bf,E4 af] (·=.tup [E5 r.1,I64 r.2]):=by
 unfold G4f at h
 refine Ha [.tmp 8,.tmp 9] Tryz.func27 O O (Jr fun e=>(JLh (.ptr 1088 0) (Q5 (cs:=(Gb.cs s)) 1088 O O O O O) O (JLh (E5 ([]:List Int)) (Qj 1 O O) O (JLm (I64 0) O (G6 (e (fzQ [(1,E6 boxes),(2,E4 bf),(3,E4 af),(4,Ef s)] [] 1088 rfl rfl rfl ø rfl (Js fun f=>Jr fun g=>(JLh (.agg (Gb.cs s)) (Gg Hn O O O) O (JLm (E6 boxes) O (JLm (E4 bf) O ?_)))))))))))
 obtain⟨a,i,h⟩:=Gh h
 refine JLh (BL a) (H3 O (G06 s boxes bf a i) G87 ⟨O,O,O,O,O,O,ø⟩) O (JLh (BL (!a)) (G1f (b:=a) O O) O (JLm (BL (!a)) O (JLo (.agg (Gb.cs s)) [] O .scf ø (fun hc=>Gg Hn O O O) O (JLo (E6 boxes) [] O .scf ø (fun hc=>G5 O O) O (JLo (E4 af) [] O .scf ø (fun hc=>G5 O O) O ?_)))))
 obtain⟨c,j,h⟩:=Gh h
 refine JLo (BL c) [16,17,18] O .scf ⟨Ua,Ua,Ua,ø⟩ (fun hc=>H3 (args:=[.agg (Gb.cs s),E6 boxes,E4 af]) O (G06 s boxes af c (Hg hc j)) G87 ⟨O,O,O,O,O,O,ø⟩) O (JLo (BL (!c)) [19] O .scf ⟨Ua,ø⟩ (fun hc=>G1f (b:=c) O O) O (JLh (BL ((!a)||(!c))) (G27 O O O O) O (G6 (g (JCc O h (fun h hb=>?_) (fun h hb=>?_))))))
 ·
  refine Jr fun k=>(JLh (E5 ([]:List Int)) (Qj 1 O O) O (JLm (I64 2) O (G6 (k (H2 (⟨[E5 ([]:List Int),I64 2],[],ø,O,⟨⟨_,O,.conv (.same O)⟩,⟨_,O,.conv (.same O)⟩,ø⟩,O,congrArg (fun r:(List Int)×Int=>(.tup [E5 r.1,I64 r.2]:AV)) (Ky h)⟩))))))
 ·
  refine Gp (f (Jr fun l=>(JLh (.agg (Gb.cs s)) (Gg Hn O O O) O (JLm (E4 bf) O (JLm (E4 af) O ?_)))))
  obtain⟨d,m,h⟩:=Gh h
  refine JLh (E5 d) (H3 O (J80 F s bf af d m) Qfc ⟨O,O,O,O,O,O,ø⟩) O (JLm (E5 d) O (JLm (I64 0) O (G6 (l (H2 (⟨[E5 d,I64 0],[],ø,O,⟨⟨_,O,.conv (.same O)⟩,⟨_,O,.conv (.same O)⟩,ø⟩,O,congrArg (fun r:(List Int)×Int=>(.tup [E5 r.1,I64 r.2]:AV)) (Ky h)⟩))))))

def Z4 (x:G1) (a:Int):Option Bool:=
 some (decide (x.Box=a))
theorem Ha3 (x:G1) (a:Int) (r:Bool) (h:Z4 x a=some r):Pure En 29 [.agg (G1.cs x),.dptr [I64 a]] (·=BL r):=by
 unfold Z4 at h
 refine Ha [.tmp 3] Tryz.func29 O O (Jr fun b=>(JLh (.ptr 1089 0) (Q5 (cs:=[I64 x.Box,I64 x.Slot.G4,I64 x.Slot.Tier,U8 x.Slot.Half]) 1089 O O O O O) O (JLm (BL false) O (G6 (b (Gj [(1,.dptr [I64 a]),(2,Eg x)] [] 1089 rfl rfl rfl ø rfl (by exact⟨.conv (.same rfl),.ptr,ø⟩) (Jr fun c=>(JLh (Eg x) (Gc Jz O O O) O (JLh (I64 x.Box) (Gf G9 O O O) O (JLh (I64 a) (Gf G9 O O O) O (JLh (BL (decide (x.Box=a))) (Q6 O O O) O (JLm (BL (decide (x.Box=a))) O (G6 (c (H2 (fin1 BL h))))))))))))))))

def Qq (s:List G1) (f:G1→Option Bool):Option Bool:=
 bnd (Qh s f) fun a=>
 some (decide (0≤a))
theorem G9a (s:List G1) (f:G1→Option Bool) (f_f:FuncId) (f_c:List AV) (f_B:Hh En f_f=true) (f_d:Qn (fun _=>false) f_c=true) (f_w:∀ a0 q,f a0=some q→Pure En f_f ([.agg (G1.cs a0)]++f_c) (·=BL q)) (r:Bool) (h:Qq s f=some r):Pure En 28 [E4 s,.fn f_f f_c] (·=BL r):=by
 unfold Qq at h
 refine Ha [.tmp 4] Tryz.func28 O O (Jr fun b=>(JLm (BL false) O (G6 (b (Jr fun c=>(JLm (E4 s) O (JLm (.fn f_f f_c) O ?_)))))))
 obtain⟨a,d,h⟩:=Gh h
 refine JLh (I64 a) (H3 O (G30 s f f_f f_c f_B f_d f_w a d) Ja6 ⟨O,O,O,f_d,ø⟩) O (JLh (BL (decide (0≤a))) (Ge4 O O O) O (JLm (BL (decide (0≤a))) O (G6 (c (H2 (fin1 BL h))))))

def J2 (F:Nat) (bf:List G1) (af:List G1) (l:Gb) (m:List Box):Option Int:=
 bnd (G4f F l m bf af) fun n=>
 each (fun o q (c:Int) e=>
  each (fun f p (a:Int) d=>
   jp (fun b=>
    bnd (Qq f (fun z0=>Z4 z0 o)) fun g=>
    bif g then
    (chk (a+1) fun h=>
     b h)
    else
    (b a)) fun(i:Int)=>
   d i)
  (fun(a:Int)=>
   bnd (Qb1 a 2) fun j=>
   chk (c+j) fun k=>
   e k) [bf,af] 0 0)
 (fun(c:Int)=>
  some c) n.1 0 0
theorem G3e (F:Nat) (bf:List G1) (af:List G1) (p:Gb) (s:List Box) (r:Int) (h:J2 F bf af p s=some r):Pure En 26 [E4 bf,E4 af,Ef p,.dptr [E6 s]] (·=I64 r):=by
 unfold J2 at h
 refine Ha [.tmp 6] Tryz.func26 O O (Jr fun c2=>(JLm (I64 0) O (G6 (c2 (Jr fun c3=>(JLh (.agg (Gb.cs p)) (Gg Hn O O O) O (JLh (E6 s) (Gf G9b O O O) O (JLm (E4 bf) O (JLm (E4 af) O ?_)))))))))
 obtain⟨a,c4,h⟩:=Gh h
 refine JLh (.tup [E5 a.1,I64 a.2]) (H3 O (J82 F p s bf af a c4) R15 ⟨O,O,O,O,O,O,O,O,ø⟩) O (JLm (.tup [E5 a.1,I64 a.2]) O (JLh (E5 a.1) (Gv O O O) O (JLh (I64 a.2) (Gv O O O) O (JLm (E5 a.1) O (JLm (I64 a.2) O (G6 (c3 (Jr fun c5=>(JLm (I64 0) O (G6 (c5 (Js fun c6=>Jr fun c7=>(JLm (E5 a.1) O (JLl H1 O O O fun a0=>(JLm (I64 0) O (G6 (c7 (Gk ?_))))))))))))))))))
 obtain⟨b7,c8,c9,a1,h⟩:=J5 h
 refine Hk (fun c (g:Int)=>each b7 c8 (List.drop c a.1) c g=some r) (fun c g=>[(0,E4 bf),(1,E4 af),(9,I64 g),(23,E5 a.1),(24,Em a.1.length),(25,Em c)]) (fun c g=>[]) (fun c=>a.1.length - c) 0 0 h ⟨(.sm O O),ø,rfl⟩ ?_
 clear h
 intro c g w K7 e7
 refine Jr fun d0=>(JLh (BL (decide ((c:Int) < (a.1.length:Int)))) (Jf O O O) O (G6 (d0 (Js fun d1=>Gn O (fun hb=>?_) (fun hb=>?_)))))
 ·
  have x:=Jn hb
  obtain⟨d,e0,d2,d3,h⟩:=Hs w x
  replace h:=Rx c9 h
  refine Gp (d1 (Js fun a2=>Gk (Jr fun a3=>(JLh (.dptr [I64 d]) (H4 (f:=I64) (xs:=a.1) (y:=d) O O O H1 d2 O) O (JLh (I64 d) (Gf G9 O O O) O (JLh (.ptr 1087 0) (Hc 1087 1 Rb O O) O (Hb (u:=.junk) (H0 (u:=I64 d) (ds:=[I64 d]) G00 O O O O O O O O) (G6 (a3 (fzQ [(0,E4 bf),(1,E4 af),(9,I64 g),(11,.dptr [I64 d]),(23,E5 a.1),(24,Em a.1.length),(25,Em c)] [] 1087 rfl rfl rfl ø rfl (Jr fun a4=>(JLm (I64 0) O (G6 (a4 (Js fun a5=>?_)))))))))))))))
  refine Jr fun a6=>(JLm (E4 bf) O (JLm (E4 af) O (JLh (LS 1 (E4) [bf,af]) (H7 (xs:=[E4 bf,E4 af]) O ⟨O,O,O,O,ø⟩ J8 Gd5 O O O O) O (JLl J8 O O O fun a7=>(JLm (I64 0) O (G6 (a6 (Gk ?_))))))))
  obtain⟨d4,a8,a9,t,h⟩:=J5 h
  refine Hk (fun b (e:Int)=>each d4 a8 (List.drop b [bf,af]) b e=some r) (fun b e=>[(0,E4 bf),(1,E4 af),(9,I64 g),(11,.dptr [I64 d]),(12,I64 e),(23,E5 a.1),(24,Em a.1.length),(25,Em c),(31,LS 1 (E4) [bf,af]),(32,I64 ([bf,af].length:Int)),(33,Em b)]) (fun b e=>[]) (fun b=>[bf,af].length - b) 0 0 h ⟨(.sm O O),ø,rfl⟩ ?_
  clear h
  intro b e k e1 d5
  refine Jr fun b0=>(JLh (BL (decide ((b:Int) < ([bf,af].length:Int)))) (Jf O O O) O (G6 (b0 (Js fun b1=>Gn O (fun hb=>?_) (fun hb=>?_)))))
  ·
   have l:=Jn hb
   obtain⟨i,d9,b2,b3,h⟩:=Hs k l
   replace h:=Rx a9 h
   refine Gp (b1 ?_)
   obtain⟨b4,v,h⟩:=Rc h
   refine Qf (fun j:Int=>b4 j=some r) (fun j=>[(0,E4 bf),(1,E4 af),(9,I64 g),(11,.dptr [I64 d]),(12,I64 j),(23,E5 a.1),(24,Em a.1.length),(25,Em c),(31,LS 1 (E4) [bf,af]),(32,I64 ([bf,af].length:Int)),(33,Em b)]) (fun j=>[]) (fun Kj34 ej34=>?_) ?_
   ·
    refine Gk (Jr fun b5=>(JLh (.dptr [E4 i]) (H4 (f:=(E4)) (xs:=[bf,af]) (y:=i) O O O J8 b2 O) O (JLh (E4 i) (Gf Yk O O O) O (JLm (E4 i) O (G6 (b5 (Jr fun b6=>(JLm (E4 i) O (JLh (.fn 29 [.dptr [I64 d]]) (Z5 (cs:=[.dptr [I64 d]]) O O) O ?_)))))))))
    obtain⟨z,b8,h⟩:=Gh h
    refine JLh (BL z) (H3 O (G9a i (fun z0=>Z4 z0 d) 29 [.dptr [I64 d]] R13 O (fun z0 q hq=>Ha3 z0 d q hq) z b8) R14 ⟨O,O,O,O,ø⟩) O (G6 (b6 (JCc O h (fun h hb=>?_) (fun h hb=>?_))))
    ·
     refine G2 (JLm (I64 e) O ?_)
     obtain⟨m,b9,h⟩:=J6 h
     refine JLh (I64 m) (Hz b9 O O O) O (JLm (I64 m) O (G6 (ej34 _ _ m h ⟨(.sm O O),ø,rfl⟩)))
    ·
     refine Gp (ej34 _ _ e h ⟨(.sm O O),ø,rfl⟩)
   ·intro j h
    replace h:=app1 v h
    refine G2 (JLh (I64 ((b+1:Nat):Int)) (Hz (He l a7) O O O) O (JLm (I64 ((b+1:Nat):Int)) O (G6 (d5 _ _ (b+1) j (app1 b3 h) (by omega) ⟨(.sm O O),ø,rfl⟩))))
  ·
   have h:=app1 t (Ht k (H9 hb))
   refine Hr (a5 (G2 (JLm (I64 g) O (JLm (I64 e) O ?_))))
   obtain⟨d6,n,h⟩:=Gh h
   refine JLh (I64 d6) (Ya1 (Q2b n).1 (Q2b n).2 O O O) O ?_
   obtain⟨o,c0,h⟩:=J6 h
   refine JLh (I64 o) (Hz c0 O O O) O (JLm (I64 o) O (G6 (a2 (G2 (JLh (I64 ((c+1:Nat):Int)) (Hz (He x a0) O O O) O (JLm (I64 ((c+1:Nat):Int)) O (G6 (e7 _ _ (c+1) o (app1 d3 h) (by omega) ⟨(.sm O O),ø,rfl⟩))))))))
 ·
  have h:=app1 a1 (Ht w (H9 hb))
  refine Hr (c6 (Jr fun c1=>(JLm (I64 g) O (JLm (I64 g) O (G6 (c1 (H2 (fin1 I64 h))))))))
end
end Go.Proofs.YtibhpogonkdiaaaGreat
