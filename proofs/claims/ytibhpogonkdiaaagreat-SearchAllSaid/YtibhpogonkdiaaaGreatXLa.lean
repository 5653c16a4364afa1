/- Walks of functions. -/
import Derived.Test.YtibhpogonkdiaaaGreatXS
set_option linter.unnecessarySimpa false
set_option maxRecDepth 100000
set_option maxHeartbeats 1000000
set_option linter.unusedVariables false
set_option linter.unusedSimpArgs false
namespace Go.Proofs.YtibhpogonkdiaaaGreat
open Go.RowKit
noncomputable section
structure Gs where
 e0:Int
 e1:Int
 deriving DecidableEq,Inhabited
def Gs.cs (x:Gs):List AV:=[I64 x.e0,I64 x.e1]
def Gs.av (x:Gs):AV:=.agg x.cs
structure Gd where
 restows:Int
 next:Int
 deriving DecidableEq,Inhabited
def Gd.cs (x:Gd):List AV:=[I64 x.restows,I64 x.next]
def Gd.av (x:Gd):AV:=.agg x.cs
def Gs.ks (x:Gs):List Value:=[.int .i64 x.e0,.int .i64 x.e1]
def Gs.kv (x:Gs):Value:=.agg x.ks.toArray
namespace XLF
open XAF
open XCF
open XFF
open XSF
theorem Reb (a b:Gs):H55 Em 4 93 [.int .i64 a.e0,.int .i64 a.e1] [.int .i64 b.e0,.int .i64 b.e1]=some (decide (a=b)):=by
 refine(show _=some ((a.e0==b.e0)&&((a.e1==b.e1)&&true)) by kernel_rfl).trans (congrArg some ?_)
 rw [Bool.eq_iff_iff]
 simp only [Mb,beq_iff_eq,Mc,Bool.and_true]
 constructor
 ·intro h; obtain⟨_,_⟩:=a; obtain⟨_,_⟩:=b; simp_all
 ·intro h; subst h; simp
theorem G20:G7d Em 48 2=true:=by kernel_rfl
theorem G1f:G7d Em 91 2=true:=by kernel_rfl
theorem Jb5:G7d Em 93 2=true:=by kernel_rfl
theorem Qfc:R87 Em 93 3 1=true:=by kernel_rfl
theorem Jb4:J1e Em 4=true:=by kernel_rfl
theorem H48:H8 Em 108=true:=by kernel_rfl
theorem Q2a:H8 Em 109=true:=by kernel_rfl
theorem J04:H8 Em 110=true:=by kernel_rfl
theorem Q29:H8 Em 111=true:=by kernel_rfl
theorem Q28:H8 Em 112=true:=by kernel_rfl
theorem Q23:H8 Em 120=true:=by kernel_rfl
theorem Q22:H8 Em 141=true:=by kernel_rfl
theorem Q21:H8 Em 142=true:=by kernel_rfl
theorem Q20:H8 Em 143=true:=by kernel_rfl
theorem Q1f:H8 Em 163=true:=by kernel_rfl
theorem Q1e:H8 Em 164=true:=by kernel_rfl
theorem H91:H8 Em 24=true:=by kernel_rfl
theorem H20:H8 Em 26=true:=by kernel_rfl
theorem Q9c:H8 Em 27=true:=by kernel_rfl
theorem Q9b:H8 Em 28=true:=by kernel_rfl
theorem Q9a:H8 Em 29=true:=by kernel_rfl
theorem Gcc:H8 Em 30=true:=by kernel_rfl
theorem Q99:H8 Em 31=true:=by kernel_rfl
theorem Q98:H8 Em 32=true:=by kernel_rfl
theorem Q83:H8 Em 68=true:=by kernel_rfl
theorem J50:H8 Em 69=true:=by kernel_rfl
theorem H8f:H8 Em 85=true:=by kernel_rfl
theorem Q7a:R8 Em 42 1 24=true:=by kernel_rfl
theorem Gc9:H2c Em 91 0 0=true:=by kernel_rfl
theorem Q79:H2c Em 91 1 1=true:=by kernel_rfl
theorem J9d:Ji Em 91 0 0=true:=by kernel_rfl
theorem J9c:Ji Em 91 1 1=true:=by kernel_rfl
theorem J3c:Zk Em 197 3 224=true:=by kernel_rfl
theorem Jb0:Zk Em 88 93 91=true:=by kernel_rfl
theorem J98:placesOf Em 224=some []:=by kernel_rfl
theorem Gb8:placesOf Em 48=some [(0,1),(1,1)]:=by kernel_rfl
theorem Hb0:placesOf Em 91=some [(0,1),(1,1)]:=by kernel_rfl
theorem J97:Qo Em 197=true:=by kernel_rfl
theorem Gf9:Qo Em 198=true:=by kernel_rfl
theorem G12:Qo Em 81=true:=by kernel_rfl
theorem Je9:Qo Em 87=true:=by kernel_rfl
theorem Je8:Qo Em 88=true:=by kernel_rfl
theorem G34:Qo Em 89=true:=by kernel_rfl
theorem Q1b:Qs Em 197 1=true:=by kernel_rfl
theorem Q1a:Qs Em 198 1=true:=by kernel_rfl
theorem Q19:Qs Em 224 0=true:=by kernel_rfl
theorem Q78:Qs Em 39 1=true:=by kernel_rfl
theorem Yz:Qs Em 48 2=true:=by kernel_rfl
theorem Q76:Qs Em 81 1=true:=by kernel_rfl
theorem Q75:Qs Em 87 1=true:=by kernel_rfl
theorem Q74:Qs Em 88 1=true:=by kernel_rfl
theorem Q73:Qs Em 89 1=true:=by kernel_rfl
theorem G10:Qs Em 91 2=true:=by kernel_rfl
theorem G0d:sliceB Em 81 42 1=true:=by kernel_rfl
theorem Q18:(Em.info? 224).bind (fun i=>i.zero.map Value.cells)=some (List.toArray []):=by kernel_rfl
theorem Q71:(Em.info? 39).bind (fun i=>i.zero.map Value.cells)=some (List.toArray [.slice none 0 0]):=by kernel_rfl
theorem G0f:(Em.info? 48).bind (fun i=>i.zero.map Value.cells)=some (List.toArray [.slice none 0 0,.slice none 0 0]):=by kernel_rfl
theorem Q6d:(Em.info? 81).bind (fun i=>i.zero.map Value.cells)=some (List.toArray [.slice none 0 0]):=by kernel_rfl
theorem Gc5:(Em.info? 91).bind (fun i=>i.zero.map Value.cells)=some (List.toArray [E0,E0]):=by kernel_rfl
theorem Q6c:(Em.info? 93).bind (fun i=>i.zero.map Value.cells)=some (List.toArray [E0,E0]):=by kernel_rfl
theorem Je6:Q4 Em 197 1=true:=by kernel_rfl
theorem Je5:Q4 Em 198 1=true:=by kernel_rfl
theorem Je4:Q4 Em 224 0=true:=by kernel_rfl
theorem Hfc:Q4 Em 42 1=true:=by kernel_rfl
theorem Q17:Q4 Em 87 1=true:=by kernel_rfl
theorem Q16:Q4 Em 88 1=true:=by kernel_rfl
theorem Q15:Q4 Em 89 1=true:=by kernel_rfl
theorem H43:Q4 Em 91 2=true:=by kernel_rfl
theorem Qf7:(Em.info? 224).bind (·.zero)=some (.agg #[]):=by kernel_rfl
theorem R39:(Em.info? 91).bind (·.zero)=some (.agg #[E0,E0]):=by kernel_rfl
theorem Qf5:Ga9 Em 3 Kj:=Ga9.of_int (by kernel_rfl)
theorem Ra6:Ga9 Em 93 Gs.kv:=Ga9.of_eq Gs.ks (by kernel_rfl) (fun a b h=>by simp only [Gs.ks,List.cons.injEq,Value.int.injEq,Value.bool.injEq,Value.string.injEq,true_and,and_true] at h; obtain⟨_,_⟩:=a; obtain⟨_,_⟩:=b; simp_all) 4 (by decide) (fun a b=>Reb a b) (fun a=>by kernel_rfl) (fun a=>by simp [Instr.sameBits,Gs.ks])
end XLF
open XAF
open XCF
open XFF
open XSF
open XLF

def G54 (c0_:Int) (c1_:Int) (c2_:List (List (List G1))) (c3_:(List G1)→(List G1)→Option Int) (c4_:Int) (m_:Gu Gs Gd) (self_:Int→Int→Gu Gs Gd→Option (Gd×Gu Gs Gd)):Option (Gd×(Gu Gs Gd)):=
 chk (c0_+1) fun p=>
 bif decide (p=c1_) then
 (some ((Gd.mk 0 (-1)),m_))
 else
 (chk (c0_+1) fun q=>
  Ju c2_ q fun i=>
  each (fun r c (a:Int×Int×(Gu Gs Gd)) g=>
   jp (fun d=>
    Ju c2_ c0_ fun j=>
    Ju j c4_ fun k=>
    chk (c0_+1) fun l=>
    Ju c2_ l fun m=>
    Ju m (c:Int) fun n=>
    bnd (c3_ k n) fun o=>
    chk (c0_+1) fun h=>
    bnd (self_ h (c:Int) a.2.2) fun b=>
    chk (o+b.1.restows) fun e=>
    bif ((decide (a.2.1 < 0))||(decide (e < a.1))) then
    (d (b.2,e,(c:Int)))
    else
    (d (b.2,a.1,a.2.1))) fun(f:(Gu Gs Gd)×Int×Int)=>
   g (f.2.1,f.2.2,f.1))
  (fun(a:Int×Int×(Gu Gs Gd))=>
   some ((Gd.mk a.1 a.2.1),a.2.2)) i 0 (0,(-1),m_))
abbrev Es (c1_:Int) (c2_:List (List (List G1))) (c3__f:FuncId) (c3__c:List AV):List AV:=[.ptr 1015 0,.dptr [I64 c1_],.dptr [LS 1 (LS 1 (E4)) c2_],.dptr [.fn c3__f c3__c],.ptr 1016 0]
theorem H5f (c0_:Int) (c1_:Int) (c2_:List (List (List G1))) (c3_:(List G1)→(List G1)→Option Int) (c3__f:FuncId) (c3__c:List AV) (c3__B:H8 Em c3__f=true) (c3__d:Q3 (fun _=>false) c3__c=true) (c3__w:∀ a0 a1 q,c3_ a0 a1=some q→Pure Em c3__f ([E4 a0,E4 a1]++c3__c) (·=I64 q)) (c4_:Int) (m_:Gu Gs Gd) (self_:Int→Int→Gu Gs Gd→Option (Gd×Gu Gs Gd)) (self_w:∀ (q_0:Int) (q_1:Int) (m_:Gu Gs Gd) (r_:Gd×Gu Gs Gd),self_ q_0 q_1 m_=some r_→Jq Em 30 [I64 q_0,I64 q_1,.ptr 1015 0,.dptr [I64 c1_],.dptr [LS 1 (LS 1 (E4)) c2_],.dptr [.fn c3__f c3__c],.ptr 1016 0] [(1015,.box 88 [.mp 1018]),(1018,MP 88 Gs.kv Gd.av m_),(1016,.box 89 [.fn 30 [.ptr 1015 0,.dptr [I64 c1_],.dptr [LS 1 (LS 1 (E4)) c2_],.dptr [.fn c3__f c3__c],.ptr 1016 0]])] (fun av L'=>av=.agg [I64 r_.1.restows,I64 r_.1.next]∧L'=[(1015,.box 88 [.mp 1018]),(1018,MP 88 Gs.kv Gd.av r_.2),(1016,.box 89 [.fn 30 [.ptr 1015 0,.dptr [I64 c1_],.dptr [LS 1 (LS 1 (E4)) c2_],.dptr [.fn c3__f c3__c],.ptr 1016 0]])])) (r:Gd×(Gu Gs Gd)) (h:G54 c0_ c1_ c2_ c3_ c4_ m_ self_=some r):Jq Em 32 [.dptr [I64 c0_],.dptr [I64 c1_],.dptr [LS 1 (LS 1 (E4)) c2_],.dptr [.fn c3__f c3__c],.dptr [I64 c4_],.ptr 1016 0] [(1015,.box 88 [.mp 1018]),(1018,MP 88 Gs.kv Gd.av m_),(1016,.box 89 [.fn 30 [.ptr 1015 0,.dptr [I64 c1_],.dptr [LS 1 (LS 1 (E4)) c2_],.dptr [.fn c3__f c3__c],.ptr 1016 0]])] (fun av L'=>av=.agg [I64 r.1.restows,I64 r.1.next]∧L'=[(1015,.box 88 [.mp 1018]),(1018,MP 88 Gs.kv Gd.av r.2),(1016,.box 89 [.fn 30 [.ptr 1015 0,.dptr [I64 c1_],.dptr [LS 1 (LS 1 (E4)) c2_],.dptr [.fn c3__f c3__c],.ptr 1016 0]])]):=by
 unfold G54 at h
 refine Z5 [1016,1015,1018] [.cell 6 91] Tryz.func32 O O (H52 O) (Jr fun c3=>(JLh (.ptr 1078 0) (Ru 1078 [I64 0,I64 0] [E0,E0] Gc5 (zzQ O) O O) O (G4 (c3 (Jr fun c4=>(JLh (.agg [I64 0,I64 (-1)]) (J9 (cs:=[I64 0,I64 (-1)]) [(0,1),(1,1)] [I64 0,I64 0] [E0,E0] Hb0 Gc5 (zzQ O) O O) O (JLh (.ptr 1079 0) (Hg 1079 2 H43 O O) O (Hd (u:=.junk) (Gy (u:=.agg [I64 0,I64 (-1)]) (ds:=[I64 0,I64 (-1)]) G10 O O O O O O O O) (G4 (c4 (Js fun c5=>Jr fun c6=>(JLh (I64 c0_) (Ge G9 O O O) O ?_))))))))))))
 obtain⟨v5,c8,h⟩:=Hx h
 refine JLh (I64 v5) (Ht c8 O O O) O (JLh (I64 c1_) (Ge G9 O O O) O (JLh (BL (decide (v5=c1_))) (Qn O O O) O (G4 (c6 (JCc O h (fun h hb=>?_) (fun h hb=>?_))))))
 ·
  refine Jr fun c9=>(JLh (.agg [I64 0,I64 (-1)]) (G01 G1f O O O O) O (Hd (u:=.junk) (Gy (u:=.agg [I64 0,I64 (-1)]) (ds:=[I64 0,I64 (-1)]) G10 O O O O O O O O) (G4 (c9 (Gh [(6,.ptr 1078 0)] [(1015,.box 88 [.mp 1018]),(1018,MP 88 Gs.kv Gd.av m_),(1016,.box 89 [.fn 30 (Es c1_ c2_ c3__f c3__c)]),(1078,.box 91 [I64 0,I64 (-1)])] 1079 rfl rfl rfl ⟨⟨_,rfl,.boxEq rfl rfl⟩,fmQ O,⟨_,rfl,.boxEq rfl rfl⟩,⟨_,rfl,.boxEq rfl rfl⟩,ø⟩ rfl (by exact⟨.conv (.same rfl),ø⟩) (Gw ?_))))))
  obtain rfl:=Kz h
  exact⟨[.agg [I64 0,I64 (-1)]],[(1015,.box 88 [.mp 1018]),(1018,MP 88 Gs.kv Gd.av m_),(1016,.box 89 [.fn 30 (Es c1_ c2_ c3__f c3__c)])],⟨⟨_,O,.boxL O ⟨.same O,ø⟩⟩,⟨_,O,.map⟩,⟨_,O,.boxL O ⟨.same O,ø⟩⟩,ø⟩,O,⟨⟨_,⟨_,_,_,_,O,O,O,.inl ⟨G1f,O⟩⟩,.conv (.same O)⟩,ø⟩,O,O⟩
 ·
  refine Gn (c5 (Js fun d0=>Jr fun d1=>(JLh (LS 1 (LS 1 (E4)) c2_) (Ge G12 O O O) O (JLh (I64 c0_) (Ge G9 O O O) O ?_))))
  obtain⟨v9,d2,h⟩:=Hx h
  refine JLh (I64 v9) (Ht d2 O O O) O ?_
  obtain⟨e0,g,a2,a3,h⟩:=Qc h
  refine JLh (.dptr [LS 1 (E4) g]) (H0 (f:=(LS 1 (E4))) (xs:=c2_) (y:=g) O O O G0d a3 a2) O (JLh (LS 1 (E4) g) (Ge Jv O O O) O (JLl Hv O O O fun a4=>(JLm (I64 0) O (G4 (d1 (Gi ?_))))))
  obtain⟨d3,a5,a6,p,h⟩:=Hu h
  refine Hf (fun b (a:Int×Int×(Gu Gs Gd))=>each d3 a5 (List.drop b g) b a=some r) (fun b a=>[(0,.dptr [I64 c0_]),(2,.dptr [LS 1 (LS 1 (E4)) c2_]),(3,.dptr [.fn c3__f c3__c]),(4,.dptr [I64 c4_]),(5,.ptr 1016 0),(6,.ptr 1078 0),(7,.ptr 1079 0),(21,Ek g.length),(22,Ek b)]) (fun b a=>[(1018,MP 88 Gs.kv Gd.av a.2.2),(1015,.box 88 [.mp 1018]),(1016,.box 89 [.fn 30 (Es c1_ c2_ c3__f c3__c)]),(1078,.box 91 [I64 0,I64 0]),(1079,.box 91 [I64 a.1,I64 a.2.1])]) (fun b=>g.length - b) 0 (0,(-1),m_) h ⟨(.sm O O),⟨fmQ O,fbQ O ⟨.same rfl,ø⟩,fbQ O ⟨.same rfl,ø⟩,fbQ O (.sm O O),fbQ O (.sm O O),ø⟩,rfl⟩ ?_
  clear h
  intro b a n e1 d4
  refine Jr fun a7=>(JLh (BL (decide ((b:Int) < (g.length:Int)))) (J8 O O O) O (G4 (a7 (Js fun a8=>Gj O (fun hb=>?_) (fun hb=>?_)))))
  ·
   have o:=Jh hb
   obtain⟨e2,d8,d9,a9,h⟩:=Hk n o
   replace h:=Rh a6 h
   refine Gn (a8 ?_)
   obtain⟨b0,s,h⟩:=Qr h
   refine Q0 (fun e:(Gu Gs Gd)×Int×Int=>b0 e=some r) (fun e=>[(0,.dptr [I64 c0_]),(2,.dptr [LS 1 (LS 1 (E4)) c2_]),(3,.dptr [.fn c3__f c3__c]),(4,.dptr [I64 c4_]),(5,.ptr 1016 0),(6,.ptr 1078 0),(7,.ptr 1079 0),(21,Ek g.length),(22,Ek b)]) (fun e=>[(1018,MP 88 Gs.kv Gd.av e.1),(1015,.box 88 [.mp 1018]),(1016,.box 89 [.fn 30 (Es c1_ c2_ c3__f c3__c)]),(1078,.box 91 [I64 0,I64 0]),(1079,.box 91 [I64 e.2.1,I64 e.2.2])]) (fun Kj87 ej87=>?_) ?_
   ·
    refine Gi (Jr fun b1=>(JLm (Ek b) O (JLm (Ek b) O (G4 (b1 (Js fun b2=>?_))))))
    refine Rt (l':=[(0,.dptr [I64 c0_]),(2,.dptr [LS 1 (LS 1 (E4)) c2_]),(3,.dptr [.fn c3__f c3__c]),(4,.dptr [I64 c4_]),(5,.ptr 1016 0),(6,.ptr 1078 0),(7,.ptr 1079 0),(8,Ek b),(21,Ek g.length),(22,Ek b)]) (L':=[(1018,MP 88 Gs.kv Gd.av a.2.2),(1015,.box 88 [.mp 1018]),(1016,.box 89 [.fn 30 (Es c1_ c2_ c3__f c3__c)]),(1078,.box 91 [I64 0,I64 0]),(1079,.box 91 [I64 a.1,I64 a.2.1])]) ⟨(.sm O O),⟨fmQ O,fbQ O ⟨.same rfl,ø⟩,fbQ O ⟨.same rfl,ø⟩,fbQ O (.sm O O),fbQ O (.sm O O),ø⟩,rfl⟩ ?_
    obtain⟨e3,l,b3,b4,h⟩:=Qc h
    obtain⟨e4,i,b5,b6,h⟩:=Qc h
    obtain⟨d5,b7,h⟩:=Hx h
    obtain⟨e5,m,b8,b9,h⟩:=Qc h
    obtain⟨e6,j,c0,c1,h⟩:=Qc h
    obtain⟨d6,c2,h⟩:=Gg h
    obtain⟨k,t,h⟩:=Hx h
    obtain⟨d,v,h⟩:=Gg h
    obtain⟨c,w,h⟩:=Hx h
    refine Qy [21] [0,0,0,0,0,0,0,0,0,0,0,0,0,0,0,0,0,0,0,0,0,0,1,1,1] [0,0,0,0,0,0,0,0,0,0,0,0,0,0,0,0,0,0,0,0,0,0,1,1,1] [[(1018,MP 88 Gs.kv Gd.av a.2.2),(1015,.box 88 [.mp 1018]),(1016,.box 89 [.fn 30 (Es c1_ c2_ c3__f c3__c)]),(1078,.box 91 [I64 0,I64 0]),(1079,.box 91 [I64 a.1,I64 a.2.1])],((1018,MP 88 Gs.kv Gd.av d.2)::[(1018,MP 88 Gs.kv Gd.av a.2.2),(1015,.box 88 [.mp 1018]),(1016,.box 89 [.fn 30 (Es c1_ c2_ c3__f c3__c)]),(1078,.box 91 [I64 0,I64 0]),(1079,.box 91 [I64 a.1,I64 a.2.1])])] Q7 (by kernel_rfl) rfl rfl ?_
    refine Gq (u:=.fn c3__f c3__c) O O ⟨Gr (Ge Je9 O O O) O,ø⟩ (Gq (u:=LS 1 (LS 1 (E4)) c2_) O O ⟨Gr (Ge G12 O O O) O,ø⟩ (Gq (u:=I64 c0_) O O ⟨Gr (Ge G9 O O O) O,ø⟩ (Gq (u:=.dptr [LS 1 (E4) l]) O O ⟨Gr (H0 (f:=(LS 1 (E4))) (xs:=c2_) (y:=l) O O O G0d b4 b3) O,ø⟩ (Gq (u:=LS 1 (E4) l) O O ⟨Gr (Ge Jv O O O) O,ø⟩ (Gq (u:=I64 c4_) O O ⟨Gr (Ge G9 O O O) O,ø⟩ (Gq (u:=.dptr [E4 i]) O O ⟨Gr (H0 (f:=(E4)) (xs:=l) (y:=i) O O O Hv b6 b5) O,ø⟩ (Gq (u:=E4 i) O O ⟨Gr (Ge Rn O O O) O,ø⟩ (Gq (u:=LS 1 (LS 1 (E4)) c2_) O O ⟨Gr (Ge G12 O O O) O,ø⟩ (Gq (u:=I64 c0_) O O ⟨Gr (Ge G9 O O O) O,ø⟩ (Gq (u:=I64 d5) O O ⟨Gr (Ht b7 O O O) O,ø⟩ (Gq (u:=.dptr [LS 1 (E4) m]) O O ⟨Gr (H0 (f:=(LS 1 (E4))) (xs:=c2_) (y:=m) O O O G0d b9 b8) O,ø⟩ (Gq (u:=LS 1 (E4) m) O O ⟨Gr (Ge Jv O O O) O,ø⟩ (Gq (u:=Ek b) O O ⟨Gr (G5 O O) O,ø⟩ ?_)))))))))))))
    refine Gq (u:=.dptr [E4 j]) O O ⟨Gr (H0 (f:=(E4)) (xs:=m) (y:=j) O O O Hv c1 c0) O,ø⟩ (Gq (u:=E4 j) O O ⟨Gr (Ge Rn O O O) O,ø⟩ (Gq (u:=I64 d6) O O ⟨Gr (G0c (args:=[E4 i,E4 j]) (caps:=c3__c) O O (c3__w i j _ c2) c3__B ⟨O,O,O,O,ø⟩ c3__d) O,ø⟩ (Gq (u:=.fn 30 (Es c1_ c2_ c3__f c3__c)) O O ⟨Gr (Jg G34 O O O O) O,ø⟩ (Gq (u:=I64 c0_) O O ⟨Gr (Ge G9 O O O) O,ø⟩ (Gq (u:=I64 k) O O ⟨Gr (Ht t O O O) O,ø⟩ (Gq (u:=Ek b) O O ⟨Gr (G5 O O) O,ø⟩ (D_w (u:=.agg [I64 d.1.restows,I64 d.1.next]) O O O O (Z2.locEq (Gr (G7c (args:=[I64 k,Ek b]) (caps:=(Es c1_ c2_ c3__f c3__c)) (L0:=[(1015,.box 88 [.mp 1018]),(1018,MP 88 Gs.kv Gd.av a.2.2),(1016,.box 89 [.fn 30 (Es c1_ c2_ c3__f c3__c)])]) (Lr:=[(1015,.box 88 [.mp 1018]),(1018,MP 88 Gs.kv Gd.av d.2),(1016,.box 89 [.fn 30 (Es c1_ c2_ c3__f c3__c)])]) O O (self_w k (b:Int) a.2.2 d v) Gcc ⟨.inl O,O,.inl O,O,ø⟩ O ⟨O,O,O,ø⟩ O O O) O) (G5f.of [1018,1015,1016,1078,1079] O O ⟨O,O,O,O,O,ø⟩)) (Gq (u:=I64 d.1.restows) O O ⟨Gr (H16 Gc9 O O O) O,ø⟩ (Gq (u:=I64 c) O O ⟨Gr (Ht w O O O) O,ø⟩ (Gq (u:=I64 c) O O ⟨Gr (G7 O O) O,ø⟩ (Zs ?_)))))))))))
    refine b2 (Jr fun x=>(JLh (.ptr 1079 1) (J5 J9c O O) O (JLh (I64 a.2.1) (Jg G9 O O O O) O (JLh (BL (decide (a.2.1 < 0))) (J8 O O O) O (JLm (BL (decide (a.2.1 < 0))) O (JLo (I64 c) [] O .scf ø (fun hc=>G5 O O) O (JLo (.ptr 1079 0) [] O .scf ø (fun hc=>J5 J9d O O) O (JLo (I64 a.1) [54] O .scf ⟨Ua,ø⟩ (fun hc=>Jg G9 O O O O) O (JLo (BL (decide (c < a.1))) [53,55] O .scf ⟨Ua,Ua,ø⟩ (fun hc=>J8 O O O) O (JLh (BL ((decide (a.2.1 < 0))||(decide (c < a.1)))) (G18 O O O O) O (G4 (x (JCc O h (fun h hb=>?_) (fun h hb=>?_))))))))))))))
    ·
     refine G2 (JLm (I64 c) O (JLm (Ek b) O (JLh (.agg [I64 c,Ek b]) (J9 (cs:=[I64 c,Ek b]) [(0,1),(1,1)] [I64 0,I64 0] [E0,E0] Hb0 Gc5 (zzQ O) O O) O (Hd (u:=.junk) (Gy (u:=.agg [I64 c,Ek b]) (ds:=[I64 c,Ek b]) G10 O O O O O O O O) (G4 (ej87 _ _ (d.2,c,(b:Int)) h ⟨(.sm O O),⟨fmQ O,fbQ O ⟨.same rfl,ø⟩,fbQ O ⟨.same rfl,ø⟩,fbQ O (.sm O O),fbQ O (.sm O O),ø⟩,rfl⟩))))))
    ·
     refine Gn (ej87 _ _ (d.2,a.1,a.2.1) h ⟨(.sm O O),⟨fmQ O,fbQ O ⟨.same rfl,ø⟩,fbQ O ⟨.same rfl,ø⟩,fbQ O (.sm O O),fbQ O (.sm O O),ø⟩,rfl⟩)
   ·intro e h
    replace h:=app1 s h
    refine G2 (JLh (I64 ((b+1:Nat):Int)) (Ht (H7 o a4) O O O) O (JLm (I64 ((b+1:Nat):Int)) O (G4 (d4 _ _ (b+1) (e.2.1,e.2.2,e.1) (app1 a9 h) (by omega) ⟨(.sm O O),⟨fmQ O,fbQ O ⟨.same rfl,ø⟩,fbQ O ⟨.same rfl,ø⟩,fbQ O (.sm O O),fbQ O (.sm O O),ø⟩,rfl⟩))))
  ·
   have h:=app1 p (Hm n (H6 hb))
   refine Hj (d0 (Jr fun z=>(JLh (.agg [I64 a.1,I64 a.2.1]) (G01 G1f O O O O) O (Hd (u:=.junk) (Gy (u:=.agg [I64 a.1,I64 a.2.1]) (ds:=[I64 a.1,I64 a.2.1]) G10 O O O O O O O O) (G4 (z (Gh [(6,.ptr 1078 0)] [(1018,MP 88 Gs.kv Gd.av a.2.2),(1015,.box 88 [.mp 1018]),(1016,.box 89 [.fn 30 (Es c1_ c2_ c3__f c3__c)]),(1078,.box 91 [I64 a.1,I64 a.2.1])] 1079 rfl rfl rfl ⟨fmQ O,⟨_,rfl,.boxEq rfl rfl⟩,⟨_,rfl,.boxEq rfl rfl⟩,⟨_,rfl,.boxEq rfl rfl⟩,ø⟩ rfl (by exact⟨.conv (.same rfl),ø⟩) (Gw ?_))))))))
   obtain rfl:=Kz h
   exact⟨[.agg [I64 a.1,I64 a.2.1]],[(1015,.box 88 [.mp 1018]),(1018,MP 88 Gs.kv Gd.av a.2.2),(1016,.box 89 [.fn 30 (Es c1_ c2_ c3__f c3__c)])],⟨⟨_,O,.boxL O ⟨.same O,ø⟩⟩,⟨_,O,.map⟩,⟨_,O,.boxL O ⟨.same O,ø⟩⟩,ø⟩,O,⟨⟨_,⟨_,_,_,_,O,O,O,.inl ⟨G1f,O⟩⟩,.conv (.same O)⟩,ø⟩,O,O⟩

def G0a (k_:Gs) (m_:Gu Gs Gd) (c0_:Int) (c1_:Int) (c2_:List (List (List G1))) (c3_:(List G1)→(List G1)→Option Int) (c4_:Int) (self_:Int→Int→Gu Gs Gd→Option (Gd×Gu Gs Gd)):Option (Gd×(Gu Gs Gd)):=
 bnd (some (Gu.get m_ k_ (Gd.mk 0 0))) fun b=>
 bif (Gu.has m_ k_) then
 (some (b,m_))
 else
 (bnd (G54 c0_ c1_ c2_ c3_ c4_ m_ self_) fun a=>
  some (a.1,(Gu.put a.2 k_ a.1)))
abbrev Eu (c1_:Int) (c2_:List (List (List G1))) (c3__f:FuncId) (c3__c:List AV):List AV:=[.ptr 1015 0,.dptr [I64 c1_],.dptr [LS 1 (LS 1 (E4)) c2_],.dptr [.fn c3__f c3__c],.ptr 1016 0]
abbrev Ev (c0_:Int) (c1_:Int) (c2_:List (List (List G1))) (c3__f:FuncId) (c3__c:List AV) (c4_:Int):List AV:=[.dptr [I64 c0_],.dptr [I64 c1_],.dptr [LS 1 (LS 1 (E4)) c2_],.dptr [.fn c3__f c3__c],.dptr [I64 c4_],.ptr 1016 0]
theorem Ge3 (k_:Gs) (m_:Gu Gs Gd) (c0_:Int) (c1_:Int) (c2_:List (List (List G1))) (c3_:(List G1)→(List G1)→Option Int) (c3__f:FuncId) (c3__c:List AV) (c3__B:H8 Em c3__f=true) (c3__d:Q3 (fun _=>false) c3__c=true) (c3__w:∀ a0 a1 q,c3_ a0 a1=some q→Pure Em c3__f ([E4 a0,E4 a1]++c3__c) (·=I64 q)) (c4_:Int) (self_:Int→Int→Gu Gs Gd→Option (Gd×Gu Gs Gd)) (self_w:∀ (q_0:Int) (q_1:Int) (m_:Gu Gs Gd) (r_:Gd×Gu Gs Gd),self_ q_0 q_1 m_=some r_→Jq Em 30 [I64 q_0,I64 q_1,.ptr 1015 0,.dptr [I64 c1_],.dptr [LS 1 (LS 1 (E4)) c2_],.dptr [.fn c3__f c3__c],.ptr 1016 0] [(1015,.box 88 [.mp 1018]),(1018,MP 88 Gs.kv Gd.av m_),(1016,.box 89 [.fn 30 [.ptr 1015 0,.dptr [I64 c1_],.dptr [LS 1 (LS 1 (E4)) c2_],.dptr [.fn c3__f c3__c],.ptr 1016 0]])] (fun av L'=>av=.agg [I64 r_.1.restows,I64 r_.1.next]∧L'=[(1015,.box 88 [.mp 1018]),(1018,MP 88 Gs.kv Gd.av r_.2),(1016,.box 89 [.fn 30 [.ptr 1015 0,.dptr [I64 c1_],.dptr [LS 1 (LS 1 (E4)) c2_],.dptr [.fn c3__f c3__c],.ptr 1016 0]])])) (r:Gd×(Gu Gs Gd)) (h:G0a k_ m_ c0_ c1_ c2_ c3_ c4_ self_=some r):Jq Em 31 [.mp 1018,.agg [I64 k_.e0,I64 k_.e1],.fn 32 [.dptr [I64 c0_],.dptr [I64 c1_],.dptr [LS 1 (LS 1 (E4)) c2_],.dptr [.fn c3__f c3__c],.dptr [I64 c4_],.ptr 1016 0]] [(1015,.box 88 [.mp 1018]),(1018,MP 88 Gs.kv Gd.av m_),(1016,.box 89 [.fn 30 [.ptr 1015 0,.dptr [I64 c1_],.dptr [LS 1 (LS 1 (E4)) c2_],.dptr [.fn c3__f c3__c],.ptr 1016 0]])] (fun av L'=>av=.agg [I64 r.1.restows,I64 r.1.next]∧L'=[(1015,.box 88 [.mp 1018]),(1018,MP 88 Gs.kv Gd.av r.2),(1016,.box 89 [.fn 30 [.ptr 1015 0,.dptr [I64 c1_],.dptr [LS 1 (LS 1 (E4)) c2_],.dptr [.fn c3__f c3__c],.ptr 1016 0]])]):=by
 unfold G0a at h
 refine Z5 [1015,1018,1016] [.cell 6 91] Tryz.func31 O O (H52 O) (Jr fun e=>(JLh (.ptr 1074 0) (Jt (cs:=[I64 k_.e0,I64 k_.e1]) 1074 O O O O O) O (JLh (.ptr 1075 0) (Ru 1075 [I64 0,I64 0] [E0,E0] Gc5 (zzQ O) O O) O (G4 (e ?_)))))
 refine fzQ [(0,.mp 1018),(2,.fn 32 (Ev c0_ c1_ c2_ c3__f c3__c c4_)),(4,.dptr [I64 k_.e0,I64 k_.e1]),(6,.ptr 1075 0)] [(1015,.box 88 [.mp 1018]),(1018,MP 88 Gs.kv Gd.av m_),(1016,.box 89 [.fn 30 (Eu c1_ c2_ c3__f c3__c)]),(1075,.box 91 [I64 0,I64 0])] 1074 rfl rfl rfl ⟨⟨_,rfl,.boxEq rfl rfl⟩,fmQ O,⟨_,rfl,.boxEq rfl rfl⟩,⟨_,rfl,.boxEq rfl rfl⟩,ø⟩ rfl (Js fun f=>Jr fun g=>(JLm (.mp 1018) O (JLh (.agg [I64 k_.e0,I64 k_.e1]) (Gk Jb5 O O O) O ?_)))
 obtain⟨c,i,h⟩:=Gg h
 refine JLh (.tup [.agg [I64 c.restows,I64 c.next],BL (Gu.has m_ k_)]) (((Kz i) ▸ Haa (av:=Gd.av) (m:=m_) (a:=k_) (Gd.mk 0 0) (.agg #[E0,E0]) O O O O Ra6 Jb0 R39 O)) O (JLm (.tup [.agg [I64 c.restows,I64 c.next],BL (Gu.has m_ k_)]) O (JLh (.agg [I64 c.restows,I64 c.next]) (Hp O O O) O (JLh (BL (Gu.has m_ k_)) (Hp O O O) O (JLh (.ptr 1076 0) (Hg 1076 2 H43 O O) O (Hd (u:=.junk) (Gy (u:=.agg [I64 c.restows,I64 c.next]) (ds:=[I64 c.restows,I64 c.next]) G10 O O O O O O O O) (JLm (BL (Gu.has m_ k_)) O (G4 (g ?_))))))))
 refine fzQ [(0,.mp 1018),(2,.fn 32 (Ev c0_ c1_ c2_ c3__f c3__c c4_)),(4,.dptr [I64 k_.e0,I64 k_.e1]),(6,.ptr 1075 0),(7,.dptr [I64 c.restows,I64 c.next]),(8,BL (Gu.has m_ k_))] [(1015,.box 88 [.mp 1018]),(1018,MP 88 Gs.kv Gd.av m_),(1016,.box 89 [.fn 30 (Eu c1_ c2_ c3__f c3__c)]),(1075,.box 91 [I64 0,I64 0])] 1076 rfl rfl rfl ⟨⟨_,rfl,.boxEq rfl rfl⟩,fmQ O,⟨_,rfl,.boxEq rfl rfl⟩,⟨_,rfl,.boxEq rfl rfl⟩,ø⟩ rfl (Jr fun j=>(JLm (BL (Gu.has m_ k_)) O (G4 (j (JCc O h (fun h hb=>?_) (fun h hb=>?_))))))
 ·
  refine Jr fun k=>(JLh (.agg [I64 c.restows,I64 c.next]) (Gk G1f O O O) O (Hd (u:=.junk) (Gy (u:=.agg [I64 c.restows,I64 c.next]) (ds:=[I64 c.restows,I64 c.next]) G10 O O O O O O O O) (G4 (k (Gw ?_)))))
  obtain rfl:=Kz h
  exact⟨[.agg [I64 c.restows,I64 c.next]],[(1015,.box 88 [.mp 1018]),(1018,MP 88 Gs.kv Gd.av m_),(1016,.box 89 [.fn 30 (Eu c1_ c2_ c3__f c3__c)])],⟨⟨_,O,.boxL O ⟨.same O,ø⟩⟩,⟨_,O,.map⟩,⟨_,O,.boxL O ⟨.same O,ø⟩⟩,ø⟩,O,⟨⟨_,⟨_,_,_,_,O,O,O,.inl ⟨G1f,O⟩⟩,.conv (.same O)⟩,ø⟩,O,O⟩
 ·
  refine Gn (f (Jr fun l=>(JLm (.fn 32 (Ev c0_ c1_ c2_ c3__f c3__c c4_)) O ?_)))
  obtain⟨b,n,h⟩:=Gg h
  refine JLh (.agg [I64 b.1.restows,I64 b.1.next]) (G7c (args:=[]) (caps:=(Ev c0_ c1_ c2_ c3__f c3__c c4_)) (L0:=[(1015,.box 88 [.mp 1018]),(1018,MP 88 Gs.kv Gd.av m_),(1016,.box 89 [.fn 30 (Eu c1_ c2_ c3__f c3__c)])]) (Lr:=[(1015,.box 88 [.mp 1018]),(1018,MP 88 Gs.kv Gd.av b.2),(1016,.box 89 [.fn 30 (Eu c1_ c2_ c3__f c3__c)])]) O O (H5f c0_ c1_ c2_ c3_ c3__f c3__c c3__B c3__d c3__w c4_ m_ self_ self_w b n) Q98 ø O ⟨O,O,O,ø⟩ O O O) O (JLh (.ptr 1077 0) (Hg 1077 2 H43 O O) O (Hd (u:=.junk) (Gy (u:=.agg [I64 b.1.restows,I64 b.1.next]) (ds:=[I64 b.1.restows,I64 b.1.next]) G10 O O O O O O O O) (G4 (l ?_))))
  refine fzQ [(0,.mp 1018),(4,.dptr [I64 k_.e0,I64 k_.e1]),(6,.ptr 1075 0),(9,.dptr [I64 b.1.restows,I64 b.1.next])] [(1015,.box 88 [.mp 1018]),(1018,MP 88 Gs.kv Gd.av b.2),(1016,.box 89 [.fn 30 (Eu c1_ c2_ c3__f c3__c)]),(1075,.box 91 [I64 0,I64 0])] 1077 rfl rfl rfl ⟨⟨_,rfl,.boxEq rfl rfl⟩,fmQ O,⟨_,rfl,.boxEq rfl rfl⟩,⟨_,rfl,.boxEq rfl rfl⟩,ø⟩ rfl ?_
  refine Jr fun o=>(JLm (.mp 1018) O (JLh (.agg [I64 k_.e0,I64 k_.e1]) (Gk Jb5 O O O) O (JLh (.agg [I64 b.1.restows,I64 b.1.next]) (Gk G1f O O O) O (Hd (u:=.junk) (G3f (m:=b.2) (a:=k_) (v:=b.1) O O O O O O Ra6 Jb0) (G4 (o (Jr fun d=>(JLh (.agg [I64 b.1.restows,I64 b.1.next]) (Gk G1f O O O) O (Hd (u:=.junk) (Gy (u:=.agg [I64 b.1.restows,I64 b.1.next]) (ds:=[I64 b.1.restows,I64 b.1.next]) G10 O O O O O O O O) (G4 (d (Gw ?_))))))))))))
  obtain rfl:=Kz h
  exact⟨[.agg [I64 b.1.restows,I64 b.1.next]],[(1015,.box 88 [.mp 1018]),(1018,MP 88 Gs.kv Gd.av (Gu.put b.2 k_ b.1)),(1016,.box 89 [.fn 30 (Eu c1_ c2_ c3__f c3__c)])],⟨⟨_,O,.boxL O ⟨.same O,ø⟩⟩,⟨_,O,.map⟩,⟨_,O,.boxL O ⟨.same O,ø⟩⟩,ø⟩,O,⟨⟨_,⟨_,_,_,_,O,O,O,.inl ⟨G1f,O⟩⟩,.conv (.same O)⟩,ø⟩,O,O⟩

def G88 (k:Int) (i:Int) (b:Gu Gs Gd) (c:Int) (d:List (List (List G1))) (e:(List G1)→(List G1)→Option Int) (self_:Int→Int→Gu Gs Gd→Option (Gd×Gu Gs Gd)):Option (Gd×(Gu Gs Gd)):=
 bnd (G0a (Gs.mk k i) b k c d e i self_) fun a=>
 some (a.1,a.2)
abbrev Ew (a:Int) (b:List (List (List G1))) (p5_f:FuncId) (p5_c:List AV):List AV:=[.ptr 1015 0,.dptr [I64 a],.dptr [LS 1 (LS 1 (E4)) b],.dptr [.fn p5_f p5_c],.ptr 1016 0]
abbrev Ex (k:Int) (a:Int) (b:List (List (List G1))) (p5_f:FuncId) (p5_c:List AV) (i:Int):List AV:=[.dptr [I64 k],.dptr [I64 a],.dptr [LS 1 (LS 1 (E4)) b],.dptr [.fn p5_f p5_c],.dptr [I64 i],.ptr 1016 0]
theorem Ha5 (k:Int) (i:Int) (d:Gu Gs Gd) (a:Int) (b:List (List (List G1))) (e:(List G1)→(List G1)→Option Int) (p5_f:FuncId) (p5_c:List AV) (p5_B:H8 Em p5_f=true) (p5_d:Q3 (fun _=>false) p5_c=true) (p5_w:∀ a0 a1 q,e a0 a1=some q→Pure Em p5_f ([E4 a0,E4 a1]++p5_c) (·=I64 q)) (self_:Int→Int→Gu Gs Gd→Option (Gd×Gu Gs Gd)) (self_w:∀ (q_0:Int) (q_1:Int) (m_:Gu Gs Gd) (r_:Gd×Gu Gs Gd),self_ q_0 q_1 m_=some r_→Jq Em 30 [I64 q_0,I64 q_1,.ptr 1015 0,.dptr [I64 a],.dptr [LS 1 (LS 1 (E4)) b],.dptr [.fn p5_f p5_c],.ptr 1016 0] [(1015,.box 88 [.mp 1018]),(1018,MP 88 Gs.kv Gd.av m_),(1016,.box 89 [.fn 30 [.ptr 1015 0,.dptr [I64 a],.dptr [LS 1 (LS 1 (E4)) b],.dptr [.fn p5_f p5_c],.ptr 1016 0]])] (fun av L'=>av=.agg [I64 r_.1.restows,I64 r_.1.next]∧L'=[(1015,.box 88 [.mp 1018]),(1018,MP 88 Gs.kv Gd.av r_.2),(1016,.box 89 [.fn 30 [.ptr 1015 0,.dptr [I64 a],.dptr [LS 1 (LS 1 (E4)) b],.dptr [.fn p5_f p5_c],.ptr 1016 0]])])) (r:Gd×(Gu Gs Gd)) (h:G88 k i d a b e self_=some r):Jq Em 30 [I64 k,I64 i,.ptr 1015 0,.dptr [I64 a],.dptr [LS 1 (LS 1 (E4)) b],.dptr [.fn p5_f p5_c],.ptr 1016 0] [(1015,.box 88 [.mp 1018]),(1018,MP 88 Gs.kv Gd.av d),(1016,.box 89 [.fn 30 [.ptr 1015 0,.dptr [I64 a],.dptr [LS 1 (LS 1 (E4)) b],.dptr [.fn p5_f p5_c],.ptr 1016 0]])] (fun av L'=>av=.agg [I64 r.1.restows,I64 r.1.next]∧L'=[(1015,.box 88 [.mp 1018]),(1018,MP 88 Gs.kv Gd.av r.2),(1016,.box 89 [.fn 30 [.ptr 1015 0,.dptr [I64 a],.dptr [LS 1 (LS 1 (E4)) b],.dptr [.fn p5_f p5_c],.ptr 1016 0]])]):=by
 unfold G88 at h
 refine Z5 [1015,1018,1016] [.cell 9 91] Tryz.func30 O O (H52 O) (Jr fun f=>(JLh (.ptr 1071 0) (Jt (cs:=[I64 k]) 1071 O O O O O) O (JLh (.ptr 1072 0) (Jt (cs:=[I64 i]) 1072 O O O O O) O (JLh (.ptr 1073 0) (Ru 1073 [I64 0,I64 0] [E0,E0] Gc5 (zzQ O) O O) O (G4 (f ?_))))))
 refine fzQ [(2,.ptr 1015 0),(3,.dptr [I64 a]),(4,.dptr [LS 1 (LS 1 (E4)) b]),(5,.dptr [.fn p5_f p5_c]),(6,.ptr 1016 0),(7,.dptr [I64 k]),(8,.ptr 1072 0),(9,.ptr 1073 0)] [(1015,.box 88 [.mp 1018]),(1018,MP 88 Gs.kv Gd.av d),(1016,.box 89 [.fn 30 (Ew a b p5_f p5_c)]),(1072,.box 3 [I64 i]),(1073,.box 91 [I64 0,I64 0])] 1071 rfl rfl rfl ⟨⟨_,rfl,.boxEq rfl rfl⟩,fmQ O,⟨_,rfl,.boxEq rfl rfl⟩,⟨_,rfl,.boxEq rfl rfl⟩,⟨_,rfl,.boxEq rfl rfl⟩,ø⟩ rfl ?_
 refine fzQ [(2,.ptr 1015 0),(3,.dptr [I64 a]),(4,.dptr [LS 1 (LS 1 (E4)) b]),(5,.dptr [.fn p5_f p5_c]),(6,.ptr 1016 0),(7,.dptr [I64 k]),(8,.dptr [I64 i]),(9,.ptr 1073 0)] [(1015,.box 88 [.mp 1018]),(1018,MP 88 Gs.kv Gd.av d),(1016,.box 89 [.fn 30 (Ew a b p5_f p5_c)]),(1073,.box 91 [I64 0,I64 0])] 1072 rfl rfl rfl ⟨⟨_,rfl,.boxEq rfl rfl⟩,fmQ O,⟨_,rfl,.boxEq rfl rfl⟩,⟨_,rfl,.boxEq rfl rfl⟩,ø⟩ rfl ?_
 refine Jr fun g=>(JLh (.mp 1018) (Jg Je8 O O O O) O (JLh (I64 k) (Ge G9 O O O) O (JLh (I64 i) (Ge G9 O O O) O (JLh (.agg [I64 k,I64 i]) (Hab (cs:=[I64 k,I64 i]) [E0,E0] Qfc Q6c O O) O (JLh (.fn 32 (Ex k a b p5_f p5_c i)) (Y4 (cs:=(Ex k a b p5_f p5_c i)) O O) O ?_)))))
 obtain⟨c,j,h⟩:=Gg h
 refine JLh (.agg [I64 c.1.restows,I64 c.1.next]) (Gf8 (args:=[.mp 1018,.agg [I64 k,I64 i],.fn 32 (Ex k a b p5_f p5_c i)]) (L0:=[(1015,.box 88 [.mp 1018]),(1018,MP 88 Gs.kv Gd.av d),(1016,.box 89 [.fn 30 (Ew a b p5_f p5_c)])]) (Lr:=[(1015,.box 88 [.mp 1018]),(1018,MP 88 Gs.kv Gd.av c.2),(1016,.box 89 [.fn 30 (Ew a b p5_f p5_c)])]) O (Ge3 (Gs.mk k i) d k a b e p5_f p5_c p5_B p5_d p5_w i self_ self_w c j) Q99 ⟨.inl O,O,.inl O,O,.inl O,O,ø⟩ ⟨O,O,O,ø⟩ O O O) O (Hd (u:=.junk) (Gy (u:=.agg [I64 c.1.restows,I64 c.1.next]) (ds:=[I64 c.1.restows,I64 c.1.next]) G10 O O O O O O O O) (G4 (g ?_)))
 refine Gw ?_
 obtain rfl:=Kz h
 exact⟨[.agg [I64 c.1.restows,I64 c.1.next]],[(1015,.box 88 [.mp 1018]),(1018,MP 88 Gs.kv Gd.av c.2),(1016,.box 89 [.fn 30 (Ew a b p5_f p5_c)])],⟨⟨_,O,.boxL O ⟨.same O,ø⟩⟩,⟨_,O,.map⟩,⟨_,O,.boxL O ⟨.same O,ø⟩⟩,ø⟩,O,⟨⟨_,⟨_,_,_,_,O,O,O,.inl ⟨G1f,O⟩⟩,.conv (.same O)⟩,ø⟩,O,O⟩

def Qe:Nat→Int→Int→(Gu Gs Gd)→Int→(List (List (List G1)))→((List G1)→(List G1)→Option Int)→Option (Gd×Gu Gs Gd)
 | 0,_,_,_,_,_,_=>none
 | F+1,k,i,a,b,c,d=>G88 k i a b c d (fun k i a=>Qe F k i a b c d)
theorem G15:∀ (F:Nat) (k:Int) (i:Int) (a:Gu Gs Gd) (b:Int) (c:List (List (List G1))) (d:(List G1)→(List G1)→Option Int) (p5_f:FuncId) (p5_c:List AV) (p5_B:H8 Em p5_f=true) (p5_d:Q3 (fun _=>false) p5_c=true) (p5_w:∀ a0 a1 q,d a0 a1=some q→Pure Em p5_f ([E4 a0,E4 a1]++p5_c) (·=I64 q)) (r:Gd×Gu Gs Gd) (h:Qe F k i a b c d=some r),Jq Em 30 [I64 k,I64 i,.ptr 1015 0,.dptr [I64 b],.dptr [LS 1 (LS 1 (E4)) c],.dptr [.fn p5_f p5_c],.ptr 1016 0] [(1015,.box 88 [.mp 1018]),(1018,MP 88 Gs.kv Gd.av a),(1016,.box 89 [.fn 30 [.ptr 1015 0,.dptr [I64 b],.dptr [LS 1 (LS 1 (E4)) c],.dptr [.fn p5_f p5_c],.ptr 1016 0]])] (fun av L'=>av=.agg [I64 r.1.restows,I64 r.1.next]∧L'=[(1015,.box 88 [.mp 1018]),(1018,MP 88 Gs.kv Gd.av r.2),(1016,.box 89 [.fn 30 [.ptr 1015 0,.dptr [I64 b],.dptr [LS 1 (LS 1 (E4)) c],.dptr [.fn p5_f p5_c],.ptr 1016 0]])]):=by
 intro F
 induction F with
 | zero=>intro k i a b c d p5_f p5_c p5_B p5_d p5_w r h; cases h
 | succ F ih=>intro k i a b c d p5_f p5_c p5_B p5_d p5_w r h; exact Ha5 k i a b c d p5_f p5_c p5_B p5_d p5_w (fun k i a=>Qe F k i a b c d) (fun k i a r_ h_=>ih k i a b c d p5_f p5_c p5_B p5_d p5_w r_ h_) r h

def G9a (x:G1) (a:Int):Option Bool:=
 some (decide (x.Box=a))
theorem J2b (x:G1) (a:Int) (r:Bool) (h:G9a x a=some r):Pure Em 120 [.agg (G1.cs x),.dptr [I64 a]] (·=BL r):=by
 unfold G9a at h
 refine H5 [.tmp 3] Tryz.func120 O O (Jr fun b=>(JLh (.ptr 1174 0) (Jt (cs:=[I64 x.Box,I64 x.Slot.G6,I64 x.Slot.Tier,U8 x.Slot.Half]) 1174 O O O O O) O (JLm (BL false) O (G4 (b (Gh [(1,.dptr [I64 a]),(2,Eg x)] [] 1174 rfl rfl rfl ø rfl (by exact⟨.conv (.same rfl),.ptr,ø⟩) (Jr fun c=>(JLh (Eg x) (Gb Jn O O O) O (JLh (I64 x.Box) (Ge G9 O O O) O (JLh (I64 a) (Ge G9 O O O) O (JLh (BL (decide (x.Box=a))) (Qn O O O) O (JLm (BL (decide (x.Box=a))) O (G4 (c (Gw (fin1 BL h))))))))))))))))

def R7 (s:List G1) (f:G1→Option Bool):Option Int:=
 each (fun b c (d:Unit) a=>
  bnd (f b) fun e=>
  bif e then
  (some (c:Int))
  else
  (a ()))
 (fun(d:Unit)=>
  some (-1)) s 0 ()
theorem G08 (s:List G1) (f:G1→Option Bool) (f_f:FuncId) (f_c:List AV) (f_B:H8 Em f_f=true) (f_d:Q3 (fun _=>false) f_c=true) (f_w:∀ a0 q,f a0=some q→Pure Em f_f ([.agg (G1.cs a0)]++f_c) (·=BL q)) (r:Int) (h:R7 s f=some r):Pure Em 69 [E4 s,.fn f_f f_c] (·=I64 r):=by
 unfold R7 at h
 refine H5 [.tmp 4] Tryz.func69 O O (Jr fun x=>(JLm (I64 0) O (G4 (x (Js fun z=>Jr fun a1=>(JLm (E4 s) O (JLl H3 O O O fun a2=>(JLm (I64 0) O (G4 (a1 (Gi ?_)))))))))))
 obtain⟨a3,i,j,g,h⟩:=Hu h
 refine Hf (fun a (c:Unit)=>each a3 i (List.drop a s) a c=some r) (fun a c=>[(0,E4 s),(1,.fn f_f f_c),(7,Ek s.length),(8,Ek a)]) (fun a c=>[]) (fun a=>s.length - a) 0 () h ⟨⟨.same O,.same (Jm _ _ f_d),.same O,.same O,ø⟩,ø,O⟩ ?_
 clear h
 intro a c d a7 a4
 refine Jr fun k=>(JLh (BL (decide ((a:Int) < (s.length:Int)))) (J8 O O O) O (G4 (k (Js fun l=>Gj O (fun hb=>?_) (fun hb=>?_)))))
 ·
  have e:=Jh hb
  obtain⟨b,a6,m,n,h⟩:=Hk d e
  replace h:=Rh j h
  refine Gn (l (Js fun o=>Gi (Jr fun p=>(JLm (Ek a) O (JLm (Ek a) O (G4 (p (Jr fun t=>(JLm (.fn f_f f_c) O (JLm (E4 s) O (JLm (Ek a) O (JLh (Eg b) (H0 (f:=G1.av) (xs:=s) (y:=b) O O O H3 m O) O (JLh (.agg (G1.cs b)) (Gk Qb O O O) O ?_)))))))))))))
  obtain⟨a5,u,h⟩:=Gg h
  refine JLh (BL a5) (G0c (args:=[.agg (G1.cs b)]) (caps:=f_c) O O (f_w b _ u) f_B ⟨O,O,ø⟩ f_d) O (G4 (t (JCc O h (fun h hb=>?_) (fun h hb=>?_))))
  ·
   refine Jr fun v=>(JLm (Ek a) O (JLm (Ek a) O (G4 (v (Gw (fin1 I64 h))))))
  ·
   refine Gn (o (G2 (JLh (I64 ((a+1:Nat):Int)) (Ht (H7 e a2) O O O) O (JLm (I64 ((a+1:Nat):Int)) O (G4 (a4 _ _ (a+1) () (app1 n h) (by omega) ⟨⟨.same rfl,.same (Jm _ _ f_d),.same rfl,.same rfl,ø⟩,ø,rfl⟩))))))
 ·
  have h:=app1 g (Hm d (H6 hb))
  refine Hj (z (Jr fun w=>(JLm (I64 (-1)) O (G4 (w (Gw (fin1 I64 h)))))))

def Ga8 (l:List G1) (id_:Int):Option (Slot×Bool):=
 bnd (R7 l (fun z0=>G9a z0 id_)) fun a=>
 bif decide (a < 0) then
 (some ((Slot.mk 0 0 0),false))
 else
 (Ju l a fun b=>
  some (b.Slot,true))
theorem H06 (l:List G1) (id_:Int) (r:Slot×Bool) (h:Ga8 l id_=some r):Pure Em 85 [E4 l,I64 id_] (·=.tup [.agg (Slot.cs r.1),BL r.2]):=by
 unfold Ga8 at h
 refine H5 [.cell 4 63,.tmp 5] Tryz.func85 O O (Jr fun c=>(JLh (.ptr 1147 0) (Jt (cs:=[I64 id_]) 1147 O O O O O) O (JLh (.ptr 1148 0) (Ru 1148 [I64 0,I64 0,U8 0] [E0,E0,.int .u8 0] G80 (zzQ O) O O) O (JLm (BL false) O (G4 (c (Gh [(0,E4 l),(3,.dptr [I64 id_]),(4,.ptr 1148 0)] [(1148,.box 63 [I64 0,I64 0,U8 0])] 1147 rfl rfl rfl ⟨⟨_,rfl,.boxEq rfl rfl⟩,ø⟩ rfl (by exact⟨.conv (.same rfl),.ptr,.conv (.same rfl),ø⟩) (Jr fun d=>(JLm (E4 l) O (JLh (.fn 120 [.dptr [I64 id_]]) (Y4 (cs:=[.dptr [I64 id_]]) O O) O ?_))))))))))
 obtain⟨b,e,h⟩:=Gg h
 refine JLh (I64 b) (H2 O (G08 l (fun z0=>G9a z0 id_) 120 [.dptr [I64 id_]] Q23 O (fun z0 q hq=>J2b z0 id_ q hq) b e) J50 ⟨O,O,O,O,ø⟩) O (JLm (I64 b) O (G4 (d (Js fun g=>Jr fun i=>(JLm (I64 b) O (JLh (BL (decide (b < 0))) (J8 O O O) O (G4 (i (JCc O h (fun h hb=>?_) (fun h hb=>?_))))))))))
 ·
  refine Jr fun j=>(JLh (.agg [I64 0,I64 0,U8 0]) (J9 (cs:=[I64 0,I64 0,U8 0]) [(0,1),(1,1),(2,1)] [I64 0,I64 0,U8 0] [E0,E0,.int .u8 0] G64 G80 (zzQ O) O O) O (Hd (u:=.junk) (Gy (u:=.agg [I64 0,I64 0,U8 0]) (ds:=[I64 0,I64 0,U8 0]) G11 O O O O O O O O) (JLm (BL false) O (G4 (j (Gw (⟨[.agg [I64 0,I64 0,U8 0],BL false],[],ø,O,⟨⟨_,⟨_,_,_,_,O,O,O,.inl ⟨Jw,O⟩⟩,.conv (.same O)⟩,⟨_,O,.conv (.same O)⟩,ø⟩,O,congrArg (fun r:Slot×Bool=>(.tup [.agg (Slot.cs r.1),BL r.2]:AV)) (Kz h)⟩)))))))
 ·
  refine Gn (g (Jr fun k=>(JLm (E4 l) O (JLm (I64 b) O ?_))))
  obtain⟨o,a,m,n,h⟩:=Qc h
  refine JLh (Eg a) (H0 (f:=G1.av) (xs:=l) (y:=a) O O O H3 n m) O (JLh (.dptr ((G1.cs a).drop 1)) (Gb Jx O O O) O (JLh (.agg ((G1.cs a).drop 1)) (Gk Jw O O O) O (Hd (u:=.junk) (Gy (u:=.agg ((G1.cs a).drop 1)) (ds:=[I64 a.Slot.G6,I64 a.Slot.Tier,U8 a.Slot.Half]) G11 O O O O O O O O) (JLm (BL true) O (G4 (k (Gw (⟨[.agg ((G1.cs a).drop 1),BL true],[],ø,O,⟨⟨_,⟨_,_,_,_,O,O,O,.inl ⟨Jw,O⟩⟩,.conv (.same O)⟩,⟨_,O,.conv (.same O)⟩,ø⟩,O,congrArg (fun r:Slot×Bool=>(.tup [.agg (Slot.cs r.1),BL r.2]:AV)) (Kz h)⟩))))))))

def G4c (r_:Int) (a:G6):Option Bool:=
 some (decide (r_=a.Row))
theorem Hd1 (r_:Int) (a:G6) (r:Bool) (h:G4c r_ a=some r):Pure Em 164 [I64 r_,Eh a] (·=BL r):=by
 unfold G4c at h
 refine H5 [.tmp 3] Tryz.func164 O O (Jr fun b=>(JLm (BL false) O (G4 (b (Jr fun c=>(JLm (I64 r_) O (JLh (.dptr ((G6.cs a).drop 1)) (Gb G1d O O O) O (JLh (I64 a.Row) (Ge G9 O O O) O (JLh (BL (decide (r_=a.Row))) (Qn O O O) O (JLm (BL (decide (r_=a.Row))) O (G4 (c (Gw (fin1 BL h))))))))))))))

def G76 (l:List Int) (wanted:Int→Option Bool):Option (List Int):=
 each (fun e b (a:(List Int)) d=>
  jp (fun c=>
   bnd (wanted e) fun f=>
   bif f then
   (need (decide ((a.length+[(b:Int)].length)*8≤140737488355328∧a.length+[(b:Int)].length≤maxLen)) <|
    c (a++[(b:Int)]))
   else
   (c a)) fun(g:(List Int))=>
  d g)
 (fun(a:(List Int))=>
  some a) l 0 []
theorem H76 (l:List Int) (wanted:Int→Option Bool) (wanted_f:FuncId) (wanted_c:List AV) (wanted_B:H8 Em wanted_f=true) (wanted_d:Q3 (fun _=>false) wanted_c=true) (wanted_w:∀ a0 q,wanted a0=some q→Pure Em wanted_f ([I64 a0]++wanted_c) (·=BL q)) (r:(List Int)) (h:G76 l wanted=some r):Pure Em 163 [E5 l,.fn wanted_f wanted_c] (·=E5 r):=by
 unfold G76 at h
 refine H5 [.tmp 4] Tryz.func163 O O (Jr fun a1=>(JLh (E5 ([]:List Int)) (Q6 1 O O) O (G4 (a1 (Jr fun a2=>(JLh (OW 1180 1 I64 ([]:List Int)) (G31 1180 3 1 O O O) O (G4 (a2 (Js fun a3=>Jr fun a4=>(JLm (E5 l) O (JLl Gv O O O fun a5=>(JLm (I64 0) O (G4 (a4 (Gi ?_)))))))))))))))
 obtain⟨a6,k,m,i,h⟩:=Hu h
 refine Hf (fun a (b:(List Int))=>each a6 k (List.drop a l) a b=some r) (fun a b=>[(1,.fn wanted_f wanted_c),(5,OW 1180 1 I64 b),(8,E5 l),(9,Ek l.length),(10,Ek a)]) (fun a b=>[(1180,.spare 3 1 b.length b.length)]) (fun a=>l.length - a) 0 [] h ⟨⟨.same (Jm _ _ wanted_d),.same O,.same O,.same O,.same O,ø⟩,⟨⟨_,O,.same⟩,ø⟩,O⟩ ?_
 clear h
 intro a b e b0 a7
 refine Jr fun n=>(JLh (BL (decide ((a:Int) < (l.length:Int)))) (J8 O O O) O (G4 (n (Js fun o=>Gj O (fun hb=>?_) (fun hb=>?_)))))
 ·
  have g:=Jh hb
  obtain⟨d,a9,p,s,h⟩:=Hk e g
  replace h:=Rh m h
  refine Gn (o ?_)
  obtain⟨t,j,h⟩:=Qr h
  refine Q0 (fun c:(List Int)=>t c=some r) (fun c=>[(1,.fn wanted_f wanted_c),(5,OW 1180 1 I64 c),(8,E5 l),(9,Ek l.length),(10,Ek a)]) (fun c=>[(1180,.spare 3 1 c.length c.length)]) (fun Kj24 ej24=>?_) ?_
  ·
   refine Gi (Jr fun u=>(JLm (Ek a) O (JLh (.dptr [I64 d]) (H0 (f:=I64) (xs:=l) (y:=d) O O O Gv p O) O (JLh (I64 d) (Ge G9 O O O) O (JLm (Ek a) O (JLm (I64 d) O (G4 (u (Jr fun v=>(JLm (.fn wanted_f wanted_c) O (JLm (I64 d) O ?_)))))))))))
   obtain⟨a8,w,h⟩:=Gg h
   refine JLh (BL a8) (G0c (args:=[I64 d]) (caps:=wanted_c) O O (wanted_w d _ w) wanted_B ⟨O,O,ø⟩ wanted_d) O (G4 (v (JCc O h (fun h hb=>?_) (fun h hb=>?_))))
   ·
    refine G2 (JLm (OW 1180 1 I64 b) O (JLm (Ek a) O (JLh (E5 [(a:Int)]) (He (xs:=[Ek a]) O ⟨O,O,ø⟩ Gv Rm O O O O) O ?_)))
    obtain⟨x,h⟩:=Hw h
    refine JLh (OW 1180 1 I64 (b++[(a:Int)])) (Qt (f:=I64) (xs:=b) (ys:=[(a:Int)]) O O O O Gv G36 x (fun _=>O) (.inl O) O) O (JLm (OW 1180 1 I64 (b++[(a:Int)])) O (G4 (ej24 _ _ (b++[(a:Int)]) h ⟨⟨.same (Jm _ _ wanted_d),.same O,.same O,.same O,.same O,ø⟩,⟨⟨_,O,.same⟩,ø⟩,O⟩)))
   ·
    refine Gn (ej24 _ _ b h ⟨⟨.same (Jm _ _ wanted_d),.same O,.same O,.same O,.same O,ø⟩,⟨⟨_,O,.same⟩,ø⟩,O⟩)
  ·intro c h
   replace h:=app1 j h
   refine G2 (JLh (I64 ((a+1:Nat):Int)) (Ht (H7 g a5) O O O) O (JLm (I64 ((a+1:Nat):Int)) O (G4 (a7 _ _ (a+1) c (app1 s h) (by omega) ⟨⟨.same (Jm _ _ wanted_d),.same rfl,.same rfl,.same rfl,.same rfl,ø⟩,⟨⟨_,rfl,.same⟩,ø⟩,rfl⟩))))
 ·
  have h:=app1 i (Hm e (H6 hb))
  refine Hj (a3 (Jr fun z=>(JLm (OW 1180 1 I64 b) O (JLm (OW 1180 1 I64 b) O (G4 (z (Gw (fin1l (fun r:(List Int)=>(E5 r:AV)) h))))))))

def H03 (x:Gx) (c:G6):Option Bool:=
 bnd (bif decide (x.Bay=c.Bay) then G76 x.Rows (fun z0=>G4c z0 c) else some default) fun a=>
 some ((decide (x.Bay=c.Bay))&&(decide (0 < (a.length:Int))))
theorem J28 (x:Gx) (c:G6) (r:Bool) (h:H03 x c=some r):Pure Em 143 [.agg [I64 x.Bay,E5 x.Rows],.agg (G6.cs c)] (·=BL r):=by
 unfold H03 at h
 refine H5 [.tmp 4] Tryz.func143 O O (Jr fun b=>(JLh (.ptr 1178 0) (Jt (cs:=[I64 x.Bay,E5 x.Rows]) 1178 O O O O O) O (JLh (.ptr 1179 0) (Jt (cs:=(G6.cs c)) 1179 O O O O O) O (JLm (BL false) O (G4 (b (Gh [(2,.dptr [I64 x.Bay,E5 x.Rows]),(3,.ptr 1179 0)] [(1179,.box 41 (G6.cs c))] 1178 rfl rfl rfl ⟨⟨_,rfl,.boxEq rfl rfl⟩,ø⟩ rfl (by exact⟨.ptr,.conv (.same rfl),ø⟩) ?_)))))))
 refine Gh [(2,.dptr [I64 x.Bay,E5 x.Rows]),(3,Eh c)] [] 1179 rfl rfl rfl ø rfl (by exact⟨.conv (.same rfl),.ptr,ø⟩) (Jr fun d=>(JLh (.dptr [I64 x.Bay,E5 x.Rows]) (Gb G66 O O O) O (JLh (I64 x.Bay) (Ge G9 O O O) O (JLh (Eh c) (Gb G1e O O O) O (JLh (I64 c.Bay) (Ge G9 O O O) O (JLh (BL (decide (x.Bay=c.Bay))) (Qn O O O) O (JLm (BL (decide (x.Bay=c.Bay))) O (JLo (.dptr [E5 x.Rows]) [] O .sct ø (fun hc=>Gb G65 O O O) O (JLo (E5 x.Rows) [11] O .sct ⟨Ua,ø⟩ (fun hc=>Ge Q8 O O O) O (JLo (.fn 164 [.dptr (G6.cs c)]) [] O .sct ø (fun hc=>Y4 (cs:=[.dptr (G6.cs c)]) O O) O ?_))))))))))
 obtain⟨a,e,h⟩:=Gg h
 refine JLo (E5 a) [12,13] O .sct ⟨Ua,Ua,ø⟩ (fun hc=>H2 (args:=[E5 x.Rows,.fn 164 [.dptr (G6.cs c)]]) O (H76 x.Rows (fun z0=>G4c z0 c) 164 [.dptr (G6.cs c)] Q1e O (fun z0 q hq=>Hd1 z0 c q hq) a (H9 hc e)) Q1f ⟨O,O,O,O,ø⟩) O (JLo (Ek a.length) [14] O .sct ⟨Ua,ø⟩ (fun hc=>G24 (f:=I64) (xs:=a) Gv O O) O (JLo (BL (decide (0 < (a.length:Int)))) [15] O .sct ⟨Ua,ø⟩ (fun hc=>G1b O O O) O (JLh (BL ((decide (x.Bay=c.Bay))&&(decide (0 < (a.length:Int))))) (Rg O O O O) O (JLm (BL ((decide (x.Bay=c.Bay))&&(decide (0 < (a.length:Int))))) O (G4 (d (Gw (fin1 BL h))))))))

def G3c (x:Gx) (a:Gf) (b:Int):Option Bool:=
 Ju a.Columns b fun c=>
 bnd (H03 x c) fun d=>
 some d
theorem Ha6 (x:Gx) (a:Gf) (c:Int) (r:Bool) (h:G3c x a c=some r):Pure Em 142 [.agg [I64 x.Bay,E5 x.Rows],Ef a,.dptr [I64 c]] (·=BL r):=by
 unfold G3c at h
 refine H5 [.tmp 4] Tryz.func142 O O (Jr fun e=>(JLh (.ptr 1177 0) (Jt (cs:=[I64 x.Bay,E5 x.Rows]) 1177 O O O O O) O (JLm (BL false) O (G4 (e (Gh [(1,Ef a),(2,.dptr [I64 c]),(3,.dptr [I64 x.Bay,E5 x.Rows])] [] 1177 rfl rfl rfl ø rfl (by exact⟨.conv (.same rfl),.conv (.same rfl),.ptr,ø⟩) (Js fun g=>?_)))))))
 obtain⟨l,b,i,j,h⟩:=Qc h
 obtain⟨d,k,h⟩:=Gg h
 refine JC_d0 Q7 (by kernel_rfl) (Dq (.agg [I64 x.Bay,E5 x.Rows]) (Gk H21 O O O) O (Dq (Ef a) (Gb Ho O O O) O (Dq (E7 a.Columns) (Ge J2 O O O) O (Dq (I64 c) (Ge G9 O O O) O (Dq (Eh b) (H0 (f:=G6.av) (xs:=a.Columns) (y:=b) O O O Hr j i) O (Dq (.agg (G6.cs b)) (Gk G37 O O O) O (Dq (BL d) (H2 (args:=[.agg [I64 x.Bay,E5 x.Rows],.agg (G6.cs b)]) O (J28 x b d k) Q20 ⟨O,O,O,O,ø⟩) O (Dq (BL d) (G7 O O) O (Dnil (g (Gw (fin1 BL h))))))))))))

def G14 (l:List Gx) (wanted:Gx→Option Bool):Option (List Int):=
 each (fun e b (a:(List Int)) d=>
  jp (fun c=>
   bnd (wanted e) fun f=>
   bif f then
   (need (decide ((a.length+[(b:Int)].length)*8≤140737488355328∧a.length+[(b:Int)].length≤maxLen)) <|
    c (a++[(b:Int)]))
   else
   (c a)) fun(g:(List Int))=>
  d g)
 (fun(a:(List Int))=>
  some a) l 0 []
theorem H04 (l:List Gx) (wanted:Gx→Option Bool) (wanted_f:FuncId) (wanted_c:List AV) (wanted_B:H8 Em wanted_f=true) (wanted_d:Q3 (fun _=>false) wanted_c=true) (wanted_w:∀ a0 q,wanted a0=some q→Pure Em wanted_f ([.agg [I64 a0.Bay,E5 a0.Rows]]++wanted_c) (·=BL q)) (r:(List Int)) (h:G14 l wanted=some r):Pure Em 141 [Eb l,.fn wanted_f wanted_c] (·=E5 r):=by
 unfold G14 at h
 refine H5 [.tmp 4] Tryz.func141 O O (Jr fun a2=>(JLh (E5 ([]:List Int)) (Q6 1 O O) O (G4 (a2 (Jr fun a3=>(JLh (OW 1175 1 I64 ([]:List Int)) (G31 1175 3 1 O O O) O (G4 (a3 (Js fun a4=>Jr fun a5=>(JLm (Eb l) O (JLl Zf O O O fun a6=>(JLm (I64 0) O (G4 (a5 (Gi ?_)))))))))))))))
 obtain⟨a7,k,m,i,h⟩:=Hu h
 refine Hf (fun a (b:(List Int))=>each a7 k (List.drop a l) a b=some r) (fun a b=>[(1,.fn wanted_f wanted_c),(5,OW 1175 1 I64 b),(8,Eb l),(9,Ek l.length),(10,Ek a)]) (fun a b=>[(1175,.spare 3 1 b.length b.length)]) (fun a=>l.length - a) 0 [] h ⟨⟨.same (Jm _ _ wanted_d),.same O,.same O,.same O,.same O,ø⟩,⟨⟨_,O,.same⟩,ø⟩,O⟩ ?_
 clear h
 intro a b e b1 a8
 refine Jr fun n=>(JLh (BL (decide ((a:Int) < (l.length:Int)))) (J8 O O O) O (G4 (n (Js fun o=>Gj O (fun hb=>?_) (fun hb=>?_)))))
 ·
  have g:=Jh hb
  obtain⟨c,b0,p,s,h⟩:=Hk e g
  replace h:=Rh m h
  refine Gn (o ?_)
  obtain⟨t,j,h⟩:=Qr h
  refine Q0 (fun d:(List Int)=>t d=some r) (fun d=>[(1,.fn wanted_f wanted_c),(5,OW 1175 1 I64 d),(8,Eb l),(9,Ek l.length),(10,Ek a)]) (fun d=>[(1175,.spare 3 1 d.length d.length)]) (fun Kj24 ej24=>?_) ?_
  ·
   refine Gi (Jr fun v=>(JLm (Ek a) O (JLh (.dptr [I64 c.Bay,E5 c.Rows]) (H0 (f:=Gx.av) (xs:=l) (y:=c) O O O Zf p O) O (JLh (.agg [I64 c.Bay,E5 c.Rows]) (Gk H21 O O O) O (JLh (.ptr 1176 0) (Hg 1176 2 Gb5 O O) O (JLm (Ek a) O (Hd (u:=.junk) (Gy (u:=.agg [I64 c.Bay,E5 c.Rows]) (ds:=[I64 c.Bay,E5 c.Rows]) J01 O O O O O O O O) (G4 (v ?_)))))))))
   refine Gh [(1,.fn wanted_f wanted_c),(5,OW 1175 1 I64 b),(6,Ek a),(7,.dptr [I64 c.Bay,E5 c.Rows]),(8,Eb l),(9,Ek l.length),(10,Ek a)] [(1175,.spare 3 1 b.length b.length)] 1176 rfl rfl rfl ⟨⟨_,rfl,.same⟩,ø⟩ rfl (by exact⟨.conv (.same (Jm _ _ wanted_d)),.conv (.same rfl),.conv (.same rfl),.ptr,.conv (.same rfl),.conv (.same rfl),.conv (.same rfl),ø⟩) (Jr fun w=>(JLm (.fn wanted_f wanted_c) O (JLh (.agg [I64 c.Bay,E5 c.Rows]) (Gk H21 O O O) O ?_)))
   obtain⟨a9,x,h⟩:=Gg h
   refine JLh (BL a9) (G0c (args:=[.agg [I64 c.Bay,E5 c.Rows]]) (caps:=wanted_c) O O (wanted_w c _ x) wanted_B ⟨O,O,ø⟩ wanted_d) O (G4 (w (JCc O h (fun h hb=>?_) (fun h hb=>?_))))
   ·
    refine G2 (JLm (OW 1175 1 I64 b) O (JLm (Ek a) O (JLh (E5 [(a:Int)]) (He (xs:=[Ek a]) O ⟨O,O,ø⟩ Gv Rm O O O O) O ?_)))
    obtain⟨z,h⟩:=Hw h
    refine JLh (OW 1175 1 I64 (b++[(a:Int)])) (Qt (f:=I64) (xs:=b) (ys:=[(a:Int)]) O O O O Gv G36 z (fun _=>O) (.inl O) O) O (JLm (OW 1175 1 I64 (b++[(a:Int)])) O (G4 (ej24 _ _ (b++[(a:Int)]) h ⟨⟨.same (Jm _ _ wanted_d),.same O,.same O,.same O,.same O,ø⟩,⟨⟨_,O,.same⟩,ø⟩,O⟩)))
   ·
    refine Gn (ej24 _ _ b h ⟨⟨.same (Jm _ _ wanted_d),.same O,.same O,.same O,.same O,ø⟩,⟨⟨_,O,.same⟩,ø⟩,O⟩)
  ·intro d h
   replace h:=app1 j h
   refine G2 (JLh (I64 ((a+1:Nat):Int)) (Ht (H7 g a6) O O O) O (JLm (I64 ((a+1:Nat):Int)) O (G4 (a8 _ _ (a+1) d (app1 s h) (by omega) ⟨⟨.same (Jm _ _ wanted_d),.same rfl,.same rfl,.same rfl,.same rfl,ø⟩,⟨⟨_,rfl,.same⟩,ø⟩,rfl⟩))))
 ·
  have h:=app1 i (Hm e (H6 hb))
  refine Hj (a4 (Jr fun a1=>(JLm (OW 1175 1 I64 b) O (JLm (OW 1175 1 I64 b) O (G4 (a1 (Gw (fin1l (fun r:(List Int)=>(E5 r:AV)) h))))))))

def G78 (s:Gf) (column:Int):Option Int:=
 bif ((decide (column < 0))||(decide ((s.Columns.length:Int)≤column))) then
 (some (-1))
 else
 (bnd (G14 s.Covers (fun z0=>G3c z0 s column)) fun a=>
  bif decide ((a.length:Int)=0) then
  (some (-1))
  else
  (Ju a 0 fun b=>
   some b))
theorem H12 (s:Gf) (column:Int) (r:Int) (h:G78 s column=some r):Pure Em 110 [.agg (Gf.cs s),I64 column] (·=I64 r):=by
 unfold G78 at h
 refine H5 [.tmp 4] Tryz.func110 O O (Jr fun g=>(JLh (.ptr 1168 0) (Jt (cs:=(Gf.cs s)) 1168 O O O O O) O (JLh (.ptr 1169 0) (Jt (cs:=[I64 column]) 1169 O O O O O) O (JLm (I64 0) O (G4 (g (Gh [(2,Ef s),(3,.ptr 1169 0)] [(1169,.box 3 [I64 column])] 1168 rfl rfl rfl ⟨⟨_,rfl,.boxEq rfl rfl⟩,ø⟩ rfl (by exact⟨.ptr,.conv (.same rfl),ø⟩) (Gh [(2,Ef s),(3,.dptr [I64 column])] [] 1169 rfl rfl rfl ø rfl (by exact⟨.conv (.same rfl),.ptr,ø⟩) (Js fun i=>?_)))))))))
 refine Jr fun j=>(JLh (I64 column) (Ge G9 O O O) O (JLh (BL (decide (column < 0))) (J8 O O O) O (JLm (BL (decide (column < 0))) O (JLo (I64 column) [] O .scf ø (fun hc=>Ge G9 O O O) O (JLo (Ef s) [] O .scf ø (fun hc=>Gb Ho O O O) O (JLo (E7 s.Columns) [10] O .scf ⟨Ua,ø⟩ (fun hc=>Ge J2 O O O) O (JLo (Ek s.Columns.length) [11] O .scf ⟨Ua,ø⟩ (fun hc=>G24 (f:=G6.av) (xs:=s.Columns) Hr O O) O (JLo (BL (decide ((s.Columns.length:Int)≤column))) [9,12] O .scf ⟨Ua,Ua,ø⟩ (fun hc=>Gdd O O O) O (JLh (BL ((decide (column < 0))||(decide ((s.Columns.length:Int)≤column)))) (G18 O O O O) O (G4 (j (JCc O h (fun h hb=>?_) (fun h hb=>?_)))))))))))))
 ·
  refine Jr fun k=>(JLm (I64 (-1)) O (G4 (k (Gw (fin1 I64 h)))))
 ·
  refine Gn (i (Jr fun l=>(JLh (.dptr ((Gf.cs s).drop 1)) (Gb Zw O O O) O (JLh (Eb s.Covers) (Ge G63 O O O) O (JLh (.fn 142 [.dptr (Gf.cs s),.dptr [I64 column]]) (Y4 (cs:=[.dptr (Gf.cs s),.dptr [I64 column]]) O O) O ?_)))))
  obtain⟨a,m,h⟩:=Gg h
  refine JLh (E5 a) (H2 O (H04 s.Covers (fun z0=>G3c z0 s column) 142 [.dptr (Gf.cs s),.dptr [I64 column]] Q21 O (fun z0 q hq=>Ha6 z0 s column q hq) a m) Q22 ⟨O,O,O,O,ø⟩) O (JLm (E5 a) O (G4 (l (Js fun n=>Jr fun o=>(JLm (E5 a) O (JLl Gv O O O fun t=>(JLh (BL (decide ((a.length:Int)=0))) (Qn O O O) O (G4 (o (JCc O h (fun h hb=>?_) (fun h hb=>?_)))))))))))
  ·
   refine Jr fun p=>(JLm (I64 (-1)) O (G4 (p (Gw (fin1 I64 h)))))
  ·
   refine Gn (n (Jr fun c=>(JLm (E5 a) O ?_)))
   obtain⟨u,b,d,e,h⟩:=Qc h
   refine JLh (.dptr [I64 b]) (H0 (f:=I64) (xs:=a) (y:=b) O O O Gv e d) O (JLh (I64 b) (Ge G9 O O O) O (JLm (I64 b) O (G4 (c (Gw (fin1 I64 h))))))

def Ga2 (a:Slot) (b:Slot):Option Bool:=
 bnd (bif ((decide (a.G6=b.G6))&&(decide (b.Tier < a.Tier))) then G23 a.Half b.Half else some default) fun c=>
 some (((decide (a.G6=b.G6))&&(decide (b.Tier < a.Tier)))&&c)
theorem Ja6 (a:Slot) (b:Slot) (r:Bool) (h:Ga2 a b=some r):Pure Em 111 [.agg [I64 a.G6,I64 a.Tier,U8 a.Half],.agg [I64 b.G6,I64 b.Tier,U8 b.Half]] (·=BL r):=by
 unfold Ga2 at h
 refine H5 [.tmp 4] Tryz.func111 O O (Jr fun d=>(JLh (.ptr 1170 0) (Jt (cs:=[I64 a.G6,I64 a.Tier,U8 a.Half]) 1170 O O O O O) O (JLh (.ptr 1171 0) (Jt (cs:=[I64 b.G6,I64 b.Tier,U8 b.Half]) 1171 O O O O O) O (JLm (BL false) O (G4 (d (Gh [(2,.dptr [I64 a.G6,I64 a.Tier,U8 a.Half]),(3,.ptr 1171 0)] [(1171,.box 63 [I64 b.G6,I64 b.Tier,U8 b.Half])] 1170 rfl rfl rfl ⟨⟨_,rfl,.boxEq rfl rfl⟩,ø⟩ rfl (by exact⟨.ptr,.conv (.same rfl),ø⟩) (Gh [(2,.dptr [I64 a.G6,I64 a.Tier,U8 a.Half]),(3,.dptr [I64 b.G6,I64 b.Tier,U8 b.Half])] [] 1171 rfl rfl rfl ø rfl (by exact⟨.conv (.same rfl),.ptr,ø⟩) ?_))))))))
 refine Jr fun e=>(JLh (.dptr [I64 a.G6,I64 a.Tier,U8 a.Half]) (Gb Jy O O O) O (JLh (I64 a.G6) (Ge G9 O O O) O (JLh (.dptr [I64 b.G6,I64 b.Tier,U8 b.Half]) (Gb Jy O O O) O (JLh (I64 b.G6) (Ge G9 O O O) O (JLh (BL (decide (a.G6=b.G6))) (Qn O O O) O (JLm (BL (decide (a.G6=b.G6))) O (JLo (.dptr [I64 a.Tier,U8 a.Half]) [] O .sct ø (fun hc=>Gb R6 O O O) O (JLo (I64 a.Tier) [11] O .sct ⟨Ua,ø⟩ (fun hc=>Ge G9 O O O) O (JLo (.dptr [I64 b.Tier,U8 b.Half]) [] O .sct ø (fun hc=>Gb R6 O O O) O (JLo (I64 b.Tier) [13] O .sct ⟨Ua,ø⟩ (fun hc=>Ge G9 O O O) O (JLo (BL (decide (b.Tier < a.Tier))) [12,14] O .sct ⟨Ua,Ua,ø⟩ (fun hc=>G1b O O O) O (JLh (BL ((decide (a.G6=b.G6))&&(decide (b.Tier < a.Tier)))) (Rg O O O O) O (JLm (BL ((decide (a.G6=b.G6))&&(decide (b.Tier < a.Tier)))) O ?_)))))))))))))
 refine JLo (.dptr [U8 a.Half]) [] O .sct ø (fun hc=>Gb R5 O O O) O (JLo (U8 a.Half) [18] O .sct ⟨Ua,ø⟩ (fun hc=>Ge Hz O O O) O (JLo (.dptr [U8 b.Half]) [] O .sct ø (fun hc=>Gb R5 O O O) O (JLo (U8 b.Half) [20] O .sct ⟨Ua,ø⟩ (fun hc=>Ge Hz O O O) O ?_)))
 obtain⟨c,f,h⟩:=Gg h
 refine JLo (BL c) [19,21] O .sct ⟨Ua,Ua,ø⟩ (fun hc=>H2 (args:=[U8 a.Half,U8 b.Half]) O (H39 a.Half b.Half c (H9 hc f)) J4d ⟨O,O,O,O,ø⟩) O (JLh (BL (((decide (a.G6=b.G6))&&(decide (b.Tier < a.Tier)))&&c)) (Rg O O O O) O (JLm (BL (((decide (a.G6=b.G6))&&(decide (b.Tier < a.Tier)))&&c)) O (G4 (e (Gw (fin1 BL h))))))

def G55 (m:Gu Int Unit) (k:Int):Option (Bool×(Gu Int Unit)):=
 bif (Gu.has m k) then
 (some (false,m))
 else
 (some (true,(Gu.put m k ())))
theorem Ga7 (m:Gu Int Unit) (k:Int) (r:Bool×(Gu Int Unit)) (h:G55 m k=some r):Jq Em 109 [.mp 1136,I64 k] [(1136,MP 197 Kj (fun _:Unit=>.agg []) m)] (fun av L'=>av=BL r.1∧L'=[(1136,MP 197 Kj (fun _:Unit=>.agg []) r.2)]):=by
 unfold G55 at h
 refine Z5 [1136] [.tmp 4] Tryz.func109 O O (H52 O) (Jr fun b=>(JLm (BL false) O (G4 (b (Js fun c=>Jr fun d=>(JLm (.mp 1136) O (JLm (I64 k) O (JLh (.tup [.agg [],BL (Gu.has m k)]) (Haa (av:=(fun _:Unit=>.agg [])) (m:=m) (a:=k) () (.agg #[]) O O O O Qf5 J3c Qf7 O) O (JLm (.tup [.agg [],BL (Gu.has m k)]) O (JLh (.agg []) (Hp O O O) O (JLh (BL (Gu.has m k)) (Hp O O O) O (JLh (.ptr 1167 0) (Hg 1167 0 Je4 O O) O (Hd (u:=.junk) (R5e (u:=.agg []) Q19 O O O O O O) (JLm (BL (Gu.has m k)) O (G4 (d ?_))))))))))))))))
 refine Gh [(0,.mp 1136),(1,I64 k),(6,BL (Gu.has m k))] [(1136,MP 197 Kj (fun _:Unit=>.agg []) m)] 1167 rfl rfl rfl ⟨fmQ O,ø⟩ rfl (by exact⟨.conv (.same rfl),.conv (.same rfl),.conv (.same rfl),ø⟩) (Jr fun e=>(JLm (BL (Gu.has m k)) O (G4 (e (JCc O h (fun h hb=>?_) (fun h hb=>?_))))))
 ·
  refine Jr fun f=>(JLm (BL false) O (G4 (f (Gw ?_))))
  obtain rfl:=Kz h
  exact⟨[BL false],[(1136,MP 197 Kj (fun _:Unit=>.agg []) m)],⟨⟨_,O,.map⟩,ø⟩,O,⟨⟨_,O,.conv (.same O)⟩,ø⟩,O,O⟩
 ·
  refine Gn (c (Jr fun g=>(JLm (.mp 1136) O (JLm (I64 k) O (JLh (.agg []) (J9 (cs:=[]) [] [] [] J98 Q18 ø O O) O (Hd (u:=.junk) (G3f (m:=m) (a:=k) (v:=()) O O O O O O Qf5 J3c) (G4 (g (Jr fun i=>(JLm (BL true) O (G4 (i (Gw ?_)))))))))))))
  obtain rfl:=Kz h
  exact⟨[BL true],[(1136,MP 197 Kj (fun _:Unit=>.agg []) (Gu.put m k ()))],⟨⟨_,O,.map⟩,ø⟩,O,⟨⟨_,O,.conv (.same O)⟩,ø⟩,O,O⟩

def Gb0 (self_:Int→(Gu Int Unit)→(List Int)→(List (List G1))→Gf→Option ((Gu Int Unit)×(List Int))) (F:Nat) (id_:Int) (p1:Gu Int Unit) (p:List Int) (q:List (List G1)) (i:Gf):Option ((Gu Int Unit)×(List Int)):=
 bnd (G55 p1 id_) fun w=>
 bif (!w.1) then
 (some (w.2,p))
 else
 (need (decide ((p.length+[id_].length)*8≤140737488355328∧p.length+[id_].length≤maxLen)) <|
  each (fun y7 i7 (d:(Gu Int Unit)×(List Int)) a1=>
   jp (fun j=>
    bnd (Ga8 y7 id_) fun f=>
    bif (!f.2) then
    (j (d.1,d.2))
    else
    (jp (fun k=>
      Ju i.Columns f.1.G6 fun a2=>
      bif (!a2.Deck) then
      (bnd (G78 i f.1.G6) fun a3=>
       k a3)
      else
      (k (-1))) fun(g:Int)=>
     each (fun s a8 (b:(Gu Int Unit)×(List Int)) x=>
      jp (fun l=>
       bnd (Ga2 s.Slot f.1) fun a4=>
       bif a4 then
       (bnd (self_ s.Box b.1 b.2 q i) fun t=>
        l (t.1,t.2))
       else
       (l (b.1,b.2))) fun(u:(Gu Int Unit)×(List Int))=>
      x (u.1,u.2))
     (fun(b:(Gu Int Unit)×(List Int))=>
      each (fun a5 a9 (c:(Gu Int Unit)×(List Int)) y=>
       each (fun e a7 (a:(Gu Int Unit)×(List Int)) r=>
        jp (fun h=>
         bnd (bif decide (0≤g) then Ju i.Columns e.Slot.G6 some else some default) fun m=>
         bnd (bif ((decide (0≤g))&&m.Deck) then G78 i e.Slot.G6 else some default) fun z=>
         bif (((decide (0≤g))&&m.Deck)&&(decide (z=g))) then
         (bnd (self_ e.Box a.1 a.2 q i) fun n=>
          h (n.1,n.2))
         else
         (h (a.1,a.2))) fun(o:(Gu Int Unit)×(List Int))=>
        r (o.1,o.2))
       (fun(a:(Gu Int Unit)×(List Int))=>
        y (a.1,a.2)) a5 0 (c.1,c.2))
      (fun(c:(Gu Int Unit)×(List Int))=>
       j (c.1,c.2)) q 0 (b.1,b.2)) y7 0 (d.1,d.2))) fun(v:(Gu Int Unit)×(List Int))=>
   a1 (v.1,v.2))
  (fun(d:(Gu Int Unit)×(List Int))=>
   some (d.1,d.2)) q 0 (w.2,(p++[id_])))
def G4d:Nat→Int→(Gu Int Unit)→(List Int)→(List (List G1))→Gf→Option ((Gu Int Unit)×(List Int))
 | 0,_,_,_,_,_=>none
 | F+1,id_,a,b,c,d=>Gb0 (G4d F) F id_ a b c d
abbrev Ey (a:List (List G1)) (b:Gf):List AV:=[.ptr 1130 0,.ptr 1131 0,.dptr [LS 1 (E4) a],Ef b,.ptr 1132 0]
theorem Hd8 (self_:Int→(Gu Int Unit)→(List Int)→(List (List G1))→Gf→Option ((Gu Int Unit)×(List Int))) (self_w:∀ (id_:Int) (p1:Gu Int Unit) (m:List Int) (a:List (List G1)) (c:Gf) (r:(Gu Int Unit)×(List Int)),self_ id_ p1 m a c=some r→Jq Em 108 [I64 id_,.ptr 1130 0,.ptr 1131 0,.dptr [LS 1 (E4) a],Ef c,.ptr 1132 0] [(1130,.box 197 [.mp 1136]),(1136,MP 197 Kj (fun _:Unit=>.agg []) p1),(1131,.box 39 [.vec 1137 m.length 1 m.length]),(1137,.vec 3 1 m.length (m.map I64)),(1132,.box 198 [.fn 108 [.ptr 1130 0,.ptr 1131 0,.dptr [LS 1 (E4) a],Ef c,.ptr 1132 0]])] (fun av L'=>av=.tup []∧L'=[(1130,.box 197 [.mp 1136]),(1136,MP 197 Kj (fun _:Unit=>.agg []) r.1),(1131,.box 39 [.vec 1137 r.2.length 1 r.2.length]),(1137,.vec 3 1 r.2.length (r.2.map I64)),(1132,.box 198 [.fn 108 [.ptr 1130 0,.ptr 1131 0,.dptr [LS 1 (E4) a],Ef c,.ptr 1132 0]])])) (F:Nat) (id_:Int) (p1:Gu Int Unit) (m:List Int) (a:List (List G1)) (c:Gf) (r:(Gu Int Unit)×(List Int)) (h:Gb0 self_ F id_ p1 m a c=some r):Jq Em 108 [I64 id_,.ptr 1130 0,.ptr 1131 0,.dptr [LS 1 (E4) a],Ef c,.ptr 1132 0] [(1130,.box 197 [.mp 1136]),(1136,MP 197 Kj (fun _:Unit=>.agg []) p1),(1131,.box 39 [.vec 1137 m.length 1 m.length]),(1137,.vec 3 1 m.length (m.map I64)),(1132,.box 198 [.fn 108 [.ptr 1130 0,.ptr 1131 0,.dptr [LS 1 (E4) a],Ef c,.ptr 1132 0]])] (fun av L'=>av=.tup []∧L'=[(1130,.box 197 [.mp 1136]),(1136,MP 197 Kj (fun _:Unit=>.agg []) r.1),(1131,.box 39 [.vec 1137 r.2.length 1 r.2.length]),(1137,.vec 3 1 r.2.length (r.2.map I64)),(1132,.box 198 [.fn 108 [.ptr 1130 0,.ptr 1131 0,.dptr [LS 1 (E4) a],Ef c,.ptr 1132 0]])]):=by
 unfold Gb0 at h
 refine Z5 [1130,1136,1131,1137,1132] [] Tryz.func108 O O (H52 O) (Js fun i0=>Jr fun i1=>(JLh (.mp 1136) (Jg J97 O O O O) O (JLm (I64 id_) O ?_)))
 obtain⟨r3,i2,h⟩:=Gg h
 refine JLh (BL r3.1) (Gf8 (args:=[.mp 1136,I64 id_]) (L0:=[(1136,MP 197 Kj (fun _:Unit=>.agg []) p1)]) (Lr:=[(1136,MP 197 Kj (fun _:Unit=>.agg []) r3.2)]) O (Ga7 p1 id_ r3 i2) Q2a ⟨.inl O,O,.inl O,O,ø⟩ ⟨O,ø⟩ O O O) O (JLh (BL (!r3.1)) (G03 (b:=r3.1) O O) O (G4 (i1 (JCc O h (fun h hb=>?_) (fun h hb=>?_)))))
 ·
  refine Gw ?_
  obtain rfl:=Kz h
  exact⟨[],[(1130,.box 197 [.mp 1136]),(1136,MP 197 Kj (fun _:Unit=>.agg []) r3.2),(1131,.box 39 [.vec 1137 m.length 1 m.length]),(1137,.vec 3 1 m.length (m.map I64)),(1132,.box 198 [.fn 108 (Ey a c)])],⟨⟨_,O,.boxL O ⟨.same O,ø⟩⟩,⟨_,O,.map⟩,⟨_,O,.boxL O ⟨.same O,ø⟩⟩,⟨_,O,.vec⟩,⟨_,O,.boxL O ⟨.same O,ø⟩⟩,ø⟩,O,ø,O,O⟩
 ·
  refine Gn (i0 (Jr fun i3=>(JLh (.vec 1137 m.length 1 m.length) (Jg Q8 O O O O) O (JLm (I64 id_) O (JLh (E5 [id_]) (He (xs:=[I64 id_]) O ⟨O,O,ø⟩ Gv Rm O O O O) O ?_)))))
  obtain⟨i4,h⟩:=Hw h
  refine JLh (.vec 1137 ((m++[id_]).length) 1 ((m++[id_]).length)) (G57 (f:=I64) (xs:=m) (ys:=[id_]) (ver:=m.length) (ver1:=(m++[id_]).length) rfl rfl rfl rfl Gv G36 i4 (fun _=>rfl) (.inl rfl) (by simp)) O (Hd (u:=.junk) (Gy (u:=.vec 1137 ((m++[id_]).length) 1 ((m++[id_]).length)) (ds:=[.vec 1137 ((m++[id_]).length) 1 ((m++[id_]).length)]) Q78 O O O O O O O O) (G4 (i3 (Jr fun i5=>(JLh (LS 1 (E4) a) (Ge Jv O O O) O (JLl Hv O O O fun d7=>(JLm (I64 0) O (G4 (i5 (Gi ?_))))))))))
  obtain⟨b7,i6,i8,d8,h⟩:=Hu h
  refine Hf (fun s (l:(Gu Int Unit)×(List Int))=>each b7 i6 (List.drop s a) s l=some r) (fun s l=>[(0,I64 id_),(3,.dptr [LS 1 (E4) a]),(4,Ef c),(5,.ptr 1132 0),(26,LS 1 (E4) a),(27,Ek a.length),(28,Ek s)]) (fun s l=>[(1136,MP 197 Kj (fun _:Unit=>.agg []) l.1),(1137,.vec 3 1 l.2.length (l.2.map I64)),(1130,.box 197 [.mp 1136]),(1131,.box 39 [.vec 1137 l.2.length 1 l.2.length]),(1132,.box 198 [.fn 108 (Ey a c)])]) (fun s=>a.length - s) 0 (r3.2,(m++[id_])) h ⟨(.sm O O),⟨fmQ O,⟨_,rfl,.vec⟩,fbQ O ⟨.same rfl,ø⟩,fbQ O ⟨.same rfl,ø⟩,fbQ O ⟨.same rfl,ø⟩,ø⟩,rfl⟩ ?_
  clear h
  intro s l d4 K7 e7
  refine Jr fun i9=>(JLh (BL (decide ((s:Int) < (a.length:Int)))) (J8 O O O) O (G4 (i9 (Js fun j0=>Gj O (fun hb=>?_) (fun hb=>?_)))))
  ·
   have d5:=Jh hb
   obtain⟨w,k3,j1,j2,h⟩:=Hk d4 d5
   replace h:=Rh i8 h
   refine Gn (j0 ?_)
   obtain⟨d9,b6,h⟩:=Qr h
   refine Q0 (fun x:(Gu Int Unit)×(List Int)=>d9 x=some r) (fun x=>[(0,I64 id_),(3,.dptr [LS 1 (E4) a]),(4,Ef c),(5,.ptr 1132 0),(26,LS 1 (E4) a),(27,Ek a.length),(28,Ek s)]) (fun x=>[(1136,MP 197 Kj (fun _:Unit=>.agg []) x.1),(1137,.vec 3 1 x.2.length (x.2.map I64)),(1130,.box 197 [.mp 1136]),(1131,.box 39 [.vec 1137 x.2.length 1 x.2.length]),(1132,.box 198 [.fn 108 (Ey a c)])]) (fun Kj10 ej10=>?_) ?_
   ·
    refine Gi (Jr fun e0=>(JLh (.dptr [E4 w]) (H0 (f:=(E4)) (xs:=a) (y:=w) O O O Hv j1 O) O (JLh (E4 w) (Ge Rn O O O) O (JLm (E4 w) O (G4 (e0 (Jr fun e1=>(JLm (E4 w) O (JLm (I64 id_) O ?_)))))))))
    obtain⟨g,e2,h⟩:=Gg h
    refine JLh (.tup [.agg (Slot.cs g.1),BL g.2]) (H2 O (H06 w id_ g e2) H8f ⟨O,O,O,O,ø⟩) O (JLm (.tup [.agg (Slot.cs g.1),BL g.2]) O (JLh (.agg (Slot.cs g.1)) (Hp O O O) O (JLh (BL g.2) (Hp O O O) O (JLh (.ptr 1164 0) (Hg 1164 3 Zc O O) O (Hd (u:=.junk) (Gy (u:=.agg (Slot.cs g.1)) (ds:=[I64 g.1.G6,I64 g.1.Tier,U8 g.1.Half]) G11 O O O O O O O O) (JLm (BL g.2) O (G4 (e1 ?_))))))))
    refine fzQ [(0,I64 id_),(3,.dptr [LS 1 (E4) a]),(4,Ef c),(5,.ptr 1132 0),(8,E4 w),(9,Ej g.1),(10,BL g.2),(26,LS 1 (E4) a),(27,Ek a.length),(28,Ek s)] [(1136,MP 197 Kj (fun _:Unit=>.agg []) l.1),(1137,.vec 3 1 l.2.length (l.2.map I64)),(1130,.box 197 [.mp 1136]),(1131,.box 39 [.vec 1137 l.2.length 1 l.2.length]),(1132,.box 198 [.fn 108 (Ey a c)])] 1164 rfl rfl rfl ⟨fmQ O,⟨_,rfl,.vec⟩,⟨_,rfl,.boxEq rfl rfl⟩,⟨_,rfl,.boxEq rfl rfl⟩,⟨_,rfl,.boxEq rfl rfl⟩,ø⟩ rfl (Js fun e3=>?_)
    refine Jr fun e4=>(JLm (BL g.2) O (JLh (BL (!g.2)) (G03 (b:=g.2) O O) O (G4 (e4 (JCc O h (fun h hb=>?_) (fun h hb=>?_))))))
    ·
     refine Hj (ej10 _ _ (l.1,l.2) h ⟨(.sm O O),⟨fmQ O,⟨_,rfl,.vec⟩,fbQ O ⟨.same rfl,ø⟩,fbQ O ⟨.same rfl,ø⟩,fbQ O ⟨.same rfl,ø⟩,ø⟩,rfl⟩)
    ·
     refine Gn (e3 (Jr fun e5=>(JLm (I64 (-1)) O (G4 (e5 ?_)))))
     obtain⟨e6,b8,h⟩:=Qr h
     refine Q0 (fun j:Int=>e6 j=some r) (fun j=>[(0,I64 id_),(3,.dptr [LS 1 (E4) a]),(4,Ef c),(5,.ptr 1132 0),(8,E4 w),(9,Ej g.1),(11,I64 j),(26,LS 1 (E4) a),(27,Ek a.length),(28,Ek s)]) (fun j=>[(1136,MP 197 Kj (fun _:Unit=>.agg []) l.1),(1137,.vec 3 1 l.2.length (l.2.map I64)),(1130,.box 197 [.mp 1136]),(1131,.box 39 [.vec 1137 l.2.length 1 l.2.length]),(1132,.box 198 [.fn 108 (Ey a c)])]) (fun Kj17 ej17=>?_) ?_
     ·
      refine Jr fun e8=>(JLh (Ef c) (Gb Ho O O O) O (JLh (E7 c.Columns) (Ge J2 O O O) O (JLh (Ej g.1) (Gb Jy O O O) O (JLh (I64 g.1.G6) (Ge G9 O O O) O ?_))))
      obtain⟨k4,a3,e9,f0,h⟩:=Qc h
      refine JLh (Eh a3) (H0 (f:=G6.av) (xs:=c.Columns) (y:=a3) O O O Hr f0 e9) O (JLh (.dptr ((G6.cs a3).drop 2)) (Gb G1c O O O) O (JLh (BL a3.Deck) (Ge Ra O O O) O (JLh (BL (!a3.Deck)) (G03 (b:=a3.Deck) O O) O (G4 (e8 (JCc O h (fun h hb=>?_) (fun h hb=>?_)))))))
      ·
       refine G2 (JLh (.agg (Gf.cs c)) (Gk J6 O O O) O (JLh (Ej g.1) (Gb Jy O O O) O (JLh (I64 g.1.G6) (Ge G9 O O O) O ?_)))
       obtain⟨a7,f1,h⟩:=Gg h
       refine JLh (I64 a7) (H2 O (H12 c g.1.G6 a7 f1) J04 ⟨O,O,O,O,ø⟩) O (JLm (I64 a7) O (G4 (ej17 _ _ a7 h ⟨(.sm O O),⟨fmQ O,⟨_,rfl,.vec⟩,fbQ O ⟨.same rfl,ø⟩,fbQ O ⟨.same rfl,ø⟩,fbQ O ⟨.same rfl,ø⟩,ø⟩,rfl⟩)))
      ·
       refine Gn (ej17 _ _ (-1) h ⟨(.sm O O),⟨fmQ O,⟨_,rfl,.vec⟩,fbQ O ⟨.same rfl,ø⟩,fbQ O ⟨.same rfl,ø⟩,fbQ O ⟨.same rfl,ø⟩,ø⟩,rfl⟩)
     ·intro j h
      replace h:=app1 b8 h
      refine Js fun f2=>Jr fun f3=>(JLm (E4 w) O (JLl H3 O O O fun f4=>(JLm (I64 0) O (G4 (f3 (Gi ?_))))))
      obtain⟨j3,f5,f6,b9,h⟩:=Hu h
      refine Hf (fun t (i:(Gu Int Unit)×(List Int))=>each j3 f5 (List.drop t w) t i=some r) (fun t i=>[(0,I64 id_),(3,.dptr [LS 1 (E4) a]),(4,Ef c),(5,.ptr 1132 0),(9,Ej g.1),(11,I64 j),(26,LS 1 (E4) a),(27,Ek a.length),(28,Ek s),(52,E4 w),(53,Ek w.length),(54,Ek t)]) (fun t i=>[(1136,MP 197 Kj (fun _:Unit=>.agg []) i.1),(1137,.vec 3 1 i.2.length (i.2.map I64)),(1130,.box 197 [.mp 1136]),(1131,.box 39 [.vec 1137 i.2.length 1 i.2.length]),(1132,.box 198 [.fn 108 (Ey a c)])]) (fun t=>w.length - t) 0 (l.1,l.2) h ⟨(.sm O O),⟨fmQ O,⟨_,rfl,.vec⟩,fbQ O ⟨.same rfl,ø⟩,fbQ O ⟨.same rfl,ø⟩,fbQ O ⟨.same rfl,ø⟩,ø⟩,rfl⟩ ?_
      clear h
      intro t i b0 k5 j4
      refine Jr fun f7=>(JLh (BL (decide ((t:Int) < (w.length:Int)))) (J8 O O O) O (G4 (f7 (Js fun f8=>Gj O (fun hb=>?_) (fun hb=>?_)))))
      ·
       have b1:=Jh hb
       obtain⟨n,k0,f9,g0,h⟩:=Hk b0 b1
       replace h:=Rh f6 h
       refine Gn (f8 ?_)
       obtain⟨g1,c0,h⟩:=Qr h
       refine Q0 (fun z:(Gu Int Unit)×(List Int)=>g1 z=some r) (fun z=>[(0,I64 id_),(3,.dptr [LS 1 (E4) a]),(4,Ef c),(5,.ptr 1132 0),(9,Ej g.1),(11,I64 j),(26,LS 1 (E4) a),(27,Ek a.length),(28,Ek s),(52,E4 w),(53,Ek w.length),(54,Ek t)]) (fun z=>[(1136,MP 197 Kj (fun _:Unit=>.agg []) z.1),(1137,.vec 3 1 z.2.length (z.2.map I64)),(1130,.box 197 [.mp 1136]),(1131,.box 39 [.vec 1137 z.2.length 1 z.2.length]),(1132,.box 198 [.fn 108 (Ey a c)])]) (fun Kj59 ej59=>?_) ?_
       ·
        refine Gi (Jr fun g2=>(JLh (Eg n) (H0 (f:=G1.av) (xs:=w) (y:=n) O O O H3 f9 O) O (JLh (.agg (G1.cs n)) (Gk Qb O O O) O (JLh (.ptr 1165 0) (Hg 1165 4 Q2 O O) O (Hd (u:=.junk) (Gy (u:=.agg (G1.cs n)) (ds:=[I64 n.Box,I64 n.Slot.G6,I64 n.Slot.Tier,U8 n.Slot.Half]) Y1 O O O O O O O O) (G4 (g2 ?_)))))))
        refine fzQ [(0,I64 id_),(3,.dptr [LS 1 (E4) a]),(4,Ef c),(5,.ptr 1132 0),(9,Ej g.1),(11,I64 j),(13,Eg n),(26,LS 1 (E4) a),(27,Ek a.length),(28,Ek s),(52,E4 w),(53,Ek w.length),(54,Ek t)] [(1136,MP 197 Kj (fun _:Unit=>.agg []) i.1),(1137,.vec 3 1 i.2.length (i.2.map I64)),(1130,.box 197 [.mp 1136]),(1131,.box 39 [.vec 1137 i.2.length 1 i.2.length]),(1132,.box 198 [.fn 108 (Ey a c)])] 1165 rfl rfl rfl ⟨fmQ O,⟨_,rfl,.vec⟩,⟨_,rfl,.boxEq rfl rfl⟩,⟨_,rfl,.boxEq rfl rfl⟩,⟨_,rfl,.boxEq rfl rfl⟩,ø⟩ rfl ?_
        refine Jr fun g3=>(JLh (.dptr ((G1.cs n).drop 1)) (Gb Jx O O O) O (JLh (.agg ((G1.cs n).drop 1)) (Gk Jw O O O) O (JLh (.agg (Slot.cs g.1)) (Gk Jw O O O) O ?_)))
        obtain⟨d6,g4,h⟩:=Gg h
        refine JLh (BL d6) (H2 O (Ja6 n.Slot g.1 d6 g4) Q29 ⟨O,O,O,O,ø⟩) O (G4 (g3 (JCc O h (fun h hb=>?_) (fun h hb=>?_))))
        ·
         refine G2 (JLh (.fn 108 (Ey a c)) (Jg Gf9 O O O O) O (JLh (Eg n) (Gb Jn O O O) O (JLh (I64 n.Box) (Ge G9 O O O) O ?_)))
         obtain⟨a2,g5,h⟩:=Gg h
         refine JLh (.tup []) (G7c (args:=[I64 n.Box]) (caps:=(Ey a c)) (L0:=[(1130,.box 197 [.mp 1136]),(1136,MP 197 Kj (fun _:Unit=>.agg []) i.1),(1131,.box 39 [.vec 1137 i.2.length 1 i.2.length]),(1137,.vec 3 1 i.2.length (i.2.map I64)),(1132,.box 198 [.fn 108 (Ey a c)])]) (Lr:=[(1130,.box 197 [.mp 1136]),(1136,MP 197 Kj (fun _:Unit=>.agg []) a2.1),(1131,.box 39 [.vec 1137 a2.2.length 1 a2.2.length]),(1137,.vec 3 1 a2.2.length (a2.2.map I64)),(1132,.box 198 [.fn 108 (Ey a c)])]) O O (self_w n.Box i.1 i.2 a c a2 g5) H48 ⟨.inl O,O,ø⟩ O ⟨O,O,O,O,O,ø⟩ O O O) O (G4 ?_)
         exact ej59 _ _ (a2.1,a2.2) h ⟨(.sm O O),⟨fmQ O,⟨_,rfl,.vec⟩,fbQ O ⟨.same rfl,ø⟩,fbQ O ⟨.same rfl,ø⟩,fbQ O ⟨.same rfl,ø⟩,ø⟩,rfl⟩
        ·
         refine Gn (ej59 _ _ (i.1,i.2) h ⟨(.sm O O),⟨fmQ O,⟨_,rfl,.vec⟩,fbQ O ⟨.same rfl,ø⟩,fbQ O ⟨.same rfl,ø⟩,fbQ O ⟨.same rfl,ø⟩,ø⟩,rfl⟩)
       ·intro z h
        replace h:=app1 c0 h
        refine G2 (JLh (I64 ((t+1:Nat):Int)) (Ht (H7 b1 f4) O O O) O (JLm (I64 ((t+1:Nat):Int)) O (G4 (j4 _ _ (t+1) (z.1,z.2) (app1 g0 h) (by omega) ⟨(.sm O O),⟨fmQ O,⟨_,rfl,.vec⟩,fbQ O ⟨.same rfl,ø⟩,fbQ O ⟨.same rfl,ø⟩,fbQ O ⟨.same rfl,ø⟩,ø⟩,rfl⟩))))
      ·
       have h:=app1 b9 (Hm b0 (H6 hb))
       refine Hj (f2 (Jr fun g6=>(JLh (LS 1 (E4) a) (Ge Jv O O O) O (JLl Hv O O O fun g7=>(JLm (I64 0) O (G4 (g6 (Gi ?_))))))))
       obtain⟨j5,g8,g9,c1,h⟩:=Hu h
       refine Hf (fun o (v:(Gu Int Unit)×(List Int))=>each j5 g8 (List.drop o a) o v=some r) (fun o v=>[(0,I64 id_),(3,.dptr [LS 1 (E4) a]),(4,Ef c),(5,.ptr 1132 0),(11,I64 j),(26,LS 1 (E4) a),(27,Ek a.length),(28,Ek s),(67,LS 1 (E4) a),(68,Ek a.length),(69,Ek o)]) (fun o v=>[(1136,MP 197 Kj (fun _:Unit=>.agg []) v.1),(1137,.vec 3 1 v.2.length (v.2.map I64)),(1130,.box 197 [.mp 1136]),(1131,.box 39 [.vec 1137 v.2.length 1 v.2.length]),(1132,.box 198 [.fn 108 (Ey a c)])]) (fun o=>a.length - o) 0 (i.1,i.2) h ⟨(.sm O O),⟨fmQ O,⟨_,rfl,.vec⟩,fbQ O ⟨.same rfl,ø⟩,fbQ O ⟨.same rfl,ø⟩,fbQ O ⟨.same rfl,ø⟩,ø⟩,rfl⟩ ?_
       clear h
       intro o v b2 k6 j6
       refine Jr fun h0=>(JLh (BL (decide ((o:Int) < (a.length:Int)))) (J8 O O O) O (G4 (h0 (Js fun h1=>Gj O (fun hb=>?_) (fun hb=>?_)))))
       ·
        have b3:=Jh hb
        obtain⟨p,k1,h2,h3,h⟩:=Hk b2 b3
        replace h:=Rh g9 h
        refine Gn (h1 (Js fun h4=>Gi (Jr fun h5=>(JLh (.dptr [E4 p]) (H0 (f:=(E4)) (xs:=a) (y:=p) O O O Hv h2 O) O (JLh (E4 p) (Ge Rn O O O) O (JLm (E4 p) O (G4 (h5 (Jr fun h6=>(JLm (E4 p) O (JLl H3 O O O fun h7=>(JLm (I64 0) O (G4 (h6 (Gi ?_)))))))))))))))
        obtain⟨h8,c2,c3,b4,h⟩:=Hu h
        refine Hf (fun k (d:(Gu Int Unit)×(List Int))=>each h8 c2 (List.drop k p) k d=some r) (fun k d=>[(0,I64 id_),(3,.dptr [LS 1 (E4) a]),(4,Ef c),(5,.ptr 1132 0),(11,I64 j),(26,LS 1 (E4) a),(27,Ek a.length),(28,Ek s),(67,LS 1 (E4) a),(68,Ek a.length),(69,Ek o),(73,E4 p),(74,Ek p.length),(75,Ek k)]) (fun k d=>[(1136,MP 197 Kj (fun _:Unit=>.agg []) d.1),(1137,.vec 3 1 d.2.length (d.2.map I64)),(1130,.box 197 [.mp 1136]),(1131,.box 39 [.vec 1137 d.2.length 1 d.2.length]),(1132,.box 198 [.fn 108 (Ey a c)])]) (fun k=>p.length - k) 0 (v.1,v.2) h ⟨(.sm O O),⟨fmQ O,⟨_,rfl,.vec⟩,fbQ O ⟨.same rfl,ø⟩,fbQ O ⟨.same rfl,ø⟩,fbQ O ⟨.same rfl,ø⟩,ø⟩,rfl⟩ ?_
        clear h
        intro k d a8 k2 h9
        refine Jr fun c4=>(JLh (BL (decide ((k:Int) < (p.length:Int)))) (J8 O O O) O (G4 (c4 (Js fun c5=>Gj O (fun hb=>?_) (fun hb=>?_)))))
        ·
         have a9:=Jh hb
         obtain⟨e,j7,c6,c7,h⟩:=Hk a8 a9
         replace h:=Rh c3 h
         refine Gn (c5 ?_)
         obtain⟨c8,b5,h⟩:=Qr h
         refine Q0 (fun q:(Gu Int Unit)×(List Int)=>c8 q=some r) (fun q=>[(0,I64 id_),(3,.dptr [LS 1 (E4) a]),(4,Ef c),(5,.ptr 1132 0),(11,I64 j),(26,LS 1 (E4) a),(27,Ek a.length),(28,Ek s),(67,LS 1 (E4) a),(68,Ek a.length),(69,Ek o),(73,E4 p),(74,Ek p.length),(75,Ek k)]) (fun q=>[(1136,MP 197 Kj (fun _:Unit=>.agg []) q.1),(1137,.vec 3 1 q.2.length (q.2.map I64)),(1130,.box 197 [.mp 1136]),(1131,.box 39 [.vec 1137 q.2.length 1 q.2.length]),(1132,.box 198 [.fn 108 (Ey a c)])]) (fun Kj110 ej110=>?_) ?_
         ·
          refine Gi (Jr fun c9=>(JLh (Eg e) (H0 (f:=G1.av) (xs:=p) (y:=e) O O O H3 c6 O) O (JLh (.agg (G1.cs e)) (Gk Qb O O O) O (JLh (.ptr 1166 0) (Hg 1166 4 Q2 O O) O (Hd (u:=.junk) (Gy (u:=.agg (G1.cs e)) (ds:=[I64 e.Box,I64 e.Slot.G6,I64 e.Slot.Tier,U8 e.Slot.Half]) Y1 O O O O O O O O) (G4 (c9 ?_)))))))
          refine fzQ [(0,I64 id_),(3,.dptr [LS 1 (E4) a]),(4,Ef c),(5,.ptr 1132 0),(11,I64 j),(17,Eg e),(26,LS 1 (E4) a),(27,Ek a.length),(28,Ek s),(67,LS 1 (E4) a),(68,Ek a.length),(69,Ek o),(73,E4 p),(74,Ek p.length),(75,Ek k)] [(1136,MP 197 Kj (fun _:Unit=>.agg []) d.1),(1137,.vec 3 1 d.2.length (d.2.map I64)),(1130,.box 197 [.mp 1136]),(1131,.box 39 [.vec 1137 d.2.length 1 d.2.length]),(1132,.box 198 [.fn 108 (Ey a c)])] 1166 rfl rfl rfl ⟨fmQ O,⟨_,rfl,.vec⟩,⟨_,rfl,.boxEq rfl rfl⟩,⟨_,rfl,.boxEq rfl rfl⟩,⟨_,rfl,.boxEq rfl rfl⟩,ø⟩ rfl ?_
          refine Jr fun d0=>(JLm (I64 j) O (JLh (BL (decide (0≤j))) (Gdd O O O) O (JLm (BL (decide (0≤j))) O (JLo (Ef c) [] O .sct ø (fun hc=>Gb Ho O O O) O (JLo (E7 c.Columns) [82] O .sct ⟨Ua,ø⟩ (fun hc=>Ge J2 O O O) O (JLo (.dptr ((G1.cs e).drop 1)) [] O .sct ø (fun hc=>Gb Jx O O O) O (JLo (.dptr ((G1.cs e).drop 1)) [84] O .sct ⟨Ua,ø⟩ (fun hc=>Gb Jy O O O) O (JLo (I64 e.Slot.G6) [85] O .sct ⟨Ua,ø⟩ (fun hc=>Ge G9 O O O) O ?_))))))))
          obtain⟨a1,d1,h⟩:=Gg h
          refine JLo (Eh a1) [83,86] O .sct ⟨Ua,Ua,ø⟩ (fun hc=>(match G05 (H9 hc d1) with | ⟨_,hm_,hy_⟩=>H0 (f:=G6.av) (xs:=c.Columns) (y:=a1) O O O Hr hy_ hm_)) O (JLo (.dptr ((G6.cs a1).drop 2)) [87] O .sct ⟨Ua,ø⟩ (fun hc=>Gb G1c O O O) O (JLo (BL a1.Deck) [88] O .sct ⟨Ua,ø⟩ (fun hc=>Ge Ra O O O) O (JLh (BL ((decide (0≤j))&&a1.Deck)) (Rg O O O O) O (JLm (BL ((decide (0≤j))&&a1.Deck)) O (JLo (.agg (Gf.cs c)) [] O .sct ø (fun hc=>Gk J6 O O O) O (JLo (.dptr ((G1.cs e).drop 1)) [] O .sct ø (fun hc=>Gb Jx O O O) O (JLo (.dptr ((G1.cs e).drop 1)) [93] O .sct ⟨Ua,ø⟩ (fun hc=>Gb Jy O O O) O (JLo (I64 e.Slot.G6) [94] O .sct ⟨Ua,ø⟩ (fun hc=>Ge G9 O O O) O ?_))))))))
          obtain⟨a4,d2,h⟩:=Gg h
          refine JLo (I64 a4) [92,95] O .sct ⟨Ua,Ua,ø⟩ (fun hc=>H2 (args:=[.agg (Gf.cs c),I64 e.Slot.G6]) O (H12 c e.Slot.G6 a4 (H9 hc d2)) J04 ⟨O,O,O,O,ø⟩) O (JLo (I64 j) [] O .sct ø (fun hc=>G5 O O) O (JLo (BL (decide (a4=j))) [96,97] O .sct ⟨Ua,Ua,ø⟩ (fun hc=>Qn O O O) O (JLh (BL (((decide (0≤j))&&a1.Deck)&&(decide (a4=j)))) (Rg O O O O) O (G4 (d0 (JCc O h (fun h hb=>?_) (fun h hb=>?_)))))))
          ·
           refine G2 (JLh (.fn 108 (Ey a c)) (Jg Gf9 O O O O) O (JLh (Eg e) (Gb Jn O O O) O (JLh (I64 e.Box) (Ge G9 O O O) O ?_)))
           obtain⟨a0,d3,h⟩:=Gg h
           refine JLh (.tup []) (G7c (args:=[I64 e.Box]) (caps:=(Ey a c)) (L0:=[(1130,.box 197 [.mp 1136]),(1136,MP 197 Kj (fun _:Unit=>.agg []) d.1),(1131,.box 39 [.vec 1137 d.2.length 1 d.2.length]),(1137,.vec 3 1 d.2.length (d.2.map I64)),(1132,.box 198 [.fn 108 (Ey a c)])]) (Lr:=[(1130,.box 197 [.mp 1136]),(1136,MP 197 Kj (fun _:Unit=>.agg []) a0.1),(1131,.box 39 [.vec 1137 a0.2.length 1 a0.2.length]),(1137,.vec 3 1 a0.2.length (a0.2.map I64)),(1132,.box 198 [.fn 108 (Ey a c)])]) O O (self_w e.Box d.1 d.2 a c a0 d3) H48 ⟨.inl O,O,ø⟩ O ⟨O,O,O,O,O,ø⟩ O O O) O (G4 ?_)
           exact ej110 _ _ (a0.1,a0.2) h ⟨(.sm O O),⟨fmQ O,⟨_,rfl,.vec⟩,fbQ O ⟨.same rfl,ø⟩,fbQ O ⟨.same rfl,ø⟩,fbQ O ⟨.same rfl,ø⟩,ø⟩,rfl⟩
          ·
           refine Gn (ej110 _ _ (d.1,d.2) h ⟨(.sm O O),⟨fmQ O,⟨_,rfl,.vec⟩,fbQ O ⟨.same rfl,ø⟩,fbQ O ⟨.same rfl,ø⟩,fbQ O ⟨.same rfl,ø⟩,ø⟩,rfl⟩)
         ·intro q h
          replace h:=app1 b5 h
          refine G2 (JLh (I64 ((k+1:Nat):Int)) (Ht (H7 a9 h7) O O O) O (JLm (I64 ((k+1:Nat):Int)) O (G4 (h9 _ _ (k+1) (q.1,q.2) (app1 c7 h) (by omega) ⟨(.sm O O),⟨fmQ O,⟨_,rfl,.vec⟩,fbQ O ⟨.same rfl,ø⟩,fbQ O ⟨.same rfl,ø⟩,fbQ O ⟨.same rfl,ø⟩,ø⟩,rfl⟩))))
        ·
         have h:=app1 b4 (Hm a8 (H6 hb))
         refine Hj (h4 (G2 (JLh (I64 ((o+1:Nat):Int)) (Ht (H7 b3 g7) O O O) O (JLm (I64 ((o+1:Nat):Int)) O (G4 (j6 _ _ (o+1) (d.1,d.2) (app1 h3 h) (by omega) ⟨(.sm O O),⟨fmQ O,⟨_,rfl,.vec⟩,fbQ O ⟨.same rfl,ø⟩,fbQ O ⟨.same rfl,ø⟩,fbQ O ⟨.same rfl,ø⟩,ø⟩,rfl⟩))))))
       ·
        have h:=app1 c1 (Hm b2 (H6 hb))
        refine Hj (ej10 _ _ (v.1,v.2) h ⟨(.sm O O),⟨fmQ O,⟨_,rfl,.vec⟩,fbQ O ⟨.same rfl,ø⟩,fbQ O ⟨.same rfl,ø⟩,fbQ O ⟨.same rfl,ø⟩,ø⟩,rfl⟩)
   ·intro x h
    replace h:=app1 b6 h
    refine G2 (JLh (I64 ((s+1:Nat):Int)) (Ht (H7 d5 d7) O O O) O (JLm (I64 ((s+1:Nat):Int)) O (G4 (e7 _ _ (s+1) (x.1,x.2) (app1 j2 h) (by omega) ⟨(.sm O O),⟨fmQ O,⟨_,rfl,.vec⟩,fbQ O ⟨.same rfl,ø⟩,fbQ O ⟨.same rfl,ø⟩,fbQ O ⟨.same rfl,ø⟩,ø⟩,rfl⟩))))
  ·
   have h:=app1 d8 (Hm d4 (H6 hb))
   refine Hj ?_
   obtain rfl:=Kz h
   exact⟨[],[(1130,.box 197 [.mp 1136]),(1136,MP 197 Kj (fun _:Unit=>.agg []) l.1),(1131,.box 39 [.vec 1137 l.2.length 1 l.2.length]),(1137,.vec 3 1 l.2.length (l.2.map I64)),(1132,.box 198 [.fn 108 (Ey a c)])],⟨⟨_,O,.boxL O ⟨.same O,ø⟩⟩,⟨_,O,.map⟩,⟨_,O,.boxL O ⟨.same O,ø⟩⟩,⟨_,O,.vec⟩,⟨_,O,.boxL O ⟨.same O,ø⟩⟩,ø⟩,O,ø,O,O⟩
theorem Hd2:∀ (F:Nat) (id_:Int) (d:Gu Int Unit) (a:List Int) (b:List (List G1)) (c:Gf) (r:(Gu Int Unit)×(List Int)) (h:G4d F id_ d a b c=some r),Jq Em 108 [I64 id_,.ptr 1130 0,.ptr 1131 0,.dptr [LS 1 (E4) b],Ef c,.ptr 1132 0] [(1130,.box 197 [.mp 1136]),(1136,MP 197 Kj (fun _:Unit=>.agg []) d),(1131,.box 39 [.vec 1137 a.length 1 a.length]),(1137,.vec 3 1 a.length (a.map I64)),(1132,.box 198 [.fn 108 [.ptr 1130 0,.ptr 1131 0,.dptr [LS 1 (E4) b],Ef c,.ptr 1132 0]])] (fun av L'=>av=.tup []∧L'=[(1130,.box 197 [.mp 1136]),(1136,MP 197 Kj (fun _:Unit=>.agg []) r.1),(1131,.box 39 [.vec 1137 r.2.length 1 r.2.length]),(1137,.vec 3 1 r.2.length (r.2.map I64)),(1132,.box 198 [.fn 108 [.ptr 1130 0,.ptr 1131 0,.dptr [LS 1 (E4) b],Ef c,.ptr 1132 0]])]):=by
 intro F
 induction F with
 | zero=>intro id_ d a b c r h; cases h
 | succ F ih=>intro id_ d a b c r h; exact Hd8 (G4d F) ih F id_ d a b c r h

def H05 (F:Nat) (s:Gf) (bf:List G1) (af:List G1):Option (List Int):=
 each (fun l n (d:(Gu Int Unit)×(List Int)) j=>
  each (fun b m (a:(Gu Int Unit)×(List Int)) i=>
   jp (fun c=>
    bnd (Ga8 bf b.Box) fun e=>
    bnd (Ga8 af b.Box) fun f=>
    bif ((!(e.2==f.2))||(!decide (e.1=f.1))) then
    (bnd (G4d F b.Box a.1 a.2 [bf,af] s) fun g=>
     c (g.1,g.2))
    else
    (c (a.1,a.2))) fun(h:(Gu Int Unit)×(List Int))=>
   i (h.1,h.2))
  (fun(a:(Gu Int Unit)×(List Int))=>
   j (a.1,a.2)) l 0 (d.1,d.2))
 (fun(d:(Gu Int Unit)×(List Int))=>
  bnd (Jed d.2) fun k=>
  some k) [bf,af] 0 ((Gu.empty:Gu Int Unit),[])
abbrev Ez (bf:List G1) (af:List G1) (s:Gf):List AV:=[.ptr 1130 0,.ptr 1131 0,.dptr [LS 1 (E4) [bf,af]],Ef s,.ptr 1132 0]
theorem J2a (F:Nat) (s:Gf) (bf:List G1) (af:List G1) (r:(List Int)) (h:H05 F s bf af=some r):Pure Em 68 [.agg (Gf.cs s),E4 bf,E4 af] (·=E5 r):=by
 unfold H05 at h
 refine H5 [.tmp 6] Tryz.func68 O O (Jr fun c3=>(JLh (.ptr 1128 0) (Jt (cs:=(Gf.cs s)) 1128 O O O O O) O (JLh (E5 ([]:List Int)) (Q6 1 O O) O (G4 (c3 (Gh [(1,E4 bf),(2,E4 af),(3,Ef s)] [] 1128 rfl rfl rfl ø rfl (by exact⟨.conv (.same rfl),.conv (.same rfl),.ptr,ø⟩) ?_))))))
 refine Jr fun c4=>(JLm (E4 bf) O (JLm (E4 af) O (JLh (LS 1 (E4) [bf,af]) (He (xs:=[E4 bf,E4 af]) O ⟨O,O,O,O,ø⟩ Hv G9c O O O O) O (JLh (.ptr 1129 0) (Hg 1129 1 Hfc O O) O (Hd (u:=.junk) (Gy (u:=LS 1 (E4) [bf,af]) (ds:=[LS 1 (E4) [bf,af]]) H1c O O O O O O O O) (G4 (c4 (fzQ [(1,E4 bf),(2,E4 af),(3,Ef s),(7,.dptr [LS 1 (E4) [bf,af]])] [] 1129 rfl rfl rfl ø rfl ?_))))))))
 refine Jr fun c5=>(JLh (.mp 1136) (G32 1136 Kj (fun _:Unit=>.agg []) O O) O (JLh (.ptr 1130 0) (Hg 1130 1 Je6 O O) O (Hd (u:=.junk) (Gy (u:=.mp 1136) (ds:=[.mp 1136]) Q1b O O O O O O O O) (G4 (c5 (Jr fun c6=>(JLh (.ptr 1131 0) (Ru 1131 [.sc (.slice none 0 0)] [.slice none 0 0] Q71 ⟨.inl O,ø⟩ O O) O (Ha9 1131 0 1137 3 1 O O O (cs':=[.vec 1137 (([]:List Int).length) 1 (([]:List Int).length)]) O (G4 (c6 (Jr fun c7=>(JLh (.ptr 1132 0) (Hg 1132 1 Je5 O O) O (G4 (c7 ?_))))))))))))))
 refine Jr fun c8=>(JLh (.fn 108 (Ez bf af s)) (Y4 (cs:=(Ez bf af s)) O O) O (Hd (u:=.junk) (Gy (u:=.fn 108 (Ez bf af s)) (ds:=[.fn 108 (Ez bf af s)]) Q1a O O O O O O O O) (G4 (c8 (Js fun c9=>Jr fun d0=>(JLh (LS 1 (E4) [bf,af]) (Ge Jv O O O) O (JLl Hv O O O fun w=>(JLm (I64 0) O (G4 (d0 (Gi ?_)))))))))))
 obtain⟨b9,d1,d2,x,h⟩:=Hu h
 refine Hf (fun j (i:(Gu Int Unit)×(List Int))=>each b9 d1 (List.drop j [bf,af]) j i=some r) (fun j i=>[(1,E4 bf),(2,E4 af),(9,.ptr 1131 0),(10,.ptr 1132 0),(24,LS 1 (E4) [bf,af]),(25,I64 ([bf,af].length:Int)),(26,Ek j)]) (fun j i=>[(1136,MP 197 Kj (fun _:Unit=>.agg []) i.1),(1137,.vec 3 1 i.2.length (i.2.map I64)),(1130,.box 197 [.mp 1136]),(1131,.box 39 [.vec 1137 i.2.length 1 i.2.length]),(1132,.box 198 [.fn 108 (Ez bf af s)])]) (fun j=>[bf,af].length - j) 0 ((Gu.empty:Gu Int Unit),[]) h ⟨(.sm O O),⟨fmQ O,⟨_,rfl,.vec⟩,fbQ O ⟨.same rfl,ø⟩,fbQ O ⟨.same rfl,ø⟩,fbQ O ⟨.same rfl,ø⟩,ø⟩,rfl⟩ ?_
 clear h
 intro j i q K9 e9
 refine Jr fun z=>(JLh (BL (decide ((j:Int) < ([bf,af].length:Int)))) (J8 O O O) O (G4 (z (Js fun a0=>Gj O (fun hb=>?_) (fun hb=>?_)))))
 ·
  have t:=Jh hb
  obtain⟨g,e0,d3,d4,h⟩:=Hk q t
  replace h:=Rh d2 h
  refine Gn (a0 (Js fun a1=>Gi (Jr fun a2=>(JLh (.dptr [E4 g]) (H0 (f:=(E4)) (xs:=[bf,af]) (y:=g) O O O Hv d3 O) O (JLh (E4 g) (Ge Rn O O O) O (JLm (E4 g) O (G4 (a2 (Jr fun a3=>(JLm (E4 g) O (JLl H3 O O O fun a4=>(JLm (I64 0) O (G4 (a3 (Gi ?_)))))))))))))))
  obtain⟨d5,a5,a6,o,h⟩:=Hu h
  refine Hf (fun e (a:(Gu Int Unit)×(List Int))=>each d5 a5 (List.drop e g) e a=some r) (fun e a=>[(1,E4 bf),(2,E4 af),(9,.ptr 1131 0),(10,.ptr 1132 0),(24,LS 1 (E4) [bf,af]),(25,I64 ([bf,af].length:Int)),(26,Ek j),(30,E4 g),(31,Ek g.length),(32,Ek e)]) (fun e a=>[(1136,MP 197 Kj (fun _:Unit=>.agg []) a.1),(1137,.vec 3 1 a.2.length (a.2.map I64)),(1130,.box 197 [.mp 1136]),(1131,.box 39 [.vec 1137 a.2.length 1 a.2.length]),(1132,.box 198 [.fn 108 (Ez bf af s)])]) (fun e=>g.length - e) 0 (i.1,i.2) h ⟨(.sm O O),⟨fmQ O,⟨_,rfl,.vec⟩,fbQ O ⟨.same rfl,ø⟩,fbQ O ⟨.same rfl,ø⟩,fbQ O ⟨.same rfl,ø⟩,ø⟩,rfl⟩ ?_
  clear h
  intro e a m e1 d6
  refine Jr fun a7=>(JLh (BL (decide ((e:Int) < (g.length:Int)))) (J8 O O O) O (G4 (a7 (Js fun a8=>Gj O (fun hb=>?_) (fun hb=>?_)))))
  ·
   have n:=Jh hb
   obtain⟨d,d9,a9,b0,h⟩:=Hk m n
   replace h:=Rh a6 h
   refine Gn (a8 ?_)
   obtain⟨b1,p,h⟩:=Qr h
   refine Q0 (fun k:(Gu Int Unit)×(List Int)=>b1 k=some r) (fun k=>[(1,E4 bf),(2,E4 af),(9,.ptr 1131 0),(10,.ptr 1132 0),(24,LS 1 (E4) [bf,af]),(25,I64 ([bf,af].length:Int)),(26,Ek j),(30,E4 g),(31,Ek g.length),(32,Ek e)]) (fun k=>[(1136,MP 197 Kj (fun _:Unit=>.agg []) k.1),(1137,.vec 3 1 k.2.length (k.2.map I64)),(1130,.box 197 [.mp 1136]),(1131,.box 39 [.vec 1137 k.2.length 1 k.2.length]),(1132,.box 198 [.fn 108 (Ez bf af s)])]) (fun Kj62 ej62=>?_) ?_
   ·
    refine Gi (Jr fun b2=>(JLh (Eg d) (H0 (f:=G1.av) (xs:=g) (y:=d) O O O H3 a9 O) O (JLh (.agg (G1.cs d)) (Gk Qb O O O) O (JLh (.ptr 1133 0) (Hg 1133 4 Q2 O O) O (Hd (u:=.junk) (Gy (u:=.agg (G1.cs d)) (ds:=[I64 d.Box,I64 d.Slot.G6,I64 d.Slot.Tier,U8 d.Slot.Half]) Y1 O O O O O O O O) (G4 (b2 ?_)))))))
    refine fzQ [(1,E4 bf),(2,E4 af),(9,.ptr 1131 0),(10,.ptr 1132 0),(14,Eg d),(24,LS 1 (E4) [bf,af]),(25,I64 ([bf,af].length:Int)),(26,Ek j),(30,E4 g),(31,Ek g.length),(32,Ek e)] [(1136,MP 197 Kj (fun _:Unit=>.agg []) a.1),(1137,.vec 3 1 a.2.length (a.2.map I64)),(1130,.box 197 [.mp 1136]),(1131,.box 39 [.vec 1137 a.2.length 1 a.2.length]),(1132,.box 198 [.fn 108 (Ez bf af s)])] 1133 rfl rfl rfl ⟨fmQ O,⟨_,rfl,.vec⟩,⟨_,rfl,.boxEq rfl rfl⟩,⟨_,rfl,.boxEq rfl rfl⟩,⟨_,rfl,.boxEq rfl rfl⟩,ø⟩ rfl ?_
    refine Jr fun b3=>(JLm (E4 bf) O (JLh (Eg d) (Gb Jn O O O) O (JLh (I64 d.Box) (Ge G9 O O O) O ?_)))
    obtain⟨b,b4,h⟩:=Gg h
    refine JLh (.tup [.agg (Slot.cs b.1),BL b.2]) (H2 O (H06 bf d.Box b b4) H8f ⟨O,O,O,O,ø⟩) O (JLm (.tup [.agg (Slot.cs b.1),BL b.2]) O (JLh (.agg (Slot.cs b.1)) (Hp O O O) O (JLh (BL b.2) (Hp O O O) O (JLh (.ptr 1134 0) (Hg 1134 3 Zc O O) O (Hd (u:=.junk) (Gy (u:=.agg (Slot.cs b.1)) (ds:=[I64 b.1.G6,I64 b.1.Tier,U8 b.1.Half]) G11 O O O O O O O O) (JLm (BL b.2) O (G4 (b3 ?_))))))))
    refine fzQ [(1,E4 bf),(2,E4 af),(9,.ptr 1131 0),(10,.ptr 1132 0),(14,Eg d),(15,Ej b.1),(16,BL b.2),(24,LS 1 (E4) [bf,af]),(25,I64 ([bf,af].length:Int)),(26,Ek j),(30,E4 g),(31,Ek g.length),(32,Ek e)] [(1136,MP 197 Kj (fun _:Unit=>.agg []) a.1),(1137,.vec 3 1 a.2.length (a.2.map I64)),(1130,.box 197 [.mp 1136]),(1131,.box 39 [.vec 1137 a.2.length 1 a.2.length]),(1132,.box 198 [.fn 108 (Ez bf af s)])] 1134 rfl rfl rfl ⟨fmQ O,⟨_,rfl,.vec⟩,⟨_,rfl,.boxEq rfl rfl⟩,⟨_,rfl,.boxEq rfl rfl⟩,⟨_,rfl,.boxEq rfl rfl⟩,ø⟩ rfl ?_
    refine Jr fun b5=>(JLm (E4 af) O (JLh (Eg d) (Gb Jn O O O) O (JLh (I64 d.Box) (Ge G9 O O O) O ?_)))
    obtain⟨c,b6,h⟩:=Gg h
    refine JLh (.tup [.agg (Slot.cs c.1),BL c.2]) (H2 O (H06 af d.Box c b6) H8f ⟨O,O,O,O,ø⟩) O (JLm (.tup [.agg (Slot.cs c.1),BL c.2]) O (JLh (.agg (Slot.cs c.1)) (Hp O O O) O (JLh (BL c.2) (Hp O O O) O (JLh (.ptr 1135 0) (Hg 1135 3 Zc O O) O (Hd (u:=.junk) (Gy (u:=.agg (Slot.cs c.1)) (ds:=[I64 c.1.G6,I64 c.1.Tier,U8 c.1.Half]) G11 O O O O O O O O) (JLm (BL c.2) O (G4 (b5 ?_))))))))
    refine fzQ [(1,E4 bf),(2,E4 af),(9,.ptr 1131 0),(10,.ptr 1132 0),(14,Eg d),(15,Ej b.1),(16,BL b.2),(17,Ej c.1),(18,BL c.2),(24,LS 1 (E4) [bf,af]),(25,I64 ([bf,af].length:Int)),(26,Ek j),(30,E4 g),(31,Ek g.length),(32,Ek e)] [(1136,MP 197 Kj (fun _:Unit=>.agg []) a.1),(1137,.vec 3 1 a.2.length (a.2.map I64)),(1130,.box 197 [.mp 1136]),(1131,.box 39 [.vec 1137 a.2.length 1 a.2.length]),(1132,.box 198 [.fn 108 (Ez bf af s)])] 1135 rfl rfl rfl ⟨fmQ O,⟨_,rfl,.vec⟩,⟨_,rfl,.boxEq rfl rfl⟩,⟨_,rfl,.boxEq rfl rfl⟩,⟨_,rfl,.boxEq rfl rfl⟩,ø⟩ rfl ?_
    refine Jr fun b7=>(JLm (BL b.2) O (JLm (BL c.2) O (JLh (BL (!(b.2==c.2))) (R62 Jb4 O O O) O (JLm (BL (!(b.2==c.2))) O (JLo (.agg (Slot.cs b.1)) [] O .scf ø (fun hc=>Gk Jw O O O) O (JLo (.agg (Slot.cs c.1)) [] O .scf ø (fun hc=>Gk Jw O O O) O (JLo (BL (!decide (b.1=c.1))) [54,55] O .scf ⟨Ua,Ua,ø⟩ (fun hc=>Qf0 (vs:=[.int .i64 b.1.G6,.int .i64 b.1.Tier,.int .u8 b.1.Half]) (us:=[.int .i64 c.1.G6,.int .i64 c.1.Tier,.int .u8 c.1.Half]) 4 O (Ra5 b.1 c.1) J07 Jb2 O O O) O (JLh (BL ((!(b.2==c.2))||(!decide (b.1=c.1)))) (G18 O O O O) O (G4 (b7 (JCc O h (fun h hb=>?_) (fun h hb=>?_))))))))))))
    ·
     refine G2 (JLh (.fn 108 (Ez bf af s)) (Jg Gf9 O O O O) O (JLh (Eg d) (Gb Jn O O O) O (JLh (I64 d.Box) (Ge G9 O O O) O ?_)))
     obtain⟨l,b8,h⟩:=Gg h
     refine JLh (.tup []) (G7c (args:=[I64 d.Box]) (caps:=(Ez bf af s)) (L0:=[(1130,.box 197 [.mp 1136]),(1136,MP 197 Kj (fun _:Unit=>.agg []) a.1),(1131,.box 39 [.vec 1137 a.2.length 1 a.2.length]),(1137,.vec 3 1 a.2.length (a.2.map I64)),(1132,.box 198 [.fn 108 (Ez bf af s)])]) (Lr:=[(1130,.box 197 [.mp 1136]),(1136,MP 197 Kj (fun _:Unit=>.agg []) l.1),(1131,.box 39 [.vec 1137 l.2.length 1 l.2.length]),(1137,.vec 3 1 l.2.length (l.2.map I64)),(1132,.box 198 [.fn 108 (Ez bf af s)])]) O O (Hd2 F d.Box a.1 a.2 [bf,af] s l b8) H48 ⟨.inl O,O,ø⟩ O ⟨O,O,O,O,O,ø⟩ O O O) O (G4 ?_)
     exact ej62 _ _ (l.1,l.2) h ⟨(.sm O O),⟨fmQ O,⟨_,rfl,.vec⟩,fbQ O ⟨.same rfl,ø⟩,fbQ O ⟨.same rfl,ø⟩,fbQ O ⟨.same rfl,ø⟩,ø⟩,rfl⟩
    ·
     refine Gn (ej62 _ _ (a.1,a.2) h ⟨(.sm O O),⟨fmQ O,⟨_,rfl,.vec⟩,fbQ O ⟨.same rfl,ø⟩,fbQ O ⟨.same rfl,ø⟩,fbQ O ⟨.same rfl,ø⟩,ø⟩,rfl⟩)
   ·intro k h
    replace h:=app1 p h
    refine G2 (JLh (I64 ((e+1:Nat):Int)) (Ht (H7 n a4) O O O) O (JLm (I64 ((e+1:Nat):Int)) O (G4 (d6 _ _ (e+1) (k.1,k.2) (app1 b0 h) (by omega) ⟨(.sm O O),⟨fmQ O,⟨_,rfl,.vec⟩,fbQ O ⟨.same rfl,ø⟩,fbQ O ⟨.same rfl,ø⟩,fbQ O ⟨.same rfl,ø⟩,ø⟩,rfl⟩))))
  ·
   have h:=app1 o (Hm m (H6 hb))
   refine Hj (a1 (G2 (JLh (I64 ((j+1:Nat):Int)) (Ht (H7 t w) O O O) O (JLm (I64 ((j+1:Nat):Int)) O (G4 (e9 _ _ (j+1) (a.1,a.2) (app1 d4 h) (by omega) ⟨(.sm O O),⟨fmQ O,⟨_,rfl,.vec⟩,fbQ O ⟨.same rfl,ø⟩,fbQ O ⟨.same rfl,ø⟩,fbQ O ⟨.same rfl,ø⟩,ø⟩,rfl⟩))))))
 ·
  have h:=app1 x (Hm q (H6 hb))
  refine Hj (c9 (Jr fun c0=>(JLh (.vec 1137 i.2.length 1 i.2.length) (Jg Q8 O O O O) O ?_)))
  obtain⟨v,c1,h⟩:=Gg h
  refine JLh (.tup []) (R9a (F:=112) (xs:=i.2) (r:=v) O Jee Ja2 Q28 O O O c1 O) O (G4 (c0 (Jr fun c2=>(JLh (.vec 1137 i.2.length 1 i.2.length) (Jg Q8 O O O O) O (JLm (.vec 1137 i.2.length 1 i.2.length) O (G4 (c2 (H34 [(6,E5 v)] [] 1137 rfl rfl ø rfl (by exact⟨.vec,ø⟩) (Gw (fin1 (fun r:(List Int)=>(E5 r:AV)) h))))))))))

def H07 (F:Nat) (s:Gf) (boxes:List Box) (bf:List G1) (af:List G1):Option ((List Int)×Int):=
 bnd (Qw s boxes bf) fun a=>
 bnd (bif (!(!a)) then Qw s boxes af else some default) fun b=>
 bif ((!a)||(!b)) then
 (some ([],2))
 else
 (bnd (H05 F s bf af) fun c=>
  some (c,0))
theorem J2c (F:Nat) (s:Gf) (boxes:List Box) (bf:List G1) (af:List G1) (r:(List Int)×Int) (h:H07 F s boxes bf af=some r):Pure Em 27 [.agg (Gf.cs s),E6 boxes,E4 bf,E4 af] (·=.tup [E5 r.1,I64 r.2]):=by
 unfold H07 at h
 refine H5 [.tmp 8,.tmp 9] Tryz.func27 O O (Jr fun e=>(JLh (.ptr 1069 0) (Jt (cs:=(Gf.cs s)) 1069 O O O O O) O (JLh (E5 ([]:List Int)) (Q6 1 O O) O (JLm (I64 0) O (G4 (e (fzQ [(1,E6 boxes),(2,E4 bf),(3,E4 af),(4,Ef s)] [] 1069 rfl rfl rfl ø rfl (Js fun f=>Jr fun g=>(JLh (.agg (Gf.cs s)) (Gk J6 O O O) O (JLm (E6 boxes) O (JLm (E4 bf) O ?_)))))))))))
 obtain⟨a,i,h⟩:=Gg h
 refine JLh (BL a) (H2 O (Z4 s boxes bf a i) G51 ⟨O,O,O,O,O,O,ø⟩) O (JLh (BL (!a)) (G03 (b:=a) O O) O (JLm (BL (!a)) O (JLo (.agg (Gf.cs s)) [] O .scf ø (fun hc=>Gk J6 O O O) O (JLo (E6 boxes) [] O .scf ø (fun hc=>G5 O O) O (JLo (E4 af) [] O .scf ø (fun hc=>G5 O O) O ?_)))))
 obtain⟨c,j,h⟩:=Gg h
 refine JLo (BL c) [16,17,18] O .scf ⟨Ua,Ua,Ua,ø⟩ (fun hc=>H2 (args:=[.agg (Gf.cs s),E6 boxes,E4 af]) O (Z4 s boxes af c (H9 hc j)) G51 ⟨O,O,O,O,O,O,ø⟩) O (JLo (BL (!c)) [19] O .scf ⟨Ua,ø⟩ (fun hc=>G03 (b:=c) O O) O (JLh (BL ((!a)||(!c))) (G18 O O O O) O (G4 (g (JCc O h (fun h hb=>?_) (fun h hb=>?_))))))
 ·
  refine Jr fun k=>(JLh (E5 ([]:List Int)) (Q6 1 O O) O (JLm (I64 2) O (G4 (k (Gw (⟨[E5 ([]:List Int),I64 2],[],ø,O,⟨⟨_,O,.conv (.same O)⟩,⟨_,O,.conv (.same O)⟩,ø⟩,O,congrArg (fun r:(List Int)×Int=>(.tup [E5 r.1,I64 r.2]:AV)) (Kz h)⟩))))))
 ·
  refine Gn (f (Jr fun l=>(JLh (.agg (Gf.cs s)) (Gk J6 O O O) O (JLm (E4 bf) O (JLm (E4 af) O ?_)))))
  obtain⟨d,m,h⟩:=Gg h
  refine JLh (E5 d) (H2 O (J2a F s bf af d m) Q83 ⟨O,O,O,O,O,O,ø⟩) O (JLm (E5 d) O (JLm (I64 0) O (G4 (l (Gw (⟨[E5 d,I64 0],[],ø,O,⟨⟨_,O,.conv (.same O)⟩,⟨_,O,.conv (.same O)⟩,ø⟩,O,congrArg (fun r:(List Int)×Int=>(.tup [E5 r.1,I64 r.2]:AV)) (Kz h)⟩))))))

def G17 (x:G1) (a:Int):Option Bool:=
 some (decide (x.Box=a))
theorem H60 (x:G1) (a:Int) (r:Bool) (h:G17 x a=some r):Pure Em 29 [.agg (G1.cs x),.dptr [I64 a]] (·=BL r):=by
 unfold G17 at h
 refine H5 [.tmp 3] Tryz.func29 O O (Jr fun b=>(JLh (.ptr 1070 0) (Jt (cs:=[I64 x.Box,I64 x.Slot.G6,I64 x.Slot.Tier,U8 x.Slot.Half]) 1070 O O O O O) O (JLm (BL false) O (G4 (b (Gh [(1,.dptr [I64 a]),(2,Eg x)] [] 1070 rfl rfl rfl ø rfl (by exact⟨.conv (.same rfl),.ptr,ø⟩) (Jr fun c=>(JLh (Eg x) (Gb Jn O O O) O (JLh (I64 x.Box) (Ge G9 O O O) O (JLh (I64 a) (Ge G9 O O O) O (JLh (BL (decide (x.Box=a))) (Qn O O O) O (JLm (BL (decide (x.Box=a))) O (G4 (c (Gw (fin1 BL h))))))))))))))))

def Ry (s:List G1) (f:G1→Option Bool):Option Bool:=
 bnd (R7 s f) fun a=>
 some (decide (0≤a))
theorem G61 (s:List G1) (f:G1→Option Bool) (f_f:FuncId) (f_c:List AV) (f_B:H8 Em f_f=true) (f_d:Q3 (fun _=>false) f_c=true) (f_w:∀ a0 q,f a0=some q→Pure Em f_f ([.agg (G1.cs a0)]++f_c) (·=BL q)) (r:Bool) (h:Ry s f=some r):Pure Em 28 [E4 s,.fn f_f f_c] (·=BL r):=by
 unfold Ry at h
 refine H5 [.tmp 4] Tryz.func28 O O (Jr fun b=>(JLm (BL false) O (G4 (b (Jr fun c=>(JLm (E4 s) O (JLm (.fn f_f f_c) O ?_)))))))
 obtain⟨a,d,h⟩:=Gg h
 refine JLh (I64 a) (H2 O (G08 s f f_f f_c f_B f_d f_w a d) J50 ⟨O,O,O,f_d,ø⟩) O (JLh (BL (decide (0≤a))) (Gdd O O O) O (JLm (BL (decide (0≤a))) O (G4 (c (Gw (fin1 BL h))))))

def Jp (F:Nat) (bf:List G1) (af:List G1) (l:Gf) (m:List Box):Option Int:=
 bnd (H07 F l m bf af) fun n=>
 each (fun o q (c:Int) e=>
  each (fun f p (a:Int) d=>
   jp (fun b=>
    bnd (Ry f (fun z0=>G17 z0 o)) fun g=>
    bif g then
    (chk (a+1) fun h=>
     b h)
    else
    (b a)) fun(i:Int)=>
   d i)
  (fun(a:Int)=>
   bnd (Q3f a 2) fun j=>
   chk (c+j) fun k=>
   e k) [bf,af] 0 0)
 (fun(c:Int)=>
  some c) n.1 0 0
theorem G16 (F:Nat) (bf:List G1) (af:List G1) (p:Gf) (s:List Box) (r:Int) (h:Jp F bf af p s=some r):Pure Em 26 [E4 bf,E4 af,Ef p,.dptr [E6 s]] (·=I64 r):=by
 unfold Jp at h
 refine H5 [.tmp 6] Tryz.func26 O O (Jr fun c2=>(JLm (I64 0) O (G4 (c2 (Jr fun c3=>(JLh (.agg (Gf.cs p)) (Gk J6 O O O) O (JLh (E6 s) (Ge G62 O O O) O (JLm (E4 bf) O (JLm (E4 af) O ?_)))))))))
 obtain⟨a,c4,h⟩:=Gg h
 refine JLh (.tup [E5 a.1,I64 a.2]) (H2 O (J2c F p s bf af a c4) Q9c ⟨O,O,O,O,O,O,O,O,ø⟩) O (JLm (.tup [E5 a.1,I64 a.2]) O (JLh (E5 a.1) (Hp O O O) O (JLh (I64 a.2) (Hp O O O) O (JLm (E5 a.1) O (JLm (I64 a.2) O (G4 (c3 (Jr fun c5=>(JLm (I64 0) O (G4 (c5 (Js fun c6=>Jr fun c7=>(JLm (E5 a.1) O (JLl Gv O O O fun a0=>(JLm (I64 0) O (G4 (c7 (Gi ?_))))))))))))))))))
 obtain⟨b7,c8,c9,a1,h⟩:=Hu h
 refine Hf (fun c (g:Int)=>each b7 c8 (List.drop c a.1) c g=some r) (fun c g=>[(0,E4 bf),(1,E4 af),(9,I64 g),(23,E5 a.1),(24,Ek a.1.length),(25,Ek c)]) (fun c g=>[]) (fun c=>a.1.length - c) 0 0 h ⟨(.sm O O),ø,rfl⟩ ?_
 clear h
 intro c g w K7 e7
 refine Jr fun d0=>(JLh (BL (decide ((c:Int) < (a.1.length:Int)))) (J8 O O O) O (G4 (d0 (Js fun d1=>Gj O (fun hb=>?_) (fun hb=>?_)))))
 ·
  have x:=Jh hb
  obtain⟨d,e0,d2,d3,h⟩:=Hk w x
  replace h:=Rh c9 h
  refine Gn (d1 (Js fun a2=>Gi (Jr fun a3=>(JLh (.dptr [I64 d]) (H0 (f:=I64) (xs:=a.1) (y:=d) O O O Gv d2 O) O (JLh (I64 d) (Ge G9 O O O) O (JLh (.ptr 1068 0) (Hg 1068 1 Rm O O) O (Hd (u:=.junk) (Gy (u:=I64 d) (ds:=[I64 d]) Yy O O O O O O O O) (G4 (a3 (fzQ [(0,E4 bf),(1,E4 af),(9,I64 g),(11,.dptr [I64 d]),(23,E5 a.1),(24,Ek a.1.length),(25,Ek c)] [] 1068 rfl rfl rfl ø rfl (Jr fun a4=>(JLm (I64 0) O (G4 (a4 (Js fun a5=>?_)))))))))))))))
  refine Jr fun a6=>(JLm (E4 bf) O (JLm (E4 af) O (JLh (LS 1 (E4) [bf,af]) (He (xs:=[E4 bf,E4 af]) O ⟨O,O,O,O,ø⟩ Hv G9c O O O O) O (JLl Hv O O O fun a7=>(JLm (I64 0) O (G4 (a6 (Gi ?_))))))))
  obtain⟨d4,a8,a9,t,h⟩:=Hu h
  refine Hf (fun b (e:Int)=>each d4 a8 (List.drop b [bf,af]) b e=some r) (fun b e=>[(0,E4 bf),(1,E4 af),(9,I64 g),(11,.dptr [I64 d]),(12,I64 e),(23,E5 a.1),(24,Ek a.1.length),(25,Ek c),(31,LS 1 (E4) [bf,af]),(32,I64 ([bf,af].length:Int)),(33,Ek b)]) (fun b e=>[]) (fun b=>[bf,af].length - b) 0 0 h ⟨(.sm O O),ø,rfl⟩ ?_
  clear h
  intro b e k e1 d5
  refine Jr fun b0=>(JLh (BL (decide ((b:Int) < ([bf,af].length:Int)))) (J8 O O O) O (G4 (b0 (Js fun b1=>Gj O (fun hb=>?_) (fun hb=>?_)))))
  ·
   have l:=Jh hb
   obtain⟨i,d9,b2,b3,h⟩:=Hk k l
   replace h:=Rh a9 h
   refine Gn (b1 ?_)
   obtain⟨b4,v,h⟩:=Qr h
   refine Q0 (fun j:Int=>b4 j=some r) (fun j=>[(0,E4 bf),(1,E4 af),(9,I64 g),(11,.dptr [I64 d]),(12,I64 j),(23,E5 a.1),(24,Ek a.1.length),(25,Ek c),(31,LS 1 (E4) [bf,af]),(32,I64 ([bf,af].length:Int)),(33,Ek b)]) (fun j=>[]) (fun Kj34 ej34=>?_) ?_
   ·
    refine Gi (Jr fun b5=>(JLh (.dptr [E4 i]) (H0 (f:=(E4)) (xs:=[bf,af]) (y:=i) O O O Hv b2 O) O (JLh (E4 i) (Ge Rn O O O) O (JLm (E4 i) O (G4 (b5 (Jr fun b6=>(JLm (E4 i) O (JLh (.fn 29 [.dptr [I64 d]]) (Y4 (cs:=[.dptr [I64 d]]) O O) O ?_)))))))))
    obtain⟨z,b8,h⟩:=Gg h
    refine JLh (BL z) (H2 O (G61 i (fun z0=>G17 z0 d) 29 [.dptr [I64 d]] Q9a O (fun z0 q hq=>H60 z0 d q hq) z b8) Q9b ⟨O,O,O,O,ø⟩) O (G4 (b6 (JCc O h (fun h hb=>?_) (fun h hb=>?_))))
    ·
     refine G2 (JLm (I64 e) O ?_)
     obtain⟨m,b9,h⟩:=Hx h
     refine JLh (I64 m) (Ht b9 O O O) O (JLm (I64 m) O (G4 (ej34 _ _ m h ⟨(.sm O O),ø,rfl⟩)))
    ·
     refine Gn (ej34 _ _ e h ⟨(.sm O O),ø,rfl⟩)
   ·intro j h
    replace h:=app1 v h
    refine G2 (JLh (I64 ((b+1:Nat):Int)) (Ht (H7 l a7) O O O) O (JLm (I64 ((b+1:Nat):Int)) O (G4 (d5 _ _ (b+1) j (app1 b3 h) (by omega) ⟨(.sm O O),ø,rfl⟩))))
  ·
   have h:=app1 t (Hm k (H6 hb))
   refine Hj (a5 (G2 (JLm (I64 g) O (JLm (I64 e) O ?_))))
   obtain⟨d6,n,h⟩:=Gg h
   refine JLh (I64 d6) (Y07 (Jc3 n).1 (Jc3 n).2 O O O) O ?_
   obtain⟨o,c0,h⟩:=Hx h
   refine JLh (I64 o) (Ht c0 O O O) O (JLm (I64 o) O (G4 (a2 (G2 (JLh (I64 ((c+1:Nat):Int)) (Ht (H7 x a0) O O O) O (JLm (I64 ((c+1:Nat):Int)) O (G4 (e7 _ _ (c+1) o (app1 d3 h) (by omega) ⟨(.sm O O),ø,rfl⟩))))))))
 ·
  have h:=app1 a1 (Hm w (H6 hb))
  refine Hj (c6 (Jr fun c1=>(JLm (I64 g) O (JLm (I64 g) O (G4 (c1 (Gw (fin1 I64 h))))))))
end
end Go.Proofs.YtibhpogonkdiaaaGreat
