/- Walks of functions. -/
import Derived.Test.YtibhpogonkdiaaaGreatXS
set_option linter.unnecessarySimpa false
set_option maxRecDepth 100000
set_option maxHeartbeats 1000000
set_option linter.unusedVariables false
set_option linter.unusedSimpArgs false
namespace Go.Proofs.YtibhpogonkdiaaaGreat
open Go.RowKit
noncomputable section
structure Gs where
 e0:Int
 e1:Int
 deriving DecidableEq,Inhabited
def Gs.cs (x:Gs):List AV:=[I64 x.e0,I64 x.e1]
def Gs.av (x:Gs):AV:=.agg x.cs
structure Gc where
 restows:Int
 next:Int
 deriving DecidableEq,Inhabited
def Gc.cs (x:Gc):List AV:=[I64 x.restows,I64 x.next]
def Gc.av (x:Gc):AV:=.agg x.cs
def Gs.ks (x:Gs):List Value:=[.int .i64 x.e0,.int .i64 x.e1]
def Gs.kv (x:Gs):Value:=.agg x.ks.toArray
namespace XLF
open XAF
open XCF
open XFF
open XSF
theorem Y17 (a b:Gs):H65 Em 4 93 [.int .i64 a.e0,.int .i64 a.e1] [.int .i64 b.e0,.int .i64 b.e1]=some (decide (a=b)):=by
 refine(show _=some ((a.e0==b.e0)&&((a.e1==b.e1)&&true)) by kernel_rfl).trans (congrArg some ?_)
 rw [Bool.eq_iff_iff]
 simp only [Mc,beq_iff_eq,Md,Bool.and_true]
 constructor
 ·intro h; obtain⟨_,_⟩:=a; obtain⟨_,_⟩:=b; simp_all
 ·intro h; subst h; simp
theorem G2e:G8f Em 48 2=true:=by kernel_rfl
theorem G2d:G8f Em 91 2=true:=by kernel_rfl
theorem Jd1:G8f Em 93 2=true:=by kernel_rfl
theorem R24:Rb3 Em 93 3 1=true:=by kernel_rfl
theorem Jd0:J33 Em 4=true:=by kernel_rfl
theorem H57:He Em 108=true:=by kernel_rfl
theorem Q46:He Em 109=true:=by kernel_rfl
theorem J17:He Em 110=true:=by kernel_rfl
theorem Q45:He Em 111=true:=by kernel_rfl
theorem Q44:He Em 112=true:=by kernel_rfl
theorem Q3f:He Em 120=true:=by kernel_rfl
theorem Q3e:He Em 141=true:=by kernel_rfl
theorem Q3d:He Em 142=true:=by kernel_rfl
theorem Q3c:He Em 143=true:=by kernel_rfl
theorem Q3b:He Em 163=true:=by kernel_rfl
theorem Q3a:He Em 164=true:=by kernel_rfl
theorem Ha4:He Em 24=true:=by kernel_rfl
theorem H33:He Em 26=true:=by kernel_rfl
theorem Qbd:He Em 27=true:=by kernel_rfl
theorem Qbc:He Em 28=true:=by kernel_rfl
theorem Qbb:He Em 29=true:=by kernel_rfl
theorem Ge1:He Em 30=true:=by kernel_rfl
theorem Qba:He Em 31=true:=by kernel_rfl
theorem Qb9:He Em 32=true:=by kernel_rfl
theorem Qa4:He Em 68=true:=by kernel_rfl
theorem J67:He Em 69=true:=by kernel_rfl
theorem Ha2:He Em 85=true:=by kernel_rfl
theorem Q9b:Rq Em 42 1 24=true:=by kernel_rfl
theorem Gde:H3d Em 91 0 0=true:=by kernel_rfl
theorem Q9a:H3d Em 91 1 1=true:=by kernel_rfl
theorem Jb6:Jn Em 91 0 0=true:=by kernel_rfl
theorem Jb5:Jn Em 91 1 1=true:=by kernel_rfl
theorem J54:G01 Em 197 3 224=true:=by kernel_rfl
theorem Jcc:G01 Em 88 93 91=true:=by kernel_rfl
theorem Jb1:placesOf Em 224=some []:=by kernel_rfl
theorem Gcc:placesOf Em 48=some [(0,1),(1,1)]:=by kernel_rfl
theorem Hc5:placesOf Em 91=some [(0,1),(1,1)]:=by kernel_rfl
theorem Jb0:Qx Em 197=true:=by kernel_rfl
theorem H0d:Qx Em 198=true:=by kernel_rfl
theorem G1f:Qx Em 81=true:=by kernel_rfl
theorem Q01:Qx Em 87=true:=by kernel_rfl
theorem Q00:Qx Em 88=true:=by kernel_rfl
theorem G41:Qx Em 89=true:=by kernel_rfl
theorem Q37:R2 Em 197 1=true:=by kernel_rfl
theorem Q36:R2 Em 198 1=true:=by kernel_rfl
theorem Q35:R2 Em 224 0=true:=by kernel_rfl
theorem Q99:R2 Em 39 1=true:=by kernel_rfl
theorem R5:R2 Em 48 2=true:=by kernel_rfl
theorem Q97:R2 Em 81 1=true:=by kernel_rfl
theorem Q96:R2 Em 87 1=true:=by kernel_rfl
theorem Q95:R2 Em 88 1=true:=by kernel_rfl
theorem Q94:R2 Em 89 1=true:=by kernel_rfl
theorem G1d:R2 Em 91 2=true:=by kernel_rfl
theorem G19:sliceB Em 81 42 1=true:=by kernel_rfl
theorem Q34:(Em.info? 224).bind (fun i=>i.zero.map Value.cells)=some (List.toArray []):=by kernel_rfl
theorem Q92:(Em.info? 39).bind (fun i=>i.zero.map Value.cells)=some (List.toArray [.slice none 0 0]):=by kernel_rfl
theorem G1c:(Em.info? 48).bind (fun i=>i.zero.map Value.cells)=some (List.toArray [.slice none 0 0,.slice none 0 0]):=by kernel_rfl
theorem Q8e:(Em.info? 81).bind (fun i=>i.zero.map Value.cells)=some (List.toArray [.slice none 0 0]):=by kernel_rfl
theorem Gdb:(Em.info? 91).bind (fun i=>i.zero.map Value.cells)=some (List.toArray [E0,E0]):=by kernel_rfl
theorem Q8d:(Em.info? 93).bind (fun i=>i.zero.map Value.cells)=some (List.toArray [E0,E0]):=by kernel_rfl
theorem Jfe:Qf Em 197 1=true:=by kernel_rfl
theorem Jfd:Qf Em 198 1=true:=by kernel_rfl
theorem Jfc:Qf Em 224 0=true:=by kernel_rfl
theorem J10:Qf Em 42 1=true:=by kernel_rfl
theorem Q33:Qf Em 87 1=true:=by kernel_rfl
theorem Q32:Qf Em 88 1=true:=by kernel_rfl
theorem Q31:Qf Em 89 1=true:=by kernel_rfl
theorem H52:Qf Em 91 2=true:=by kernel_rfl
theorem R20:(Em.info? 224).bind (·.zero)=some (.agg #[]):=by kernel_rfl
theorem R65:(Em.info? 91).bind (·.zero)=some (.agg #[E0,E0]):=by kernel_rfl
theorem R1f:Gbe Em 3 Kk:=Gbe.of_int (by kernel_rfl)
theorem Rd2:Gbe Em 93 Gs.kv:=Gbe.of_eq Gs.ks (by kernel_rfl) (fun a b h=>by simp only [Gs.ks,List.cons.injEq,Value.int.injEq,Value.bool.injEq,Value.string.injEq,true_and,and_true] at h; obtain⟨_,_⟩:=a; obtain⟨_,_⟩:=b; simp_all) 4 (by decide) (fun a b=>Y17 a b) (fun a=>by kernel_rfl) (fun a=>by simp [Instr.sameBits,Gs.ks])
end XLF
open XAF
open XCF
open XFF
open XSF
open XLF

def Zo (c0_:Int) (c1_:Int) (c2_:List (List (List G1))) (c3_:(List G1)→(List G1)→Option Int) (c4_:Int) (m_:Gu Gs Gc) (self_:Int→Int→Gu Gs Gc→Option (Gc×Gu Gs Gc)):Option (Gc×(Gu Gs Gc)):=
 chk (c0_+1) fun p=>
 bif decide (p=c1_) then
 (some ((Gc.mk 0 (-1)),m_))
 else
 (chk (c0_+1) fun q=>
  Jz c2_ q fun i=>
  each (fun r c (a:Int×Int×(Gu Gs Gc)) g=>
   jp (fun d=>
    Jz c2_ c0_ fun j=>
    Jz j c4_ fun k=>
    chk (c0_+1) fun l=>
    Jz c2_ l fun m=>
    Jz m (c:Int) fun n=>
    bnd (c3_ k n) fun o=>
    chk (c0_+1) fun h=>
    bnd (self_ h (c:Int) a.2.2) fun b=>
    chk (o+b.1.restows) fun e=>
    bif ((decide (a.2.1 < 0))||(decide (e < a.1))) then
    (d (b.2,e,(c:Int)))
    else
    (d (b.2,a.1,a.2.1))) fun(f:(Gu Gs Gc)×Int×Int)=>
   g (f.2.1,f.2.2,f.1))
  (fun(a:Int×Int×(Gu Gs Gc))=>
   some ((Gc.mk a.1 a.2.1),a.2.2)) i 0 (0,(-1),m_))
abbrev Es (c1_:Int) (c2_:List (List (List G1))) (c3__f:FuncId) (c3__c:List AV):List AV:=[.ptr 1024 0,.dptr [I64 c1_],.dptr [LS 1 (LS 1 (E4)) c2_],.dptr [.fn c3__f c3__c],.ptr 1025 0]
theorem H6f (c0_:Int) (c1_:Int) (c2_:List (List (List G1))) (c3_:(List G1)→(List G1)→Option Int) (c3__f:FuncId) (c3__c:List AV) (c3__B:He Em c3__f=true) (c3__d:Qe (fun _=>false) c3__c=true) (c3__w:∀ a0 a1 q,c3_ a0 a1=some q→Pure Em c3__f ([E4 a0,E4 a1]++c3__c) (·=I64 q)) (c4_:Int) (m_:Gu Gs Gc) (self_:Int→Int→Gu Gs Gc→Option (Gc×Gu Gs Gc)) (self_w:∀ (q_0:Int) (q_1:Int) (m_:Gu Gs Gc) (r_:Gc×Gu Gs Gc),self_ q_0 q_1 m_=some r_→Jw Em 30 [I64 q_0,I64 q_1,.ptr 1024 0,.dptr [I64 c1_],.dptr [LS 1 (LS 1 (E4)) c2_],.dptr [.fn c3__f c3__c],.ptr 1025 0] [(1024,.box 88 [.mp 1027]),(1027,MP 88 Gs.kv Gc.av m_),(1025,.box 89 [.fn 30 [.ptr 1024 0,.dptr [I64 c1_],.dptr [LS 1 (LS 1 (E4)) c2_],.dptr [.fn c3__f c3__c],.ptr 1025 0]])] (fun av L'=>av=.agg [I64 r_.1.restows,I64 r_.1.next]∧L'=[(1024,.box 88 [.mp 1027]),(1027,MP 88 Gs.kv Gc.av r_.2),(1025,.box 89 [.fn 30 [.ptr 1024 0,.dptr [I64 c1_],.dptr [LS 1 (LS 1 (E4)) c2_],.dptr [.fn c3__f c3__c],.ptr 1025 0]])])) (r:Gc×(Gu Gs Gc)) (h:Zo c0_ c1_ c2_ c3_ c4_ m_ self_=some r):Jw Em 32 [.dptr [I64 c0_],.dptr [I64 c1_],.dptr [LS 1 (LS 1 (E4)) c2_],.dptr [.fn c3__f c3__c],.dptr [I64 c4_],.ptr 1025 0] [(1024,.box 88 [.mp 1027]),(1027,MP 88 Gs.kv Gc.av m_),(1025,.box 89 [.fn 30 [.ptr 1024 0,.dptr [I64 c1_],.dptr [LS 1 (LS 1 (E4)) c2_],.dptr [.fn c3__f c3__c],.ptr 1025 0]])] (fun av L'=>av=.agg [I64 r.1.restows,I64 r.1.next]∧L'=[(1024,.box 88 [.mp 1027]),(1027,MP 88 Gs.kv Gc.av r.2),(1025,.box 89 [.fn 30 [.ptr 1024 0,.dptr [I64 c1_],.dptr [LS 1 (LS 1 (E4)) c2_],.dptr [.fn c3__f c3__c],.ptr 1025 0]])]):=by
 unfold Zo at h
 refine Zp [1025,1024,1027] [.cell 6 91] Tryz.func32 O O (H62 O) (Jr fun c3=>(JLh (.ptr 1087 0) (Y7 1087 [I64 0,I64 0] [E0,E0] Gdb (zzQ O) O O) O (G6 (c3 (Jr fun c4=>(JLh (.agg [I64 0,I64 (-1)]) (J6 (cs:=[I64 0,I64 (-1)]) [(0,1),(1,1)] [I64 0,I64 0] [E0,E0] Hc5 Gdb (zzQ O) O O) O (JLh (.ptr 1088 0) (Hd 1088 2 H52 O O) O (Hb (u:=.junk) (Gz (u:=.agg [I64 0,I64 (-1)]) (ds:=[I64 0,I64 (-1)]) G1d O O O O O O O O) (G6 (c4 (Js fun c5=>Jr fun c6=>(JLh (I64 c0_) (Gf G9 O O O) O ?_))))))))))))
 obtain⟨v5,c8,h⟩:=J5 h
 refine JLh (I64 v5) (Hv c8 O O O) O (JLh (I64 c1_) (Gf G9 O O O) O (JLh (BL (decide (v5=c1_))) (Q4 O O O) O (G6 (c6 (JCc O h (fun h hb=>?_) (fun h hb=>?_))))))
 ·
  refine Jr fun c9=>(JLh (.agg [I64 0,I64 (-1)]) (G0f G2d O O O O) O (Hb (u:=.junk) (Gz (u:=.agg [I64 0,I64 (-1)]) (ds:=[I64 0,I64 (-1)]) G1d O O O O O O O O) (G6 (c9 (Gj [(6,.ptr 1087 0)] [(1024,.box 88 [.mp 1027]),(1027,MP 88 Gs.kv Gc.av m_),(1025,.box 89 [.fn 30 (Es c1_ c2_ c3__f c3__c)]),(1087,.box 91 [I64 0,I64 (-1)])] 1088 rfl rfl rfl ⟨⟨_,rfl,.boxEq rfl rfl⟩,fmQ O,⟨_,rfl,.boxEq rfl rfl⟩,⟨_,rfl,.boxEq rfl rfl⟩,ø⟩ rfl (by exact⟨.conv (.same rfl),ø⟩) (Gy ?_))))))
  obtain rfl:=M0 h
  exact⟨[.agg [I64 0,I64 (-1)]],[(1024,.box 88 [.mp 1027]),(1027,MP 88 Gs.kv Gc.av m_),(1025,.box 89 [.fn 30 (Es c1_ c2_ c3__f c3__c)])],⟨⟨_,O,.boxL O ⟨.same O,ø⟩⟩,⟨_,O,.map⟩,⟨_,O,.boxL O ⟨.same O,ø⟩⟩,ø⟩,O,⟨⟨_,⟨_,_,_,_,O,O,O,.inl ⟨G2d,O⟩⟩,.conv (.same O)⟩,ø⟩,O,O⟩
 ·
  refine Gp (c5 (Js fun d0=>Jr fun d1=>(JLh (LS 1 (LS 1 (E4)) c2_) (Gf G1f O O O) O (JLh (I64 c0_) (Gf G9 O O O) O ?_))))
  obtain⟨v9,d2,h⟩:=J5 h
  refine JLh (I64 v9) (Hv d2 O O O) O ?_
  obtain⟨e0,g,a2,a3,h⟩:=Qm h
  refine JLh (.dptr [LS 1 (E4) g]) (H3 (f:=(LS 1 (E4))) (xs:=c2_) (y:=g) O O O G19 a3 a2) O (JLh (LS 1 (E4) g) (Gf Jy O O O) O (JLl Hz O O O fun a4=>(JLm (I64 0) O (G6 (d1 (Gk ?_))))))
  obtain⟨d3,a5,a6,p,h⟩:=J3 h
  refine Hi (fun b (a:Int×Int×(Gu Gs Gc))=>each d3 a5 (List.drop b g) b a=some r) (fun b a=>[(0,.dptr [I64 c0_]),(2,.dptr [LS 1 (LS 1 (E4)) c2_]),(3,.dptr [.fn c3__f c3__c]),(4,.dptr [I64 c4_]),(5,.ptr 1025 0),(6,.ptr 1087 0),(7,.ptr 1088 0),(21,Ek g.length),(22,Ek b)]) (fun b a=>[(1027,MP 88 Gs.kv Gc.av a.2.2),(1024,.box 88 [.mp 1027]),(1025,.box 89 [.fn 30 (Es c1_ c2_ c3__f c3__c)]),(1087,.box 91 [I64 0,I64 0]),(1088,.box 91 [I64 a.1,I64 a.2.1])]) (fun b=>g.length - b) 0 (0,(-1),m_) h ⟨(.sm O O),⟨fmQ O,fbQ O ⟨.same rfl,ø⟩,fbQ O ⟨.same rfl,ø⟩,fbQ O (.sm O O),fbQ O (.sm O O),ø⟩,rfl⟩ ?_
  clear h
  intro b a n e1 d4
  refine Jr fun a7=>(JLh (BL (decide ((b:Int) < (g.length:Int)))) (Jc O O O) O (G6 (a7 (Js fun a8=>Gn O (fun hb=>?_) (fun hb=>?_)))))
  ·
   have o:=Jk hb
   obtain⟨e2,d8,d9,a9,h⟩:=Hr n o
   replace h:=Ry a6 h
   refine Gp (a8 ?_)
   obtain⟨b0,s,h⟩:=R1 h
   refine Qa (fun e:(Gu Gs Gc)×Int×Int=>b0 e=some r) (fun e=>[(0,.dptr [I64 c0_]),(2,.dptr [LS 1 (LS 1 (E4)) c2_]),(3,.dptr [.fn c3__f c3__c]),(4,.dptr [I64 c4_]),(5,.ptr 1025 0),(6,.ptr 1087 0),(7,.ptr 1088 0),(21,Ek g.length),(22,Ek b)]) (fun e=>[(1027,MP 88 Gs.kv Gc.av e.1),(1024,.box 88 [.mp 1027]),(1025,.box 89 [.fn 30 (Es c1_ c2_ c3__f c3__c)]),(1087,.box 91 [I64 0,I64 0]),(1088,.box 91 [I64 e.2.1,I64 e.2.2])]) (fun Kj87 ej87=>?_) ?_
   ·
    refine Gk (Jr fun b1=>(JLm (Ek b) O (JLm (Ek b) O (G6 (b1 (Js fun b2=>?_))))))
    refine Y6 (l':=[(0,.dptr [I64 c0_]),(2,.dptr [LS 1 (LS 1 (E4)) c2_]),(3,.dptr [.fn c3__f c3__c]),(4,.dptr [I64 c4_]),(5,.ptr 1025 0),(6,.ptr 1087 0),(7,.ptr 1088 0),(8,Ek b),(21,Ek g.length),(22,Ek b)]) (L':=[(1027,MP 88 Gs.kv Gc.av a.2.2),(1024,.box 88 [.mp 1027]),(1025,.box 89 [.fn 30 (Es c1_ c2_ c3__f c3__c)]),(1087,.box 91 [I64 0,I64 0]),(1088,.box 91 [I64 a.1,I64 a.2.1])]) ⟨(.sm O O),⟨fmQ O,fbQ O ⟨.same rfl,ø⟩,fbQ O ⟨.same rfl,ø⟩,fbQ O (.sm O O),fbQ O (.sm O O),ø⟩,rfl⟩ ?_
    obtain⟨e3,l,b3,b4,h⟩:=Qm h
    obtain⟨e4,i,b5,b6,h⟩:=Qm h
    obtain⟨d5,b7,h⟩:=J5 h
    obtain⟨e5,m,b8,b9,h⟩:=Qm h
    obtain⟨e6,j,c0,c1,h⟩:=Qm h
    obtain⟨d6,c2,h⟩:=Gh h
    obtain⟨k,t,h⟩:=J5 h
    obtain⟨d,v,h⟩:=Gh h
    obtain⟨c,w,h⟩:=J5 h
    refine Qw [21] [0,0,0,0,0,0,0,0,0,0,0,0,0,0,0,0,0,0,0,0,0,0,1,1,1] [0,0,0,0,0,0,0,0,0,0,0,0,0,0,0,0,0,0,0,0,0,0,1,1,1] [[(1027,MP 88 Gs.kv Gc.av a.2.2),(1024,.box 88 [.mp 1027]),(1025,.box 89 [.fn 30 (Es c1_ c2_ c3__f c3__c)]),(1087,.box 91 [I64 0,I64 0]),(1088,.box 91 [I64 a.1,I64 a.2.1])],((1027,MP 88 Gs.kv Gc.av d.2)::[(1027,MP 88 Gs.kv Gc.av a.2.2),(1024,.box 88 [.mp 1027]),(1025,.box 89 [.fn 30 (Es c1_ c2_ c3__f c3__c)]),(1087,.box 91 [I64 0,I64 0]),(1088,.box 91 [I64 a.1,I64 a.2.1])])] Q0 (by kernel_rfl) rfl rfl ?_
    refine Gq (u:=.fn c3__f c3__c) O O ⟨Gm (Gf Q01 O O O) O,ø⟩ (Gq (u:=LS 1 (LS 1 (E4)) c2_) O O ⟨Gm (Gf G1f O O O) O,ø⟩ (Gq (u:=I64 c0_) O O ⟨Gm (Gf G9 O O O) O,ø⟩ (Gq (u:=.dptr [LS 1 (E4) l]) O O ⟨Gm (H3 (f:=(LS 1 (E4))) (xs:=c2_) (y:=l) O O O G19 b4 b3) O,ø⟩ (Gq (u:=LS 1 (E4) l) O O ⟨Gm (Gf Jy O O O) O,ø⟩ (Gq (u:=I64 c4_) O O ⟨Gm (Gf G9 O O O) O,ø⟩ (Gq (u:=.dptr [E4 i]) O O ⟨Gm (H3 (f:=(E4)) (xs:=l) (y:=i) O O O Hz b6 b5) O,ø⟩ (Gq (u:=E4 i) O O ⟨Gm (Gf Y1 O O O) O,ø⟩ (Gq (u:=LS 1 (LS 1 (E4)) c2_) O O ⟨Gm (Gf G1f O O O) O,ø⟩ (Gq (u:=I64 c0_) O O ⟨Gm (Gf G9 O O O) O,ø⟩ (Gq (u:=I64 d5) O O ⟨Gm (Hv b7 O O O) O,ø⟩ (Gq (u:=.dptr [LS 1 (E4) m]) O O ⟨Gm (H3 (f:=(LS 1 (E4))) (xs:=c2_) (y:=m) O O O G19 b9 b8) O,ø⟩ (Gq (u:=LS 1 (E4) m) O O ⟨Gm (Gf Jy O O O) O,ø⟩ (Gq (u:=Ek b) O O ⟨Gm (G4 O O) O,ø⟩ ?_)))))))))))))
    refine Gq (u:=.dptr [E4 j]) O O ⟨Gm (H3 (f:=(E4)) (xs:=m) (y:=j) O O O Hz c1 c0) O,ø⟩ (Gq (u:=E4 j) O O ⟨Gm (Gf Y1 O O O) O,ø⟩ (Gq (u:=I64 d6) O O ⟨Gm (G18 (args:=[E4 i,E4 j]) (caps:=c3__c) O O (c3__w i j _ c2) c3__B ⟨O,O,O,O,ø⟩ c3__d) O,ø⟩ (Gq (u:=.fn 30 (Es c1_ c2_ c3__f c3__c)) O O ⟨Gm (Ji G41 O O O O) O,ø⟩ (Gq (u:=I64 c0_) O O ⟨Gm (Gf G9 O O O) O,ø⟩ (Gq (u:=I64 k) O O ⟨Gm (Hv t O O O) O,ø⟩ (Gq (u:=Ek b) O O ⟨Gm (G4 O O) O,ø⟩ (D_w (u:=.agg [I64 d.1.restows,I64 d.1.next]) O O O O (Zk.locEq (Gm (G8e (args:=[I64 k,Ek b]) (caps:=(Es c1_ c2_ c3__f c3__c)) (L0:=[(1024,.box 88 [.mp 1027]),(1027,MP 88 Gs.kv Gc.av a.2.2),(1025,.box 89 [.fn 30 (Es c1_ c2_ c3__f c3__c)])]) (Lr:=[(1024,.box 88 [.mp 1027]),(1027,MP 88 Gs.kv Gc.av d.2),(1025,.box 89 [.fn 30 (Es c1_ c2_ c3__f c3__c)])]) O O (self_w k (b:Int) a.2.2 d v) Ge1 ⟨.inl O,O,.inl O,O,ø⟩ O ⟨O,O,O,ø⟩ O O O) O) (G6f.of [1027,1024,1025,1087,1088] O O ⟨O,O,O,O,O,ø⟩)) (Gq (u:=I64 d.1.restows) O O ⟨Gm (H28 Gde O O O) O,ø⟩ (Gq (u:=I64 c) O O ⟨Gm (Hv w O O O) O,ø⟩ (Gq (u:=I64 c) O O ⟨Gm (G7 O O) O,ø⟩ (Z7 ?_)))))))))))
    refine b2 (Jr fun x=>(JLh (.ptr 1088 1) (J7 Jb5 O O) O (JLh (I64 a.2.1) (Ji G9 O O O O) O (JLh (BL (decide (a.2.1 < 0))) (Jc O O O) O (JLm (BL (decide (a.2.1 < 0))) O (JLo (I64 c) [] O .scf ø (fun hc=>G4 O O) O (JLo (.ptr 1088 0) [] O .scf ø (fun hc=>J7 Jb6 O O) O (JLo (I64 a.1) [54] O .scf ⟨Ua,ø⟩ (fun hc=>Ji G9 O O O O) O (JLo (BL (decide (c < a.1))) [53,55] O .scf ⟨Ua,Ua,ø⟩ (fun hc=>Jc O O O) O (JLh (BL ((decide (a.2.1 < 0))||(decide (c < a.1)))) (G24 O O O O) O (G6 (x (JCc O h (fun h hb=>?_) (fun h hb=>?_))))))))))))))
    ·
     refine G2 (JLm (I64 c) O (JLm (Ek b) O (JLh (.agg [I64 c,Ek b]) (J6 (cs:=[I64 c,Ek b]) [(0,1),(1,1)] [I64 0,I64 0] [E0,E0] Hc5 Gdb (zzQ O) O O) O (Hb (u:=.junk) (Gz (u:=.agg [I64 c,Ek b]) (ds:=[I64 c,Ek b]) G1d O O O O O O O O) (G6 (ej87 _ _ (d.2,c,(b:Int)) h ⟨(.sm O O),⟨fmQ O,fbQ O ⟨.same rfl,ø⟩,fbQ O ⟨.same rfl,ø⟩,fbQ O (.sm O O),fbQ O (.sm O O),ø⟩,rfl⟩))))))
    ·
     refine Gp (ej87 _ _ (d.2,a.1,a.2.1) h ⟨(.sm O O),⟨fmQ O,fbQ O ⟨.same rfl,ø⟩,fbQ O ⟨.same rfl,ø⟩,fbQ O (.sm O O),fbQ O (.sm O O),ø⟩,rfl⟩)
   ·intro e h
    replace h:=app1 s h
    refine G2 (JLh (I64 ((b+1:Nat):Int)) (Hv (Ha o a4) O O O) O (JLm (I64 ((b+1:Nat):Int)) O (G6 (d4 _ _ (b+1) (e.2.1,e.2.2,e.1) (app1 a9 h) (by omega) ⟨(.sm O O),⟨fmQ O,fbQ O ⟨.same rfl,ø⟩,fbQ O ⟨.same rfl,ø⟩,fbQ O (.sm O O),fbQ O (.sm O O),ø⟩,rfl⟩))))
  ·
   have h:=app1 p (Hs n (H9 hb))
   refine Ho (d0 (Jr fun z=>(JLh (.agg [I64 a.1,I64 a.2.1]) (G0f G2d O O O O) O (Hb (u:=.junk) (Gz (u:=.agg [I64 a.1,I64 a.2.1]) (ds:=[I64 a.1,I64 a.2.1]) G1d O O O O O O O O) (G6 (z (Gj [(6,.ptr 1087 0)] [(1027,MP 88 Gs.kv Gc.av a.2.2),(1024,.box 88 [.mp 1027]),(1025,.box 89 [.fn 30 (Es c1_ c2_ c3__f c3__c)]),(1087,.box 91 [I64 a.1,I64 a.2.1])] 1088 rfl rfl rfl ⟨fmQ O,⟨_,rfl,.boxEq rfl rfl⟩,⟨_,rfl,.boxEq rfl rfl⟩,⟨_,rfl,.boxEq rfl rfl⟩,ø⟩ rfl (by exact⟨.conv (.same rfl),ø⟩) (Gy ?_))))))))
   obtain rfl:=M0 h
   exact⟨[.agg [I64 a.1,I64 a.2.1]],[(1024,.box 88 [.mp 1027]),(1027,MP 88 Gs.kv Gc.av a.2.2),(1025,.box 89 [.fn 30 (Es c1_ c2_ c3__f c3__c)])],⟨⟨_,O,.boxL O ⟨.same O,ø⟩⟩,⟨_,O,.map⟩,⟨_,O,.boxL O ⟨.same O,ø⟩⟩,ø⟩,O,⟨⟨_,⟨_,_,_,_,O,O,O,.inl ⟨G2d,O⟩⟩,.conv (.same O)⟩,ø⟩,O,O⟩

def Rv (k_:Gs) (m_:Gu Gs Gc) (c0_:Int) (c1_:Int) (c2_:List (List (List G1))) (c3_:(List G1)→(List G1)→Option Int) (c4_:Int) (self_:Int→Int→Gu Gs Gc→Option (Gc×Gu Gs Gc)):Option (Gc×(Gu Gs Gc)):=
 bnd (some (Gu.get m_ k_ (Gc.mk 0 0))) fun b=>
 bif (Gu.has m_ k_) then
 (some (b,m_))
 else
 (bnd (Zo c0_ c1_ c2_ c3_ c4_ m_ self_) fun a=>
  some (a.1,(Gu.put a.2 k_ a.1)))
abbrev Eu (c1_:Int) (c2_:List (List (List G1))) (c3__f:FuncId) (c3__c:List AV):List AV:=[.ptr 1024 0,.dptr [I64 c1_],.dptr [LS 1 (LS 1 (E4)) c2_],.dptr [.fn c3__f c3__c],.ptr 1025 0]
abbrev Ev (c0_:Int) (c1_:Int) (c2_:List (List (List G1))) (c3__f:FuncId) (c3__c:List AV) (c4_:Int):List AV:=[.dptr [I64 c0_],.dptr [I64 c1_],.dptr [LS 1 (LS 1 (E4)) c2_],.dptr [.fn c3__f c3__c],.dptr [I64 c4_],.ptr 1025 0]
theorem Gf8 (k_:Gs) (m_:Gu Gs Gc) (c0_:Int) (c1_:Int) (c2_:List (List (List G1))) (c3_:(List G1)→(List G1)→Option Int) (c3__f:FuncId) (c3__c:List AV) (c3__B:He Em c3__f=true) (c3__d:Qe (fun _=>false) c3__c=true) (c3__w:∀ a0 a1 q,c3_ a0 a1=some q→Pure Em c3__f ([E4 a0,E4 a1]++c3__c) (·=I64 q)) (c4_:Int) (self_:Int→Int→Gu Gs Gc→Option (Gc×Gu Gs Gc)) (self_w:∀ (q_0:Int) (q_1:Int) (m_:Gu Gs Gc) (r_:Gc×Gu Gs Gc),self_ q_0 q_1 m_=some r_→Jw Em 30 [I64 q_0,I64 q_1,.ptr 1024 0,.dptr [I64 c1_],.dptr [LS 1 (LS 1 (E4)) c2_],.dptr [.fn c3__f c3__c],.ptr 1025 0] [(1024,.box 88 [.mp 1027]),(1027,MP 88 Gs.kv Gc.av m_),(1025,.box 89 [.fn 30 [.ptr 1024 0,.dptr [I64 c1_],.dptr [LS 1 (LS 1 (E4)) c2_],.dptr [.fn c3__f c3__c],.ptr 1025 0]])] (fun av L'=>av=.agg [I64 r_.1.restows,I64 r_.1.next]∧L'=[(1024,.box 88 [.mp 1027]),(1027,MP 88 Gs.kv Gc.av r_.2),(1025,.box 89 [.fn 30 [.ptr 1024 0,.dptr [I64 c1_],.dptr [LS 1 (LS 1 (E4)) c2_],.dptr [.fn c3__f c3__c],.ptr 1025 0]])])) (r:Gc×(Gu Gs Gc)) (h:Rv k_ m_ c0_ c1_ c2_ c3_ c4_ self_=some r):Jw Em 31 [.mp 1027,.agg [I64 k_.e0,I64 k_.e1],.fn 32 [.dptr [I64 c0_],.dptr [I64 c1_],.dptr [LS 1 (LS 1 (E4)) c2_],.dptr [.fn c3__f c3__c],.dptr [I64 c4_],.ptr 1025 0]] [(1024,.box 88 [.mp 1027]),(1027,MP 88 Gs.kv Gc.av m_),(1025,.box 89 [.fn 30 [.ptr 1024 0,.dptr [I64 c1_],.dptr [LS 1 (LS 1 (E4)) c2_],.dptr [.fn c3__f c3__c],.ptr 1025 0]])] (fun av L'=>av=.agg [I64 r.1.restows,I64 r.1.next]∧L'=[(1024,.box 88 [.mp 1027]),(1027,MP 88 Gs.kv Gc.av r.2),(1025,.box 89 [.fn 30 [.ptr 1024 0,.dptr [I64 c1_],.dptr [LS 1 (LS 1 (E4)) c2_],.dptr [.fn c3__f c3__c],.ptr 1025 0]])]):=by
 unfold Rv at h
 refine Zp [1024,1027,1025] [.cell 6 91] Tryz.func31 O O (H62 O) (Jr fun e=>(JLh (.ptr 1083 0) (Jx (cs:=[I64 k_.e0,I64 k_.e1]) 1083 O O O O O) O (JLh (.ptr 1084 0) (Y7 1084 [I64 0,I64 0] [E0,E0] Gdb (zzQ O) O O) O (G6 (e ?_)))))
 refine fzQ [(0,.mp 1027),(2,.fn 32 (Ev c0_ c1_ c2_ c3__f c3__c c4_)),(4,.dptr [I64 k_.e0,I64 k_.e1]),(6,.ptr 1084 0)] [(1024,.box 88 [.mp 1027]),(1027,MP 88 Gs.kv Gc.av m_),(1025,.box 89 [.fn 30 (Eu c1_ c2_ c3__f c3__c)]),(1084,.box 91 [I64 0,I64 0])] 1083 rfl rfl rfl ⟨⟨_,rfl,.boxEq rfl rfl⟩,fmQ O,⟨_,rfl,.boxEq rfl rfl⟩,⟨_,rfl,.boxEq rfl rfl⟩,ø⟩ rfl (Js fun f=>Jr fun g=>(JLm (.mp 1027) O (JLh (.agg [I64 k_.e0,I64 k_.e1]) (Gi Jd1 O O O) O ?_)))
 obtain⟨c,i,h⟩:=Gh h
 refine JLh (.tup [.agg [I64 c.restows,I64 c.next],BL (Gu.has m_ k_)]) (((M0 i) ▸ Hbe (av:=Gc.av) (m:=m_) (a:=k_) (Gc.mk 0 0) (.agg #[E0,E0]) O O O O Rd2 Jcc R65 O)) O (JLm (.tup [.agg [I64 c.restows,I64 c.next],BL (Gu.has m_ k_)]) O (JLh (.agg [I64 c.restows,I64 c.next]) (Gv O O O) O (JLh (BL (Gu.has m_ k_)) (Gv O O O) O (JLh (.ptr 1085 0) (Hd 1085 2 H52 O O) O (Hb (u:=.junk) (Gz (u:=.agg [I64 c.restows,I64 c.next]) (ds:=[I64 c.restows,I64 c.next]) G1d O O O O O O O O) (JLm (BL (Gu.has m_ k_)) O (G6 (g ?_))))))))
 refine fzQ [(0,.mp 1027),(2,.fn 32 (Ev c0_ c1_ c2_ c3__f c3__c c4_)),(4,.dptr [I64 k_.e0,I64 k_.e1]),(6,.ptr 1084 0),(7,.dptr [I64 c.restows,I64 c.next]),(8,BL (Gu.has m_ k_))] [(1024,.box 88 [.mp 1027]),(1027,MP 88 Gs.kv Gc.av m_),(1025,.box 89 [.fn 30 (Eu c1_ c2_ c3__f c3__c)]),(1084,.box 91 [I64 0,I64 0])] 1085 rfl rfl rfl ⟨⟨_,rfl,.boxEq rfl rfl⟩,fmQ O,⟨_,rfl,.boxEq rfl rfl⟩,⟨_,rfl,.boxEq rfl rfl⟩,ø⟩ rfl (Jr fun j=>(JLm (BL (Gu.has m_ k_)) O (G6 (j (JCc O h (fun h hb=>?_) (fun h hb=>?_))))))
 ·
  refine Jr fun k=>(JLh (.agg [I64 c.restows,I64 c.next]) (Gi G2d O O O) O (Hb (u:=.junk) (Gz (u:=.agg [I64 c.restows,I64 c.next]) (ds:=[I64 c.restows,I64 c.next]) G1d O O O O O O O O) (G6 (k (Gy ?_)))))
  obtain rfl:=M0 h
  exact⟨[.agg [I64 c.restows,I64 c.next]],[(1024,.box 88 [.mp 1027]),(1027,MP 88 Gs.kv Gc.av m_),(1025,.box 89 [.fn 30 (Eu c1_ c2_ c3__f c3__c)])],⟨⟨_,O,.boxL O ⟨.same O,ø⟩⟩,⟨_,O,.map⟩,⟨_,O,.boxL O ⟨.same O,ø⟩⟩,ø⟩,O,⟨⟨_,⟨_,_,_,_,O,O,O,.inl ⟨G2d,O⟩⟩,.conv (.same O)⟩,ø⟩,O,O⟩
 ·
  refine Gp (f (Jr fun l=>(JLm (.fn 32 (Ev c0_ c1_ c2_ c3__f c3__c c4_)) O ?_)))
  obtain⟨b,n,h⟩:=Gh h
  refine JLh (.agg [I64 b.1.restows,I64 b.1.next]) (G8e (args:=[]) (caps:=(Ev c0_ c1_ c2_ c3__f c3__c c4_)) (L0:=[(1024,.box 88 [.mp 1027]),(1027,MP 88 Gs.kv Gc.av m_),(1025,.box 89 [.fn 30 (Eu c1_ c2_ c3__f c3__c)])]) (Lr:=[(1024,.box 88 [.mp 1027]),(1027,MP 88 Gs.kv Gc.av b.2),(1025,.box 89 [.fn 30 (Eu c1_ c2_ c3__f c3__c)])]) O O (H6f c0_ c1_ c2_ c3_ c3__f c3__c c3__B c3__d c3__w c4_ m_ self_ self_w b n) Qb9 ø O ⟨O,O,O,ø⟩ O O O) O (JLh (.ptr 1086 0) (Hd 1086 2 H52 O O) O (Hb (u:=.junk) (Gz (u:=.agg [I64 b.1.restows,I64 b.1.next]) (ds:=[I64 b.1.restows,I64 b.1.next]) G1d O O O O O O O O) (G6 (l ?_))))
  refine fzQ [(0,.mp 1027),(4,.dptr [I64 k_.e0,I64 k_.e1]),(6,.ptr 1084 0),(9,.dptr [I64 b.1.restows,I64 b.1.next])] [(1024,.box 88 [.mp 1027]),(1027,MP 88 Gs.kv Gc.av b.2),(1025,.box 89 [.fn 30 (Eu c1_ c2_ c3__f c3__c)]),(1084,.box 91 [I64 0,I64 0])] 1086 rfl rfl rfl ⟨⟨_,rfl,.boxEq rfl rfl⟩,fmQ O,⟨_,rfl,.boxEq rfl rfl⟩,⟨_,rfl,.boxEq rfl rfl⟩,ø⟩ rfl ?_
  refine Jr fun o=>(JLm (.mp 1027) O (JLh (.agg [I64 k_.e0,I64 k_.e1]) (Gi Jd1 O O O) O (JLh (.agg [I64 b.1.restows,I64 b.1.next]) (Gi G2d O O O) O (Hb (u:=.junk) (G4c (m:=b.2) (a:=k_) (v:=b.1) O O O O O O Rd2 Jcc) (G6 (o (Jr fun d=>(JLh (.agg [I64 b.1.restows,I64 b.1.next]) (Gi G2d O O O) O (Hb (u:=.junk) (Gz (u:=.agg [I64 b.1.restows,I64 b.1.next]) (ds:=[I64 b.1.restows,I64 b.1.next]) G1d O O O O O O O O) (G6 (d (Gy ?_))))))))))))
  obtain rfl:=M0 h
  exact⟨[.agg [I64 b.1.restows,I64 b.1.next]],[(1024,.box 88 [.mp 1027]),(1027,MP 88 Gs.kv Gc.av (Gu.put b.2 k_ b.1)),(1025,.box 89 [.fn 30 (Eu c1_ c2_ c3__f c3__c)])],⟨⟨_,O,.boxL O ⟨.same O,ø⟩⟩,⟨_,O,.map⟩,⟨_,O,.boxL O ⟨.same O,ø⟩⟩,ø⟩,O,⟨⟨_,⟨_,_,_,_,O,O,O,.inl ⟨G2d,O⟩⟩,.conv (.same O)⟩,ø⟩,O,O⟩

def Yg (k:Int) (i:Int) (b:Gu Gs Gc) (c:Int) (d:List (List (List G1))) (e:(List G1)→(List G1)→Option Int) (self_:Int→Int→Gu Gs Gc→Option (Gc×Gu Gs Gc)):Option (Gc×(Gu Gs Gc)):=
 bnd (Rv (Gs.mk k i) b k c d e i self_) fun a=>
 some (a.1,a.2)
abbrev Ew (a:Int) (b:List (List (List G1))) (p5_f:FuncId) (p5_c:List AV):List AV:=[.ptr 1024 0,.dptr [I64 a],.dptr [LS 1 (LS 1 (E4)) b],.dptr [.fn p5_f p5_c],.ptr 1025 0]
abbrev Ex (k:Int) (a:Int) (b:List (List (List G1))) (p5_f:FuncId) (p5_c:List AV) (i:Int):List AV:=[.dptr [I64 k],.dptr [I64 a],.dptr [LS 1 (LS 1 (E4)) b],.dptr [.fn p5_f p5_c],.dptr [I64 i],.ptr 1025 0]
theorem Hb9 (k:Int) (i:Int) (d:Gu Gs Gc) (a:Int) (b:List (List (List G1))) (e:(List G1)→(List G1)→Option Int) (p5_f:FuncId) (p5_c:List AV) (p5_B:He Em p5_f=true) (p5_d:Qe (fun _=>false) p5_c=true) (p5_w:∀ a0 a1 q,e a0 a1=some q→Pure Em p5_f ([E4 a0,E4 a1]++p5_c) (·=I64 q)) (self_:Int→Int→Gu Gs Gc→Option (Gc×Gu Gs Gc)) (self_w:∀ (q_0:Int) (q_1:Int) (m_:Gu Gs Gc) (r_:Gc×Gu Gs Gc),self_ q_0 q_1 m_=some r_→Jw Em 30 [I64 q_0,I64 q_1,.ptr 1024 0,.dptr [I64 a],.dptr [LS 1 (LS 1 (E4)) b],.dptr [.fn p5_f p5_c],.ptr 1025 0] [(1024,.box 88 [.mp 1027]),(1027,MP 88 Gs.kv Gc.av m_),(1025,.box 89 [.fn 30 [.ptr 1024 0,.dptr [I64 a],.dptr [LS 1 (LS 1 (E4)) b],.dptr [.fn p5_f p5_c],.ptr 1025 0]])] (fun av L'=>av=.agg [I64 r_.1.restows,I64 r_.1.next]∧L'=[(1024,.box 88 [.mp 1027]),(1027,MP 88 Gs.kv Gc.av r_.2),(1025,.box 89 [.fn 30 [.ptr 1024 0,.dptr [I64 a],.dptr [LS 1 (LS 1 (E4)) b],.dptr [.fn p5_f p5_c],.ptr 1025 0]])])) (r:Gc×(Gu Gs Gc)) (h:Yg k i d a b e self_=some r):Jw Em 30 [I64 k,I64 i,.ptr 1024 0,.dptr [I64 a],.dptr [LS 1 (LS 1 (E4)) b],.dptr [.fn p5_f p5_c],.ptr 1025 0] [(1024,.box 88 [.mp 1027]),(1027,MP 88 Gs.kv Gc.av d),(1025,.box 89 [.fn 30 [.ptr 1024 0,.dptr [I64 a],.dptr [LS 1 (LS 1 (E4)) b],.dptr [.fn p5_f p5_c],.ptr 1025 0]])] (fun av L'=>av=.agg [I64 r.1.restows,I64 r.1.next]∧L'=[(1024,.box 88 [.mp 1027]),(1027,MP 88 Gs.kv Gc.av r.2),(1025,.box 89 [.fn 30 [.ptr 1024 0,.dptr [I64 a],.dptr [LS 1 (LS 1 (E4)) b],.dptr [.fn p5_f p5_c],.ptr 1025 0]])]):=by
 unfold Yg at h
 refine Zp [1024,1027,1025] [.cell 9 91] Tryz.func30 O O (H62 O) (Jr fun f=>(JLh (.ptr 1080 0) (Jx (cs:=[I64 k]) 1080 O O O O O) O (JLh (.ptr 1081 0) (Jx (cs:=[I64 i]) 1081 O O O O O) O (JLh (.ptr 1082 0) (Y7 1082 [I64 0,I64 0] [E0,E0] Gdb (zzQ O) O O) O (G6 (f ?_))))))
 refine fzQ [(2,.ptr 1024 0),(3,.dptr [I64 a]),(4,.dptr [LS 1 (LS 1 (E4)) b]),(5,.dptr [.fn p5_f p5_c]),(6,.ptr 1025 0),(7,.dptr [I64 k]),(8,.ptr 1081 0),(9,.ptr 1082 0)] [(1024,.box 88 [.mp 1027]),(1027,MP 88 Gs.kv Gc.av d),(1025,.box 89 [.fn 30 (Ew a b p5_f p5_c)]),(1081,.box 3 [I64 i]),(1082,.box 91 [I64 0,I64 0])] 1080 rfl rfl rfl ⟨⟨_,rfl,.boxEq rfl rfl⟩,fmQ O,⟨_,rfl,.boxEq rfl rfl⟩,⟨_,rfl,.boxEq rfl rfl⟩,⟨_,rfl,.boxEq rfl rfl⟩,ø⟩ rfl ?_
 refine fzQ [(2,.ptr 1024 0),(3,.dptr [I64 a]),(4,.dptr [LS 1 (LS 1 (E4)) b]),(5,.dptr [.fn p5_f p5_c]),(6,.ptr 1025 0),(7,.dptr [I64 k]),(8,.dptr [I64 i]),(9,.ptr 1082 0)] [(1024,.box 88 [.mp 1027]),(1027,MP 88 Gs.kv Gc.av d),(1025,.box 89 [.fn 30 (Ew a b p5_f p5_c)]),(1082,.box 91 [I64 0,I64 0])] 1081 rfl rfl rfl ⟨⟨_,rfl,.boxEq rfl rfl⟩,fmQ O,⟨_,rfl,.boxEq rfl rfl⟩,⟨_,rfl,.boxEq rfl rfl⟩,ø⟩ rfl ?_
 refine Jr fun g=>(JLh (.mp 1027) (Ji Q00 O O O O) O (JLh (I64 k) (Gf G9 O O O) O (JLh (I64 i) (Gf G9 O O O) O (JLh (.agg [I64 k,I64 i]) (Hbf (cs:=[I64 k,I64 i]) [E0,E0] R24 Q8d O O) O (JLh (.fn 32 (Ex k a b p5_f p5_c i)) (Yh (cs:=(Ex k a b p5_f p5_c i)) O O) O ?_)))))
 obtain⟨c,j,h⟩:=Gh h
 refine JLh (.agg [I64 c.1.restows,I64 c.1.next]) (H0c (args:=[.mp 1027,.agg [I64 k,I64 i],.fn 32 (Ex k a b p5_f p5_c i)]) (L0:=[(1024,.box 88 [.mp 1027]),(1027,MP 88 Gs.kv Gc.av d),(1025,.box 89 [.fn 30 (Ew a b p5_f p5_c)])]) (Lr:=[(1024,.box 88 [.mp 1027]),(1027,MP 88 Gs.kv Gc.av c.2),(1025,.box 89 [.fn 30 (Ew a b p5_f p5_c)])]) O (Gf8 (Gs.mk k i) d k a b e p5_f p5_c p5_B p5_d p5_w i self_ self_w c j) Qba ⟨.inl O,O,.inl O,O,.inl O,O,ø⟩ ⟨O,O,O,ø⟩ O O O) O (Hb (u:=.junk) (Gz (u:=.agg [I64 c.1.restows,I64 c.1.next]) (ds:=[I64 c.1.restows,I64 c.1.next]) G1d O O O O O O O O) (G6 (g ?_)))
 refine Gy ?_
 obtain rfl:=M0 h
 exact⟨[.agg [I64 c.1.restows,I64 c.1.next]],[(1024,.box 88 [.mp 1027]),(1027,MP 88 Gs.kv Gc.av c.2),(1025,.box 89 [.fn 30 (Ew a b p5_f p5_c)])],⟨⟨_,O,.boxL O ⟨.same O,ø⟩⟩,⟨_,O,.map⟩,⟨_,O,.boxL O ⟨.same O,ø⟩⟩,ø⟩,O,⟨⟨_,⟨_,_,_,_,O,O,O,.inl ⟨G2d,O⟩⟩,.conv (.same O)⟩,ø⟩,O,O⟩

def Qc:Nat→Int→Int→(Gu Gs Gc)→Int→(List (List (List G1)))→((List G1)→(List G1)→Option Int)→Option (Gc×Gu Gs Gc)
 | 0,_,_,_,_,_,_=>none
 | F+1,k,i,a,b,c,d=>Yg k i a b c d (fun k i a=>Qc F k i a b c d)
theorem G21:∀ (F:Nat) (k:Int) (i:Int) (a:Gu Gs Gc) (b:Int) (c:List (List (List G1))) (d:(List G1)→(List G1)→Option Int) (p5_f:FuncId) (p5_c:List AV) (p5_B:He Em p5_f=true) (p5_d:Qe (fun _=>false) p5_c=true) (p5_w:∀ a0 a1 q,d a0 a1=some q→Pure Em p5_f ([E4 a0,E4 a1]++p5_c) (·=I64 q)) (r:Gc×Gu Gs Gc) (h:Qc F k i a b c d=some r),Jw Em 30 [I64 k,I64 i,.ptr 1024 0,.dptr [I64 b],.dptr [LS 1 (LS 1 (E4)) c],.dptr [.fn p5_f p5_c],.ptr 1025 0] [(1024,.box 88 [.mp 1027]),(1027,MP 88 Gs.kv Gc.av a),(1025,.box 89 [.fn 30 [.ptr 1024 0,.dptr [I64 b],.dptr [LS 1 (LS 1 (E4)) c],.dptr [.fn p5_f p5_c],.ptr 1025 0]])] (fun av L'=>av=.agg [I64 r.1.restows,I64 r.1.next]∧L'=[(1024,.box 88 [.mp 1027]),(1027,MP 88 Gs.kv Gc.av r.2),(1025,.box 89 [.fn 30 [.ptr 1024 0,.dptr [I64 b],.dptr [LS 1 (LS 1 (E4)) c],.dptr [.fn p5_f p5_c],.ptr 1025 0]])]):=by
 intro F
 induction F with
 | zero=>intro k i a b c d p5_f p5_c p5_B p5_d p5_w r h; cases h
 | succ F ih=>intro k i a b c d p5_f p5_c p5_B p5_d p5_w r h; exact Hb9 k i a b c d p5_f p5_c p5_B p5_d p5_w (fun k i a=>Qc F k i a b c d) (fun k i a r_ h_=>ih k i a b c d p5_f p5_c p5_B p5_d p5_w r_ h_) r h

def Gad (x:G1) (a:Int):Option Bool:=
 some (decide (x.Box=a))
theorem J43 (x:G1) (a:Int) (r:Bool) (h:Gad x a=some r):Pure Em 120 [.agg (G1.cs x),.dptr [I64 a]] (·=BL r):=by
 unfold Gad at h
 refine H7 [.tmp 3] Tryz.func120 O O (Jr fun b=>(JLh (.ptr 1183 0) (Jx (cs:=[I64 x.Box,I64 x.Slot.G5,I64 x.Slot.Tier,U8 x.Slot.Half]) 1183 O O O O O) O (JLm (BL false) O (G6 (b (Gj [(1,.dptr [I64 a]),(2,Eg x)] [] 1183 rfl rfl rfl ø rfl (by exact⟨.conv (.same rfl),.ptr,ø⟩) (Jr fun c=>(JLh (Eg x) (Gd Ju O O O) O (JLh (I64 x.Box) (Gf G9 O O O) O (JLh (I64 a) (Gf G9 O O O) O (JLh (BL (decide (x.Box=a))) (Q4 O O O) O (JLm (BL (decide (x.Box=a))) O (G6 (c (Gy (fin1 BL h))))))))))))))))

def Ro (s:List G1) (f:G1→Option Bool):Option Int:=
 each (fun b c (d:Unit) a=>
  bnd (f b) fun e=>
  bif e then
  (some (c:Int))
  else
  (a ()))
 (fun(d:Unit)=>
  some (-1)) s 0 ()
theorem G16 (s:List G1) (f:G1→Option Bool) (f_f:FuncId) (f_c:List AV) (f_B:He Em f_f=true) (f_d:Qe (fun _=>false) f_c=true) (f_w:∀ a0 q,f a0=some q→Pure Em f_f ([.agg (G1.cs a0)]++f_c) (·=BL q)) (r:Int) (h:Ro s f=some r):Pure Em 69 [E4 s,.fn f_f f_c] (·=I64 r):=by
 unfold Ro at h
 refine H7 [.tmp 4] Tryz.func69 O O (Jr fun x=>(JLm (I64 0) O (G6 (x (Js fun z=>Jr fun a1=>(JLm (E4 s) O (JLl H6 O O O fun a2=>(JLm (I64 0) O (G6 (a1 (Gk ?_)))))))))))
 obtain⟨a3,i,j,g,h⟩:=J3 h
 refine Hi (fun a (c:Unit)=>each a3 i (List.drop a s) a c=some r) (fun a c=>[(0,E4 s),(1,.fn f_f f_c),(7,Ek s.length),(8,Ek a)]) (fun a c=>[]) (fun a=>s.length - a) 0 () h ⟨⟨.same O,.same (Jt _ _ f_d),.same O,.same O,ø⟩,ø,O⟩ ?_
 clear h
 intro a c d a7 a4
 refine Jr fun k=>(JLh (BL (decide ((a:Int) < (s.length:Int)))) (Jc O O O) O (G6 (k (Js fun l=>Gn O (fun hb=>?_) (fun hb=>?_)))))
 ·
  have e:=Jk hb
  obtain⟨b,a6,m,n,h⟩:=Hr d e
  replace h:=Ry j h
  refine Gp (l (Js fun o=>Gk (Jr fun p=>(JLm (Ek a) O (JLm (Ek a) O (G6 (p (Jr fun t=>(JLm (.fn f_f f_c) O (JLm (E4 s) O (JLm (Ek a) O (JLh (Eg b) (H3 (f:=G1.av) (xs:=s) (y:=b) O O O H6 m O) O (JLh (.agg (G1.cs b)) (Gi Qk O O O) O ?_)))))))))))))
  obtain⟨a5,u,h⟩:=Gh h
  refine JLh (BL a5) (G18 (args:=[.agg (G1.cs b)]) (caps:=f_c) O O (f_w b _ u) f_B ⟨O,O,ø⟩ f_d) O (G6 (t (JCc O h (fun h hb=>?_) (fun h hb=>?_))))
  ·
   refine Jr fun v=>(JLm (Ek a) O (JLm (Ek a) O (G6 (v (Gy (fin1 I64 h))))))
  ·
   refine Gp (o (G2 (JLh (I64 ((a+1:Nat):Int)) (Hv (Ha e a2) O O O) O (JLm (I64 ((a+1:Nat):Int)) O (G6 (a4 _ _ (a+1) () (app1 n h) (by omega) ⟨⟨.same rfl,.same (Jt _ _ f_d),.same rfl,.same rfl,ø⟩,ø,rfl⟩))))))
 ·
  have h:=app1 g (Hs d (H9 hb))
  refine Ho (z (Jr fun w=>(JLm (I64 (-1)) O (G6 (w (Gy (fin1 I64 h)))))))

def Gbd (l:List G1) (id_:Int):Option (Slot×Bool):=
 bnd (Ro l (fun z0=>Gad z0 id_)) fun a=>
 bif decide (a < 0) then
 (some ((Slot.mk 0 0 0),false))
 else
 (Jz l a fun b=>
  some (b.Slot,true))
theorem H19 (l:List G1) (id_:Int) (r:Slot×Bool) (h:Gbd l id_=some r):Pure Em 85 [E4 l,I64 id_] (·=.tup [.agg (Slot.cs r.1),BL r.2]):=by
 unfold Gbd at h
 refine H7 [.cell 4 63,.tmp 5] Tryz.func85 O O (Jr fun c=>(JLh (.ptr 1156 0) (Jx (cs:=[I64 id_]) 1156 O O O O O) O (JLh (.ptr 1157 0) (Y7 1157 [I64 0,I64 0,U8 0] [E0,E0,.int .u8 0] G94 (zzQ O) O O) O (JLm (BL false) O (G6 (c (Gj [(0,E4 l),(3,.dptr [I64 id_]),(4,.ptr 1157 0)] [(1157,.box 63 [I64 0,I64 0,U8 0])] 1156 rfl rfl rfl ⟨⟨_,rfl,.boxEq rfl rfl⟩,ø⟩ rfl (by exact⟨.conv (.same rfl),.ptr,.conv (.same rfl),ø⟩) (Jr fun d=>(JLm (E4 l) O (JLh (.fn 120 [.dptr [I64 id_]]) (Yh (cs:=[.dptr [I64 id_]]) O O) O ?_))))))))))
 obtain⟨b,e,h⟩:=Gh h
 refine JLh (I64 b) (H0 O (G16 l (fun z0=>Gad z0 id_) 120 [.dptr [I64 id_]] Q3f O (fun z0 q hq=>J43 z0 id_ q hq) b e) J67 ⟨O,O,O,O,ø⟩) O (JLm (I64 b) O (G6 (d (Js fun g=>Jr fun i=>(JLm (I64 b) O (JLh (BL (decide (b < 0))) (Jc O O O) O (G6 (i (JCc O h (fun h hb=>?_) (fun h hb=>?_))))))))))
 ·
  refine Jr fun j=>(JLh (.agg [I64 0,I64 0,U8 0]) (J6 (cs:=[I64 0,I64 0,U8 0]) [(0,1),(1,1),(2,1)] [I64 0,I64 0,U8 0] [E0,E0,.int .u8 0] G74 G94 (zzQ O) O O) O (Hb (u:=.junk) (Gz (u:=.agg [I64 0,I64 0,U8 0]) (ds:=[I64 0,I64 0,U8 0]) G1e O O O O O O O O) (JLm (BL false) O (G6 (j (Gy (⟨[.agg [I64 0,I64 0,U8 0],BL false],[],ø,O,⟨⟨_,⟨_,_,_,_,O,O,O,.inl ⟨Q5,O⟩⟩,.conv (.same O)⟩,⟨_,O,.conv (.same O)⟩,ø⟩,O,congrArg (fun r:Slot×Bool=>(.tup [.agg (Slot.cs r.1),BL r.2]:AV)) (M0 h)⟩)))))))
 ·
  refine Gp (g (Jr fun k=>(JLm (E4 l) O (JLm (I64 b) O ?_))))
  obtain⟨o,a,m,n,h⟩:=Qm h
  refine JLh (Eg a) (H3 (f:=G1.av) (xs:=l) (y:=a) O O O H6 n m) O (JLh (.dptr ((G1.cs a).drop 1)) (Gd Q7 O O O) O (JLh (.agg ((G1.cs a).drop 1)) (Gi Q5 O O O) O (Hb (u:=.junk) (Gz (u:=.agg ((G1.cs a).drop 1)) (ds:=[I64 a.Slot.G5,I64 a.Slot.Tier,U8 a.Slot.Half]) G1e O O O O O O O O) (JLm (BL true) O (G6 (k (Gy (⟨[.agg ((G1.cs a).drop 1),BL true],[],ø,O,⟨⟨_,⟨_,_,_,_,O,O,O,.inl ⟨Q5,O⟩⟩,.conv (.same O)⟩,⟨_,O,.conv (.same O)⟩,ø⟩,O,congrArg (fun r:Slot×Bool=>(.tup [.agg (Slot.cs r.1),BL r.2]:AV)) (M0 h)⟩))))))))

def G5d (r_:Int) (a:G5):Option Bool:=
 some (decide (r_=a.Row))
theorem He4 (r_:Int) (a:G5) (r:Bool) (h:G5d r_ a=some r):Pure Em 164 [I64 r_,Eh a] (·=BL r):=by
 unfold G5d at h
 refine H7 [.tmp 3] Tryz.func164 O O (Jr fun b=>(JLm (BL false) O (G6 (b (Jr fun c=>(JLm (I64 r_) O (JLh (.dptr ((G5.cs a).drop 1)) (Gd G2b O O O) O (JLh (I64 a.Row) (Gf G9 O O O) O (JLh (BL (decide (r_=a.Row))) (Q4 O O O) O (JLm (BL (decide (r_=a.Row))) O (G6 (c (Gy (fin1 BL h))))))))))))))

def G87 (l:List Int) (wanted:Int→Option Bool):Option (List Int):=
 each (fun e b (a:(List Int)) d=>
  jp (fun c=>
   bnd (wanted e) fun f=>
   bif f then
   (need (decide ((a.length+[(b:Int)].length)*8≤140737488355328∧a.length+[(b:Int)].length≤maxLen)) <|
    c (a++[(b:Int)]))
   else
   (c a)) fun(g:(List Int))=>
  d g)
 (fun(a:(List Int))=>
  some a) l 0 []
theorem H8a (l:List Int) (wanted:Int→Option Bool) (wanted_f:FuncId) (wanted_c:List AV) (wanted_B:He Em wanted_f=true) (wanted_d:Qe (fun _=>false) wanted_c=true) (wanted_w:∀ a0 q,wanted a0=some q→Pure Em wanted_f ([I64 a0]++wanted_c) (·=BL q)) (r:(List Int)) (h:G87 l wanted=some r):Pure Em 163 [E5 l,.fn wanted_f wanted_c] (·=E5 r):=by
 unfold G87 at h
 refine H7 [.tmp 4] Tryz.func163 O O (Jr fun a1=>(JLh (E5 ([]:List Int)) (Qh 1 O O) O (G6 (a1 (Jr fun a2=>(JLh (OW 1189 1 I64 ([]:List Int)) (G3e 1189 3 1 O O O) O (G6 (a2 (Js fun a3=>Jr fun a4=>(JLm (E5 l) O (JLl Gx O O O fun a5=>(JLm (I64 0) O (G6 (a4 (Gk ?_)))))))))))))))
 obtain⟨a6,k,m,i,h⟩:=J3 h
 refine Hi (fun a (b:(List Int))=>each a6 k (List.drop a l) a b=some r) (fun a b=>[(1,.fn wanted_f wanted_c),(5,OW 1189 1 I64 b),(8,E5 l),(9,Ek l.length),(10,Ek a)]) (fun a b=>[(1189,.spare 3 1 b.length b.length)]) (fun a=>l.length - a) 0 [] h ⟨⟨.same (Jt _ _ wanted_d),.same O,.same O,.same O,.same O,ø⟩,⟨⟨_,O,.same⟩,ø⟩,O⟩ ?_
 clear h
 intro a b e b0 a7
 refine Jr fun n=>(JLh (BL (decide ((a:Int) < (l.length:Int)))) (Jc O O O) O (G6 (n (Js fun o=>Gn O (fun hb=>?_) (fun hb=>?_)))))
 ·
  have g:=Jk hb
  obtain⟨d,a9,p,s,h⟩:=Hr e g
  replace h:=Ry m h
  refine Gp (o ?_)
  obtain⟨t,j,h⟩:=R1 h
  refine Qa (fun c:(List Int)=>t c=some r) (fun c=>[(1,.fn wanted_f wanted_c),(5,OW 1189 1 I64 c),(8,E5 l),(9,Ek l.length),(10,Ek a)]) (fun c=>[(1189,.spare 3 1 c.length c.length)]) (fun Kj24 ej24=>?_) ?_
  ·
   refine Gk (Jr fun u=>(JLm (Ek a) O (JLh (.dptr [I64 d]) (H3 (f:=I64) (xs:=l) (y:=d) O O O Gx p O) O (JLh (I64 d) (Gf G9 O O O) O (JLm (Ek a) O (JLm (I64 d) O (G6 (u (Jr fun v=>(JLm (.fn wanted_f wanted_c) O (JLm (I64 d) O ?_)))))))))))
   obtain⟨a8,w,h⟩:=Gh h
   refine JLh (BL a8) (G18 (args:=[I64 d]) (caps:=wanted_c) O O (wanted_w d _ w) wanted_B ⟨O,O,ø⟩ wanted_d) O (G6 (v (JCc O h (fun h hb=>?_) (fun h hb=>?_))))
   ·
    refine G2 (JLm (OW 1189 1 I64 b) O (JLm (Ek a) O (JLh (E5 [(a:Int)]) (H8 (xs:=[Ek a]) O ⟨O,O,ø⟩ Gx R0 O O O O) O ?_)))
    obtain⟨x,h⟩:=J0 h
    refine JLh (OW 1189 1 I64 (b++[(a:Int)])) (Qz (f:=I64) (xs:=b) (ys:=[(a:Int)]) O O O O Gx G43 x (fun _=>O) (.inl O) O) O (JLm (OW 1189 1 I64 (b++[(a:Int)])) O (G6 (ej24 _ _ (b++[(a:Int)]) h ⟨⟨.same (Jt _ _ wanted_d),.same O,.same O,.same O,.same O,ø⟩,⟨⟨_,O,.same⟩,ø⟩,O⟩)))
   ·
    refine Gp (ej24 _ _ b h ⟨⟨.same (Jt _ _ wanted_d),.same O,.same O,.same O,.same O,ø⟩,⟨⟨_,O,.same⟩,ø⟩,O⟩)
  ·intro c h
   replace h:=app1 j h
   refine G2 (JLh (I64 ((a+1:Nat):Int)) (Hv (Ha g a5) O O O) O (JLm (I64 ((a+1:Nat):Int)) O (G6 (a7 _ _ (a+1) c (app1 s h) (by omega) ⟨⟨.same (Jt _ _ wanted_d),.same rfl,.same rfl,.same rfl,.same rfl,ø⟩,⟨⟨_,rfl,.same⟩,ø⟩,rfl⟩))))
 ·
  have h:=app1 i (Hs e (H9 hb))
  refine Ho (a3 (Jr fun z=>(JLm (OW 1189 1 I64 b) O (JLm (OW 1189 1 I64 b) O (G6 (z (Gy (fin1l (fun r:(List Int)=>(E5 r:AV)) h))))))))

def H16 (x:Gt) (c:G5):Option Bool:=
 bnd (bif decide (x.Bay=c.Bay) then G87 x.Rows (fun z0=>G5d z0 c) else some default) fun a=>
 some ((decide (x.Bay=c.Bay))&&(decide (0 < (a.length:Int))))
theorem J40 (x:Gt) (c:G5) (r:Bool) (h:H16 x c=some r):Pure Em 143 [.agg [I64 x.Bay,E5 x.Rows],.agg (G5.cs c)] (·=BL r):=by
 unfold H16 at h
 refine H7 [.tmp 4] Tryz.func143 O O (Jr fun b=>(JLh (.ptr 1187 0) (Jx (cs:=[I64 x.Bay,E5 x.Rows]) 1187 O O O O O) O (JLh (.ptr 1188 0) (Jx (cs:=(G5.cs c)) 1188 O O O O O) O (JLm (BL false) O (G6 (b (Gj [(2,.dptr [I64 x.Bay,E5 x.Rows]),(3,.ptr 1188 0)] [(1188,.box 41 (G5.cs c))] 1187 rfl rfl rfl ⟨⟨_,rfl,.boxEq rfl rfl⟩,ø⟩ rfl (by exact⟨.ptr,.conv (.same rfl),ø⟩) ?_)))))))
 refine Gj [(2,.dptr [I64 x.Bay,E5 x.Rows]),(3,Eh c)] [] 1188 rfl rfl rfl ø rfl (by exact⟨.conv (.same rfl),.ptr,ø⟩) (Jr fun d=>(JLh (.dptr [I64 x.Bay,E5 x.Rows]) (Gd G77 O O O) O (JLh (I64 x.Bay) (Gf G9 O O O) O (JLh (Eh c) (Gd G2c O O O) O (JLh (I64 c.Bay) (Gf G9 O O O) O (JLh (BL (decide (x.Bay=c.Bay))) (Q4 O O O) O (JLm (BL (decide (x.Bay=c.Bay))) O (JLo (.dptr [E5 x.Rows]) [] O .sct ø (fun hc=>Gd G76 O O O) O (JLo (E5 x.Rows) [11] O .sct ⟨Ua,ø⟩ (fun hc=>Gf Qi O O O) O (JLo (.fn 164 [.dptr (G5.cs c)]) [] O .sct ø (fun hc=>Yh (cs:=[.dptr (G5.cs c)]) O O) O ?_))))))))))
 obtain⟨a,e,h⟩:=Gh h
 refine JLo (E5 a) [12,13] O .sct ⟨Ua,Ua,ø⟩ (fun hc=>H0 (args:=[E5 x.Rows,.fn 164 [.dptr (G5.cs c)]]) O (H8a x.Rows (fun z0=>G5d z0 c) 164 [.dptr (G5.cs c)] Q3a O (fun z0 q hq=>He4 z0 c q hq) a (Hc hc e)) Q3b ⟨O,O,O,O,ø⟩) O (JLo (Ek a.length) [14] O .sct ⟨Ua,ø⟩ (fun hc=>G25 (f:=I64) (xs:=a) Gx O O) O (JLo (BL (decide (0 < (a.length:Int)))) [15] O .sct ⟨Ua,ø⟩ (fun hc=>G29 O O O) O (JLh (BL ((decide (x.Bay=c.Bay))&&(decide (0 < (a.length:Int))))) (Qs O O O O) O (JLm (BL ((decide (x.Bay=c.Bay))&&(decide (0 < (a.length:Int))))) O (G6 (d (Gy (fin1 BL h))))))))

def G49 (x:Gt) (a:Ge) (b:Int):Option Bool:=
 Jz a.Columns b fun c=>
 bnd (H16 x c) fun d=>
 some d
theorem Hba (x:Gt) (a:Ge) (c:Int) (r:Bool) (h:G49 x a c=some r):Pure Em 142 [.agg [I64 x.Bay,E5 x.Rows],Ef a,.dptr [I64 c]] (·=BL r):=by
 unfold G49 at h
 refine H7 [.tmp 4] Tryz.func142 O O (Jr fun e=>(JLh (.ptr 1186 0) (Jx (cs:=[I64 x.Bay,E5 x.Rows]) 1186 O O O O O) O (JLm (BL false) O (G6 (e (Gj [(1,Ef a),(2,.dptr [I64 c]),(3,.dptr [I64 x.Bay,E5 x.Rows])] [] 1186 rfl rfl rfl ø rfl (by exact⟨.conv (.same rfl),.conv (.same rfl),.ptr,ø⟩) (Js fun g=>?_)))))))
 obtain⟨l,b,i,j,h⟩:=Qm h
 obtain⟨d,k,h⟩:=Gh h
 refine JC_d0 Q0 (by kernel_rfl) (Dq (.agg [I64 x.Bay,E5 x.Rows]) (Gi H34 O O O) O (Dq (Ef a) (Gd Hk O O O) O (Dq (Ea a.Columns) (Gf J2 O O O) O (Dq (I64 c) (Gf G9 O O O) O (Dq (Eh b) (H3 (f:=G5.av) (xs:=a.Columns) (y:=b) O O O Hj j i) O (Dq (.agg (G5.cs b)) (Gi G44 O O O) O (Dq (BL d) (H0 (args:=[.agg [I64 x.Bay,E5 x.Rows],.agg (G5.cs b)]) O (J40 x b d k) Q3c ⟨O,O,O,O,ø⟩) O (Dq (BL d) (G7 O O) O (Dnil (g (Gy (fin1 BL h))))))))))))

def G20 (l:List Gt) (wanted:Gt→Option Bool):Option (List Int):=
 each (fun e b (a:(List Int)) d=>
  jp (fun c=>
   bnd (wanted e) fun f=>
   bif f then
   (need (decide ((a.length+[(b:Int)].length)*8≤140737488355328∧a.length+[(b:Int)].length≤maxLen)) <|
    c (a++[(b:Int)]))
   else
   (c a)) fun(g:(List Int))=>
  d g)
 (fun(a:(List Int))=>
  some a) l 0 []
theorem H17 (l:List Gt) (wanted:Gt→Option Bool) (wanted_f:FuncId) (wanted_c:List AV) (wanted_B:He Em wanted_f=true) (wanted_d:Qe (fun _=>false) wanted_c=true) (wanted_w:∀ a0 q,wanted a0=some q→Pure Em wanted_f ([.agg [I64 a0.Bay,E5 a0.Rows]]++wanted_c) (·=BL q)) (r:(List Int)) (h:G20 l wanted=some r):Pure Em 141 [Eb l,.fn wanted_f wanted_c] (·=E5 r):=by
 unfold G20 at h
 refine H7 [.tmp 4] Tryz.func141 O O (Jr fun a2=>(JLh (E5 ([]:List Int)) (Qh 1 O O) O (G6 (a2 (Jr fun a3=>(JLh (OW 1184 1 I64 ([]:List Int)) (G3e 1184 3 1 O O O) O (G6 (a3 (Js fun a4=>Jr fun a5=>(JLm (Eb l) O (JLl Zw O O O fun a6=>(JLm (I64 0) O (G6 (a5 (Gk ?_)))))))))))))))
 obtain⟨a7,k,m,i,h⟩:=J3 h
 refine Hi (fun a (b:(List Int))=>each a7 k (List.drop a l) a b=some r) (fun a b=>[(1,.fn wanted_f wanted_c),(5,OW 1184 1 I64 b),(8,Eb l),(9,Ek l.length),(10,Ek a)]) (fun a b=>[(1184,.spare 3 1 b.length b.length)]) (fun a=>l.length - a) 0 [] h ⟨⟨.same (Jt _ _ wanted_d),.same O,.same O,.same O,.same O,ø⟩,⟨⟨_,O,.same⟩,ø⟩,O⟩ ?_
 clear h
 intro a b e b1 a8
 refine Jr fun n=>(JLh (BL (decide ((a:Int) < (l.length:Int)))) (Jc O O O) O (G6 (n (Js fun o=>Gn O (fun hb=>?_) (fun hb=>?_)))))
 ·
  have g:=Jk hb
  obtain⟨c,b0,p,s,h⟩:=Hr e g
  replace h:=Ry m h
  refine Gp (o ?_)
  obtain⟨t,j,h⟩:=R1 h
  refine Qa (fun d:(List Int)=>t d=some r) (fun d=>[(1,.fn wanted_f wanted_c),(5,OW 1184 1 I64 d),(8,Eb l),(9,Ek l.length),(10,Ek a)]) (fun d=>[(1184,.spare 3 1 d.length d.length)]) (fun Kj24 ej24=>?_) ?_
  ·
   refine Gk (Jr fun v=>(JLm (Ek a) O (JLh (.dptr [I64 c.Bay,E5 c.Rows]) (H3 (f:=Gt.av) (xs:=l) (y:=c) O O O Zw p O) O (JLh (.agg [I64 c.Bay,E5 c.Rows]) (Gi H34 O O O) O (JLh (.ptr 1185 0) (Hd 1185 2 Gc9 O O) O (JLm (Ek a) O (Hb (u:=.junk) (Gz (u:=.agg [I64 c.Bay,E5 c.Rows]) (ds:=[I64 c.Bay,E5 c.Rows]) J14 O O O O O O O O) (G6 (v ?_)))))))))
   refine Gj [(1,.fn wanted_f wanted_c),(5,OW 1184 1 I64 b),(6,Ek a),(7,.dptr [I64 c.Bay,E5 c.Rows]),(8,Eb l),(9,Ek l.length),(10,Ek a)] [(1184,.spare 3 1 b.length b.length)] 1185 rfl rfl rfl ⟨⟨_,rfl,.same⟩,ø⟩ rfl (by exact⟨.conv (.same (Jt _ _ wanted_d)),.conv (.same rfl),.conv (.same rfl),.ptr,.conv (.same rfl),.conv (.same rfl),.conv (.same rfl),ø⟩) (Jr fun w=>(JLm (.fn wanted_f wanted_c) O (JLh (.agg [I64 c.Bay,E5 c.Rows]) (Gi H34 O O O) O ?_)))
   obtain⟨a9,x,h⟩:=Gh h
   refine JLh (BL a9) (G18 (args:=[.agg [I64 c.Bay,E5 c.Rows]]) (caps:=wanted_c) O O (wanted_w c _ x) wanted_B ⟨O,O,ø⟩ wanted_d) O (G6 (w (JCc O h (fun h hb=>?_) (fun h hb=>?_))))
   ·
    refine G2 (JLm (OW 1184 1 I64 b) O (JLm (Ek a) O (JLh (E5 [(a:Int)]) (H8 (xs:=[Ek a]) O ⟨O,O,ø⟩ Gx R0 O O O O) O ?_)))
    obtain⟨z,h⟩:=J0 h
    refine JLh (OW 1184 1 I64 (b++[(a:Int)])) (Qz (f:=I64) (xs:=b) (ys:=[(a:Int)]) O O O O Gx G43 z (fun _=>O) (.inl O) O) O (JLm (OW 1184 1 I64 (b++[(a:Int)])) O (G6 (ej24 _ _ (b++[(a:Int)]) h ⟨⟨.same (Jt _ _ wanted_d),.same O,.same O,.same O,.same O,ø⟩,⟨⟨_,O,.same⟩,ø⟩,O⟩)))
   ·
    refine Gp (ej24 _ _ b h ⟨⟨.same (Jt _ _ wanted_d),.same O,.same O,.same O,.same O,ø⟩,⟨⟨_,O,.same⟩,ø⟩,O⟩)
  ·intro d h
   replace h:=app1 j h
   refine G2 (JLh (I64 ((a+1:Nat):Int)) (Hv (Ha g a6) O O O) O (JLm (I64 ((a+1:Nat):Int)) O (G6 (a8 _ _ (a+1) d (app1 s h) (by omega) ⟨⟨.same (Jt _ _ wanted_d),.same rfl,.same rfl,.same rfl,.same rfl,ø⟩,⟨⟨_,rfl,.same⟩,ø⟩,rfl⟩))))
 ·
  have h:=app1 i (Hs e (H9 hb))
  refine Ho (a4 (Jr fun a1=>(JLm (OW 1184 1 I64 b) O (JLm (OW 1184 1 I64 b) O (G6 (a1 (Gy (fin1l (fun r:(List Int)=>(E5 r:AV)) h))))))))

def G89 (s:Ge) (column:Int):Option Int:=
 bif ((decide (column < 0))||(decide ((s.Columns.length:Int)≤column))) then
 (some (-1))
 else
 (bnd (G20 s.Covers (fun z0=>G49 z0 s column)) fun a=>
  bif decide ((a.length:Int)=0) then
  (some (-1))
  else
  (Jz a 0 fun b=>
   some b))
theorem H24 (s:Ge) (column:Int) (r:Int) (h:G89 s column=some r):Pure Em 110 [.agg (Ge.cs s),I64 column] (·=I64 r):=by
 unfold G89 at h
 refine H7 [.tmp 4] Tryz.func110 O O (Jr fun g=>(JLh (.ptr 1177 0) (Jx (cs:=(Ge.cs s)) 1177 O O O O O) O (JLh (.ptr 1178 0) (Jx (cs:=[I64 column]) 1178 O O O O O) O (JLm (I64 0) O (G6 (g (Gj [(2,Ef s),(3,.ptr 1178 0)] [(1178,.box 3 [I64 column])] 1177 rfl rfl rfl ⟨⟨_,rfl,.boxEq rfl rfl⟩,ø⟩ rfl (by exact⟨.ptr,.conv (.same rfl),ø⟩) (Gj [(2,Ef s),(3,.dptr [I64 column])] [] 1178 rfl rfl rfl ø rfl (by exact⟨.conv (.same rfl),.ptr,ø⟩) (Js fun i=>?_)))))))))
 refine Jr fun j=>(JLh (I64 column) (Gf G9 O O O) O (JLh (BL (decide (column < 0))) (Jc O O O) O (JLm (BL (decide (column < 0))) O (JLo (I64 column) [] O .scf ø (fun hc=>Gf G9 O O O) O (JLo (Ef s) [] O .scf ø (fun hc=>Gd Hk O O O) O (JLo (Ea s.Columns) [10] O .scf ⟨Ua,ø⟩ (fun hc=>Gf J2 O O O) O (JLo (Ek s.Columns.length) [11] O .scf ⟨Ua,ø⟩ (fun hc=>G25 (f:=G5.av) (xs:=s.Columns) Hj O O) O (JLo (BL (decide ((s.Columns.length:Int)≤column))) [9,12] O .scf ⟨Ua,Ua,ø⟩ (fun hc=>Gf2 O O O) O (JLh (BL ((decide (column < 0))||(decide ((s.Columns.length:Int)≤column)))) (G24 O O O O) O (G6 (j (JCc O h (fun h hb=>?_) (fun h hb=>?_)))))))))))))
 ·
  refine Jr fun k=>(JLm (I64 (-1)) O (G6 (k (Gy (fin1 I64 h)))))
 ·
  refine Gp (i (Jr fun l=>(JLh (.dptr ((Ge.cs s).drop 1)) (Gd G0a O O O) O (JLh (Eb s.Covers) (Gf G73 O O O) O (JLh (.fn 142 [.dptr (Ge.cs s),.dptr [I64 column]]) (Yh (cs:=[.dptr (Ge.cs s),.dptr [I64 column]]) O O) O ?_)))))
  obtain⟨a,m,h⟩:=Gh h
  refine JLh (E5 a) (H0 O (H17 s.Covers (fun z0=>G49 z0 s column) 142 [.dptr (Ge.cs s),.dptr [I64 column]] Q3d O (fun z0 q hq=>Hba z0 s column q hq) a m) Q3e ⟨O,O,O,O,ø⟩) O (JLm (E5 a) O (G6 (l (Js fun n=>Jr fun o=>(JLm (E5 a) O (JLl Gx O O O fun t=>(JLh (BL (decide ((a.length:Int)=0))) (Q4 O O O) O (G6 (o (JCc O h (fun h hb=>?_) (fun h hb=>?_)))))))))))
  ·
   refine Jr fun p=>(JLm (I64 (-1)) O (G6 (p (Gy (fin1 I64 h)))))
  ·
   refine Gp (n (Jr fun c=>(JLm (E5 a) O ?_)))
   obtain⟨u,b,d,e,h⟩:=Qm h
   refine JLh (.dptr [I64 b]) (H3 (f:=I64) (xs:=a) (y:=b) O O O Gx e d) O (JLh (I64 b) (Gf G9 O O O) O (JLm (I64 b) O (G6 (c (Gy (fin1 I64 h))))))

def Gb7 (a:Slot) (b:Slot):Option Bool:=
 bnd (bif ((decide (a.G5=b.G5))&&(decide (b.Tier < a.Tier))) then G31 a.Half b.Half else some default) fun c=>
 some (((decide (a.G5=b.G5))&&(decide (b.Tier < a.Tier)))&&c)
theorem Jc0 (a:Slot) (b:Slot) (r:Bool) (h:Gb7 a b=some r):Pure Em 111 [.agg [I64 a.G5,I64 a.Tier,U8 a.Half],.agg [I64 b.G5,I64 b.Tier,U8 b.Half]] (·=BL r):=by
 unfold Gb7 at h
 refine H7 [.tmp 4] Tryz.func111 O O (Jr fun d=>(JLh (.ptr 1179 0) (Jx (cs:=[I64 a.G5,I64 a.Tier,U8 a.Half]) 1179 O O O O O) O (JLh (.ptr 1180 0) (Jx (cs:=[I64 b.G5,I64 b.Tier,U8 b.Half]) 1180 O O O O O) O (JLm (BL false) O (G6 (d (Gj [(2,.dptr [I64 a.G5,I64 a.Tier,U8 a.Half]),(3,.ptr 1180 0)] [(1180,.box 63 [I64 b.G5,I64 b.Tier,U8 b.Half])] 1179 rfl rfl rfl ⟨⟨_,rfl,.boxEq rfl rfl⟩,ø⟩ rfl (by exact⟨.ptr,.conv (.same rfl),ø⟩) (Gj [(2,.dptr [I64 a.G5,I64 a.Tier,U8 a.Half]),(3,.dptr [I64 b.G5,I64 b.Tier,U8 b.Half])] [] 1180 rfl rfl rfl ø rfl (by exact⟨.conv (.same rfl),.ptr,ø⟩) ?_))))))))
 refine Jr fun e=>(JLh (.dptr [I64 a.G5,I64 a.Tier,U8 a.Half]) (Gd Q8 O O O) O (JLh (I64 a.G5) (Gf G9 O O O) O (JLh (.dptr [I64 b.G5,I64 b.Tier,U8 b.Half]) (Gd Q8 O O O) O (JLh (I64 b.G5) (Gf G9 O O O) O (JLh (BL (decide (a.G5=b.G5))) (Q4 O O O) O (JLm (BL (decide (a.G5=b.G5))) O (JLo (.dptr [I64 a.Tier,U8 a.Half]) [] O .sct ø (fun hc=>Gd Ri O O O) O (JLo (I64 a.Tier) [11] O .sct ⟨Ua,ø⟩ (fun hc=>Gf G9 O O O) O (JLo (.dptr [I64 b.Tier,U8 b.Half]) [] O .sct ø (fun hc=>Gd Ri O O O) O (JLo (I64 b.Tier) [13] O .sct ⟨Ua,ø⟩ (fun hc=>Gf G9 O O O) O (JLo (BL (decide (b.Tier < a.Tier))) [12,14] O .sct ⟨Ua,Ua,ø⟩ (fun hc=>G29 O O O) O (JLh (BL ((decide (a.G5=b.G5))&&(decide (b.Tier < a.Tier)))) (Qs O O O O) O (JLm (BL ((decide (a.G5=b.G5))&&(decide (b.Tier < a.Tier)))) O ?_)))))))))))))
 refine JLo (.dptr [U8 a.Half]) [] O .sct ø (fun hc=>Gd Rh O O O) O (JLo (U8 a.Half) [18] O .sct ⟨Ua,ø⟩ (fun hc=>Gf J9 O O O) O (JLo (.dptr [U8 b.Half]) [] O .sct ø (fun hc=>Gd Rh O O O) O (JLo (U8 b.Half) [20] O .sct ⟨Ua,ø⟩ (fun hc=>Gf J9 O O O) O ?_)))
 obtain⟨c,f,h⟩:=Gh h
 refine JLo (BL c) [19,21] O .sct ⟨Ua,Ua,ø⟩ (fun hc=>H0 (args:=[U8 a.Half,U8 b.Half]) O (H49 a.Half b.Half c (Hc hc f)) J64 ⟨O,O,O,O,ø⟩) O (JLh (BL (((decide (a.G5=b.G5))&&(decide (b.Tier < a.Tier)))&&c)) (Qs O O O O) O (JLm (BL (((decide (a.G5=b.G5))&&(decide (b.Tier < a.Tier)))&&c)) O (G6 (e (Gy (fin1 BL h))))))

def G64 (m:Gu Int Unit) (k:Int):Option (Bool×(Gu Int Unit)):=
 bif (Gu.has m k) then
 (some (false,m))
 else
 (some (true,(Gu.put m k ())))
theorem Gbc (m:Gu Int Unit) (k:Int) (r:Bool×(Gu Int Unit)) (h:G64 m k=some r):Jw Em 109 [.mp 1145,I64 k] [(1145,MP 197 Kk (fun _:Unit=>.agg []) m)] (fun av L'=>av=BL r.1∧L'=[(1145,MP 197 Kk (fun _:Unit=>.agg []) r.2)]):=by
 unfold G64 at h
 refine Zp [1145] [.tmp 4] Tryz.func109 O O (H62 O) (Jr fun b=>(JLm (BL false) O (G6 (b (Js fun c=>Jr fun d=>(JLm (.mp 1145) O (JLm (I64 k) O (JLh (.tup [.agg [],BL (Gu.has m k)]) (Hbe (av:=(fun _:Unit=>.agg [])) (m:=m) (a:=k) () (.agg #[]) O O O O R1f J54 R20 O) O (JLm (.tup [.agg [],BL (Gu.has m k)]) O (JLh (.agg []) (Gv O O O) O (JLh (BL (Gu.has m k)) (Gv O O O) O (JLh (.ptr 1176 0) (Hd 1176 0 Jfc O O) O (Hb (u:=.junk) (R8b (u:=.agg []) Q35 O O O O O O) (JLm (BL (Gu.has m k)) O (G6 (d ?_))))))))))))))))
 refine Gj [(0,.mp 1145),(1,I64 k),(6,BL (Gu.has m k))] [(1145,MP 197 Kk (fun _:Unit=>.agg []) m)] 1176 rfl rfl rfl ⟨fmQ O,ø⟩ rfl (by exact⟨.conv (.same rfl),.conv (.same rfl),.conv (.same rfl),ø⟩) (Jr fun e=>(JLm (BL (Gu.has m k)) O (G6 (e (JCc O h (fun h hb=>?_) (fun h hb=>?_))))))
 ·
  refine Jr fun f=>(JLm (BL false) O (G6 (f (Gy ?_))))
  obtain rfl:=M0 h
  exact⟨[BL false],[(1145,MP 197 Kk (fun _:Unit=>.agg []) m)],⟨⟨_,O,.map⟩,ø⟩,O,⟨⟨_,O,.conv (.same O)⟩,ø⟩,O,O⟩
 ·
  refine Gp (c (Jr fun g=>(JLm (.mp 1145) O (JLm (I64 k) O (JLh (.agg []) (J6 (cs:=[]) [] [] [] Jb1 Q34 ø O O) O (Hb (u:=.junk) (G4c (m:=m) (a:=k) (v:=()) O O O O O O R1f J54) (G6 (g (Jr fun i=>(JLm (BL true) O (G6 (i (Gy ?_)))))))))))))
  obtain rfl:=M0 h
  exact⟨[BL true],[(1145,MP 197 Kk (fun _:Unit=>.agg []) (Gu.put m k ()))],⟨⟨_,O,.map⟩,ø⟩,O,⟨⟨_,O,.conv (.same O)⟩,ø⟩,O,O⟩

def Gc4 (self_:Int→(Gu Int Unit)→(List Int)→(List (List G1))→Ge→Option ((Gu Int Unit)×(List Int))) (F:Nat) (id_:Int) (p1:Gu Int Unit) (p:List Int) (q:List (List G1)) (i:Ge):Option ((Gu Int Unit)×(List Int)):=
 bnd (G64 p1 id_) fun w=>
 bif (!w.1) then
 (some (w.2,p))
 else
 (need (decide ((p.length+[id_].length)*8≤140737488355328∧p.length+[id_].length≤maxLen)) <|
  each (fun y7 i7 (d:(Gu Int Unit)×(List Int)) a1=>
   jp (fun j=>
    bnd (Gbd y7 id_) fun f=>
    bif (!f.2) then
    (j (d.1,d.2))
    else
    (jp (fun k=>
      Jz i.Columns f.1.G5 fun a2=>
      bif (!a2.Deck) then
      (bnd (G89 i f.1.G5) fun a3=>
       k a3)
      else
      (k (-1))) fun(g:Int)=>
     each (fun s a8 (b:(Gu Int Unit)×(List Int)) x=>
      jp (fun l=>
       bnd (Gb7 s.Slot f.1) fun a4=>
       bif a4 then
       (bnd (self_ s.Box b.1 b.2 q i) fun t=>
        l (t.1,t.2))
       else
       (l (b.1,b.2))) fun(u:(Gu Int Unit)×(List Int))=>
      x (u.1,u.2))
     (fun(b:(Gu Int Unit)×(List Int))=>
      each (fun a5 a9 (c:(Gu Int Unit)×(List Int)) y=>
       each (fun e a7 (a:(Gu Int Unit)×(List Int)) r=>
        jp (fun h=>
         bnd (bif decide (0≤g) then Jz i.Columns e.Slot.G5 some else some default) fun m=>
         bnd (bif ((decide (0≤g))&&m.Deck) then G89 i e.Slot.G5 else some default) fun z=>
         bif (((decide (0≤g))&&m.Deck)&&(decide (z=g))) then
         (bnd (self_ e.Box a.1 a.2 q i) fun n=>
          h (n.1,n.2))
         else
         (h (a.1,a.2))) fun(o:(Gu Int Unit)×(List Int))=>
        r (o.1,o.2))
       (fun(a:(Gu Int Unit)×(List Int))=>
        y (a.1,a.2)) a5 0 (c.1,c.2))
      (fun(c:(Gu Int Unit)×(List Int))=>
       j (c.1,c.2)) q 0 (b.1,b.2)) y7 0 (d.1,d.2))) fun(v:(Gu Int Unit)×(List Int))=>
   a1 (v.1,v.2))
  (fun(d:(Gu Int Unit)×(List Int))=>
   some (d.1,d.2)) q 0 (w.2,(p++[id_])))
def G5e:Nat→Int→(Gu Int Unit)→(List Int)→(List (List G1))→Ge→Option ((Gu Int Unit)×(List Int))
 | 0,_,_,_,_,_=>none
 | F+1,id_,a,b,c,d=>Gc4 (G5e F) F id_ a b c d
abbrev Ey (a:List (List G1)) (b:Ge):List AV:=[.ptr 1139 0,.ptr 1140 0,.dptr [LS 1 (E4) a],Ef b,.ptr 1141 0]
theorem Hea (self_:Int→(Gu Int Unit)→(List Int)→(List (List G1))→Ge→Option ((Gu Int Unit)×(List Int))) (self_w:∀ (id_:Int) (p1:Gu Int Unit) (m:List Int) (a:List (List G1)) (c:Ge) (r:(Gu Int Unit)×(List Int)),self_ id_ p1 m a c=some r→Jw Em 108 [I64 id_,.ptr 1139 0,.ptr 1140 0,.dptr [LS 1 (E4) a],Ef c,.ptr 1141 0] [(1139,.box 197 [.mp 1145]),(1145,MP 197 Kk (fun _:Unit=>.agg []) p1),(1140,.box 39 [.vec 1146 m.length 1 m.length]),(1146,.vec 3 1 m.length (m.map I64)),(1141,.box 198 [.fn 108 [.ptr 1139 0,.ptr 1140 0,.dptr [LS 1 (E4) a],Ef c,.ptr 1141 0]])] (fun av L'=>av=.tup []∧L'=[(1139,.box 197 [.mp 1145]),(1145,MP 197 Kk (fun _:Unit=>.agg []) r.1),(1140,.box 39 [.vec 1146 r.2.length 1 r.2.length]),(1146,.vec 3 1 r.2.length (r.2.map I64)),(1141,.box 198 [.fn 108 [.ptr 1139 0,.ptr 1140 0,.dptr [LS 1 (E4) a],Ef c,.ptr 1141 0]])])) (F:Nat) (id_:Int) (p1:Gu Int Unit) (m:List Int) (a:List (List G1)) (c:Ge) (r:(Gu Int Unit)×(List Int)) (h:Gc4 self_ F id_ p1 m a c=some r):Jw Em 108 [I64 id_,.ptr 1139 0,.ptr 1140 0,.dptr [LS 1 (E4) a],Ef c,.ptr 1141 0] [(1139,.box 197 [.mp 1145]),(1145,MP 197 Kk (fun _:Unit=>.agg []) p1),(1140,.box 39 [.vec 1146 m.length 1 m.length]),(1146,.vec 3 1 m.length (m.map I64)),(1141,.box 198 [.fn 108 [.ptr 1139 0,.ptr 1140 0,.dptr [LS 1 (E4) a],Ef c,.ptr 1141 0]])] (fun av L'=>av=.tup []∧L'=[(1139,.box 197 [.mp 1145]),(1145,MP 197 Kk (fun _:Unit=>.agg []) r.1),(1140,.box 39 [.vec 1146 r.2.length 1 r.2.length]),(1146,.vec 3 1 r.2.length (r.2.map I64)),(1141,.box 198 [.fn 108 [.ptr 1139 0,.ptr 1140 0,.dptr [LS 1 (E4) a],Ef c,.ptr 1141 0]])]):=by
 unfold Gc4 at h
 refine Zp [1139,1145,1140,1146,1141] [] Tryz.func108 O O (H62 O) (Js fun i0=>Jr fun i1=>(JLh (.mp 1145) (Ji Jb0 O O O O) O (JLm (I64 id_) O ?_)))
 obtain⟨r3,i2,h⟩:=Gh h
 refine JLh (BL r3.1) (H0c (args:=[.mp 1145,I64 id_]) (L0:=[(1145,MP 197 Kk (fun _:Unit=>.agg []) p1)]) (Lr:=[(1145,MP 197 Kk (fun _:Unit=>.agg []) r3.2)]) O (Gbc p1 id_ r3 i2) Q46 ⟨.inl O,O,.inl O,O,ø⟩ ⟨O,ø⟩ O O O) O (JLh (BL (!r3.1)) (G11 (b:=r3.1) O O) O (G6 (i1 (JCc O h (fun h hb=>?_) (fun h hb=>?_)))))
 ·
  refine Gy ?_
  obtain rfl:=M0 h
  exact⟨[],[(1139,.box 197 [.mp 1145]),(1145,MP 197 Kk (fun _:Unit=>.agg []) r3.2),(1140,.box 39 [.vec 1146 m.length 1 m.length]),(1146,.vec 3 1 m.length (m.map I64)),(1141,.box 198 [.fn 108 (Ey a c)])],⟨⟨_,O,.boxL O ⟨.same O,ø⟩⟩,⟨_,O,.map⟩,⟨_,O,.boxL O ⟨.same O,ø⟩⟩,⟨_,O,.vec⟩,⟨_,O,.boxL O ⟨.same O,ø⟩⟩,ø⟩,O,ø,O,O⟩
 ·
  refine Gp (i0 (Jr fun i3=>(JLh (.vec 1146 m.length 1 m.length) (Ji Qi O O O O) O (JLm (I64 id_) O (JLh (E5 [id_]) (H8 (xs:=[I64 id_]) O ⟨O,O,ø⟩ Gx R0 O O O O) O ?_)))))
  obtain⟨i4,h⟩:=J0 h
  refine JLh (.vec 1146 ((m++[id_]).length) 1 ((m++[id_]).length)) (G66 (f:=I64) (xs:=m) (ys:=[id_]) (ver:=m.length) (ver1:=(m++[id_]).length) rfl rfl rfl rfl Gx G43 i4 (fun _=>rfl) (.inl rfl) (by simp)) O (Hb (u:=.junk) (Gz (u:=.vec 1146 ((m++[id_]).length) 1 ((m++[id_]).length)) (ds:=[.vec 1146 ((m++[id_]).length) 1 ((m++[id_]).length)]) Q99 O O O O O O O O) (G6 (i3 (Jr fun i5=>(JLh (LS 1 (E4) a) (Gf Jy O O O) O (JLl Hz O O O fun d7=>(JLm (I64 0) O (G6 (i5 (Gk ?_))))))))))
  obtain⟨b7,i6,i8,d8,h⟩:=J3 h
  refine Hi (fun s (l:(Gu Int Unit)×(List Int))=>each b7 i6 (List.drop s a) s l=some r) (fun s l=>[(0,I64 id_),(3,.dptr [LS 1 (E4) a]),(4,Ef c),(5,.ptr 1141 0),(26,LS 1 (E4) a),(27,Ek a.length),(28,Ek s)]) (fun s l=>[(1145,MP 197 Kk (fun _:Unit=>.agg []) l.1),(1146,.vec 3 1 l.2.length (l.2.map I64)),(1139,.box 197 [.mp 1145]),(1140,.box 39 [.vec 1146 l.2.length 1 l.2.length]),(1141,.box 198 [.fn 108 (Ey a c)])]) (fun s=>a.length - s) 0 (r3.2,(m++[id_])) h ⟨(.sm O O),⟨fmQ O,⟨_,rfl,.vec⟩,fbQ O ⟨.same rfl,ø⟩,fbQ O ⟨.same rfl,ø⟩,fbQ O ⟨.same rfl,ø⟩,ø⟩,rfl⟩ ?_
  clear h
  intro s l d4 K7 e7
  refine Jr fun i9=>(JLh (BL (decide ((s:Int) < (a.length:Int)))) (Jc O O O) O (G6 (i9 (Js fun j0=>Gn O (fun hb=>?_) (fun hb=>?_)))))
  ·
   have d5:=Jk hb
   obtain⟨w,k3,j1,j2,h⟩:=Hr d4 d5
   replace h:=Ry i8 h
   refine Gp (j0 ?_)
   obtain⟨d9,b6,h⟩:=R1 h
   refine Qa (fun x:(Gu Int Unit)×(List Int)=>d9 x=some r) (fun x=>[(0,I64 id_),(3,.dptr [LS 1 (E4) a]),(4,Ef c),(5,.ptr 1141 0),(26,LS 1 (E4) a),(27,Ek a.length),(28,Ek s)]) (fun x=>[(1145,MP 197 Kk (fun _:Unit=>.agg []) x.1),(1146,.vec 3 1 x.2.length (x.2.map I64)),(1139,.box 197 [.mp 1145]),(1140,.box 39 [.vec 1146 x.2.length 1 x.2.length]),(1141,.box 198 [.fn 108 (Ey a c)])]) (fun Kj10 ej10=>?_) ?_
   ·
    refine Gk (Jr fun e0=>(JLh (.dptr [E4 w]) (H3 (f:=(E4)) (xs:=a) (y:=w) O O O Hz j1 O) O (JLh (E4 w) (Gf Y1 O O O) O (JLm (E4 w) O (G6 (e0 (Jr fun e1=>(JLm (E4 w) O (JLm (I64 id_) O ?_)))))))))
    obtain⟨g,e2,h⟩:=Gh h
    refine JLh (.tup [.agg (Slot.cs g.1),BL g.2]) (H0 O (H19 w id_ g e2) Ha2 ⟨O,O,O,O,ø⟩) O (JLm (.tup [.agg (Slot.cs g.1),BL g.2]) O (JLh (.agg (Slot.cs g.1)) (Gv O O O) O (JLh (BL g.2) (Gv O O O) O (JLh (.ptr 1173 0) (Hd 1173 3 Zu O O) O (Hb (u:=.junk) (Gz (u:=.agg (Slot.cs g.1)) (ds:=[I64 g.1.G5,I64 g.1.Tier,U8 g.1.Half]) G1e O O O O O O O O) (JLm (BL g.2) O (G6 (e1 ?_))))))))
    refine fzQ [(0,I64 id_),(3,.dptr [LS 1 (E4) a]),(4,Ef c),(5,.ptr 1141 0),(8,E4 w),(9,Ej g.1),(10,BL g.2),(26,LS 1 (E4) a),(27,Ek a.length),(28,Ek s)] [(1145,MP 197 Kk (fun _:Unit=>.agg []) l.1),(1146,.vec 3 1 l.2.length (l.2.map I64)),(1139,.box 197 [.mp 1145]),(1140,.box 39 [.vec 1146 l.2.length 1 l.2.length]),(1141,.box 198 [.fn 108 (Ey a c)])] 1173 rfl rfl rfl ⟨fmQ O,⟨_,rfl,.vec⟩,⟨_,rfl,.boxEq rfl rfl⟩,⟨_,rfl,.boxEq rfl rfl⟩,⟨_,rfl,.boxEq rfl rfl⟩,ø⟩ rfl (Js fun e3=>?_)
    refine Jr fun e4=>(JLm (BL g.2) O (JLh (BL (!g.2)) (G11 (b:=g.2) O O) O (G6 (e4 (JCc O h (fun h hb=>?_) (fun h hb=>?_))))))
    ·
     refine Ho (ej10 _ _ (l.1,l.2) h ⟨(.sm O O),⟨fmQ O,⟨_,rfl,.vec⟩,fbQ O ⟨.same rfl,ø⟩,fbQ O ⟨.same rfl,ø⟩,fbQ O ⟨.same rfl,ø⟩,ø⟩,rfl⟩)
    ·
     refine Gp (e3 (Jr fun e5=>(JLm (I64 (-1)) O (G6 (e5 ?_)))))
     obtain⟨e6,b8,h⟩:=R1 h
     refine Qa (fun j:Int=>e6 j=some r) (fun j=>[(0,I64 id_),(3,.dptr [LS 1 (E4) a]),(4,Ef c),(5,.ptr 1141 0),(8,E4 w),(9,Ej g.1),(11,I64 j),(26,LS 1 (E4) a),(27,Ek a.length),(28,Ek s)]) (fun j=>[(1145,MP 197 Kk (fun _:Unit=>.agg []) l.1),(1146,.vec 3 1 l.2.length (l.2.map I64)),(1139,.box 197 [.mp 1145]),(1140,.box 39 [.vec 1146 l.2.length 1 l.2.length]),(1141,.box 198 [.fn 108 (Ey a c)])]) (fun Kj17 ej17=>?_) ?_
     ·
      refine Jr fun e8=>(JLh (Ef c) (Gd Hk O O O) O (JLh (Ea c.Columns) (Gf J2 O O O) O (JLh (Ej g.1) (Gd Q8 O O O) O (JLh (I64 g.1.G5) (Gf G9 O O O) O ?_))))
      obtain⟨k4,a3,e9,f0,h⟩:=Qm h
      refine JLh (Eh a3) (H3 (f:=G5.av) (xs:=c.Columns) (y:=a3) O O O Hj f0 e9) O (JLh (.dptr ((G5.cs a3).drop 2)) (Gd G2a O O O) O (JLh (BL a3.Deck) (Gf Rs O O O) O (JLh (BL (!a3.Deck)) (G11 (b:=a3.Deck) O O) O (G6 (e8 (JCc O h (fun h hb=>?_) (fun h hb=>?_)))))))
      ·
       refine G2 (JLh (.agg (Ge.cs c)) (Gi Hm O O O) O (JLh (Ej g.1) (Gd Q8 O O O) O (JLh (I64 g.1.G5) (Gf G9 O O O) O ?_)))
       obtain⟨a7,f1,h⟩:=Gh h
       refine JLh (I64 a7) (H0 O (H24 c g.1.G5 a7 f1) J17 ⟨O,O,O,O,ø⟩) O (JLm (I64 a7) O (G6 (ej17 _ _ a7 h ⟨(.sm O O),⟨fmQ O,⟨_,rfl,.vec⟩,fbQ O ⟨.same rfl,ø⟩,fbQ O ⟨.same rfl,ø⟩,fbQ O ⟨.same rfl,ø⟩,ø⟩,rfl⟩)))
      ·
       refine Gp (ej17 _ _ (-1) h ⟨(.sm O O),⟨fmQ O,⟨_,rfl,.vec⟩,fbQ O ⟨.same rfl,ø⟩,fbQ O ⟨.same rfl,ø⟩,fbQ O ⟨.same rfl,ø⟩,ø⟩,rfl⟩)
     ·intro j h
      replace h:=app1 b8 h
      refine Js fun f2=>Jr fun f3=>(JLm (E4 w) O (JLl H6 O O O fun f4=>(JLm (I64 0) O (G6 (f3 (Gk ?_))))))
      obtain⟨j3,f5,f6,b9,h⟩:=J3 h
      refine Hi (fun t (i:(Gu Int Unit)×(List Int))=>each j3 f5 (List.drop t w) t i=some r) (fun t i=>[(0,I64 id_),(3,.dptr [LS 1 (E4) a]),(4,Ef c),(5,.ptr 1141 0),(9,Ej g.1),(11,I64 j),(26,LS 1 (E4) a),(27,Ek a.length),(28,Ek s),(52,E4 w),(53,Ek w.length),(54,Ek t)]) (fun t i=>[(1145,MP 197 Kk (fun _:Unit=>.agg []) i.1),(1146,.vec 3 1 i.2.length (i.2.map I64)),(1139,.box 197 [.mp 1145]),(1140,.box 39 [.vec 1146 i.2.length 1 i.2.length]),(1141,.box 198 [.fn 108 (Ey a c)])]) (fun t=>w.length - t) 0 (l.1,l.2) h ⟨(.sm O O),⟨fmQ O,⟨_,rfl,.vec⟩,fbQ O ⟨.same rfl,ø⟩,fbQ O ⟨.same rfl,ø⟩,fbQ O ⟨.same rfl,ø⟩,ø⟩,rfl⟩ ?_
      clear h
      intro t i b0 k5 j4
      refine Jr fun f7=>(JLh (BL (decide ((t:Int) < (w.length:Int)))) (Jc O O O) O (G6 (f7 (Js fun f8=>Gn O (fun hb=>?_) (fun hb=>?_)))))
      ·
       have b1:=Jk hb
       obtain⟨n,k0,f9,g0,h⟩:=Hr b0 b1
       replace h:=Ry f6 h
       refine Gp (f8 ?_)
       obtain⟨g1,c0,h⟩:=R1 h
       refine Qa (fun z:(Gu Int Unit)×(List Int)=>g1 z=some r) (fun z=>[(0,I64 id_),(3,.dptr [LS 1 (E4) a]),(4,Ef c),(5,.ptr 1141 0),(9,Ej g.1),(11,I64 j),(26,LS 1 (E4) a),(27,Ek a.length),(28,Ek s),(52,E4 w),(53,Ek w.length),(54,Ek t)]) (fun z=>[(1145,MP 197 Kk (fun _:Unit=>.agg []) z.1),(1146,.vec 3 1 z.2.length (z.2.map I64)),(1139,.box 197 [.mp 1145]),(1140,.box 39 [.vec 1146 z.2.length 1 z.2.length]),(1141,.box 198 [.fn 108 (Ey a c)])]) (fun Kj59 ej59=>?_) ?_
       ·
        refine Gk (Jr fun g2=>(JLh (Eg n) (H3 (f:=G1.av) (xs:=w) (y:=n) O O O H6 f9 O) O (JLh (.agg (G1.cs n)) (Gi Qk O O O) O (JLh (.ptr 1174 0) (Hd 1174 4 Qd O O) O (Hb (u:=.junk) (Gz (u:=.agg (G1.cs n)) (ds:=[I64 n.Box,I64 n.Slot.G5,I64 n.Slot.Tier,U8 n.Slot.Half]) Yc O O O O O O O O) (G6 (g2 ?_)))))))
        refine fzQ [(0,I64 id_),(3,.dptr [LS 1 (E4) a]),(4,Ef c),(5,.ptr 1141 0),(9,Ej g.1),(11,I64 j),(13,Eg n),(26,LS 1 (E4) a),(27,Ek a.length),(28,Ek s),(52,E4 w),(53,Ek w.length),(54,Ek t)] [(1145,MP 197 Kk (fun _:Unit=>.agg []) i.1),(1146,.vec 3 1 i.2.length (i.2.map I64)),(1139,.box 197 [.mp 1145]),(1140,.box 39 [.vec 1146 i.2.length 1 i.2.length]),(1141,.box 198 [.fn 108 (Ey a c)])] 1174 rfl rfl rfl ⟨fmQ O,⟨_,rfl,.vec⟩,⟨_,rfl,.boxEq rfl rfl⟩,⟨_,rfl,.boxEq rfl rfl⟩,⟨_,rfl,.boxEq rfl rfl⟩,ø⟩ rfl ?_
        refine Jr fun g3=>(JLh (.dptr ((G1.cs n).drop 1)) (Gd Q7 O O O) O (JLh (.agg ((G1.cs n).drop 1)) (Gi Q5 O O O) O (JLh (.agg (Slot.cs g.1)) (Gi Q5 O O O) O ?_)))
        obtain⟨d6,g4,h⟩:=Gh h
        refine JLh (BL d6) (H0 O (Jc0 n.Slot g.1 d6 g4) Q45 ⟨O,O,O,O,ø⟩) O (G6 (g3 (JCc O h (fun h hb=>?_) (fun h hb=>?_))))
        ·
         refine G2 (JLh (.fn 108 (Ey a c)) (Ji H0d O O O O) O (JLh (Eg n) (Gd Ju O O O) O (JLh (I64 n.Box) (Gf G9 O O O) O ?_)))
         obtain⟨a2,g5,h⟩:=Gh h
         refine JLh (.tup []) (G8e (args:=[I64 n.Box]) (caps:=(Ey a c)) (L0:=[(1139,.box 197 [.mp 1145]),(1145,MP 197 Kk (fun _:Unit=>.agg []) i.1),(1140,.box 39 [.vec 1146 i.2.length 1 i.2.length]),(1146,.vec 3 1 i.2.length (i.2.map I64)),(1141,.box 198 [.fn 108 (Ey a c)])]) (Lr:=[(1139,.box 197 [.mp 1145]),(1145,MP 197 Kk (fun _:Unit=>.agg []) a2.1),(1140,.box 39 [.vec 1146 a2.2.length 1 a2.2.length]),(1146,.vec 3 1 a2.2.length (a2.2.map I64)),(1141,.box 198 [.fn 108 (Ey a c)])]) O O (self_w n.Box i.1 i.2 a c a2 g5) H57 ⟨.inl O,O,ø⟩ O ⟨O,O,O,O,O,ø⟩ O O O) O (G6 ?_)
         exact ej59 _ _ (a2.1,a2.2) h ⟨(.sm O O),⟨fmQ O,⟨_,rfl,.vec⟩,fbQ O ⟨.same rfl,ø⟩,fbQ O ⟨.same rfl,ø⟩,fbQ O ⟨.same rfl,ø⟩,ø⟩,rfl⟩
        ·
         refine Gp (ej59 _ _ (i.1,i.2) h ⟨(.sm O O),⟨fmQ O,⟨_,rfl,.vec⟩,fbQ O ⟨.same rfl,ø⟩,fbQ O ⟨.same rfl,ø⟩,fbQ O ⟨.same rfl,ø⟩,ø⟩,rfl⟩)
       ·intro z h
        replace h:=app1 c0 h
        refine G2 (JLh (I64 ((t+1:Nat):Int)) (Hv (Ha b1 f4) O O O) O (JLm (I64 ((t+1:Nat):Int)) O (G6 (j4 _ _ (t+1) (z.1,z.2) (app1 g0 h) (by omega) ⟨(.sm O O),⟨fmQ O,⟨_,rfl,.vec⟩,fbQ O ⟨.same rfl,ø⟩,fbQ O ⟨.same rfl,ø⟩,fbQ O ⟨.same rfl,ø⟩,ø⟩,rfl⟩))))
      ·
       have h:=app1 b9 (Hs b0 (H9 hb))
       refine Ho (f2 (Jr fun g6=>(JLh (LS 1 (E4) a) (Gf Jy O O O) O (JLl Hz O O O fun g7=>(JLm (I64 0) O (G6 (g6 (Gk ?_))))))))
       obtain⟨j5,g8,g9,c1,h⟩:=J3 h
       refine Hi (fun o (v:(Gu Int Unit)×(List Int))=>each j5 g8 (List.drop o a) o v=some r) (fun o v=>[(0,I64 id_),(3,.dptr [LS 1 (E4) a]),(4,Ef c),(5,.ptr 1141 0),(11,I64 j),(26,LS 1 (E4) a),(27,Ek a.length),(28,Ek s),(67,LS 1 (E4) a),(68,Ek a.length),(69,Ek o)]) (fun o v=>[(1145,MP 197 Kk (fun _:Unit=>.agg []) v.1),(1146,.vec 3 1 v.2.length (v.2.map I64)),(1139,.box 197 [.mp 1145]),(1140,.box 39 [.vec 1146 v.2.length 1 v.2.length]),(1141,.box 198 [.fn 108 (Ey a c)])]) (fun o=>a.length - o) 0 (i.1,i.2) h ⟨(.sm O O),⟨fmQ O,⟨_,rfl,.vec⟩,fbQ O ⟨.same rfl,ø⟩,fbQ O ⟨.same rfl,ø⟩,fbQ O ⟨.same rfl,ø⟩,ø⟩,rfl⟩ ?_
       clear h
       intro o v b2 k6 j6
       refine Jr fun h0=>(JLh (BL (decide ((o:Int) < (a.length:Int)))) (Jc O O O) O (G6 (h0 (Js fun h1=>Gn O (fun hb=>?_) (fun hb=>?_)))))
       ·
        have b3:=Jk hb
        obtain⟨p,k1,h2,h3,h⟩:=Hr b2 b3
        replace h:=Ry g9 h
        refine Gp (h1 (Js fun h4=>Gk (Jr fun h5=>(JLh (.dptr [E4 p]) (H3 (f:=(E4)) (xs:=a) (y:=p) O O O Hz h2 O) O (JLh (E4 p) (Gf Y1 O O O) O (JLm (E4 p) O (G6 (h5 (Jr fun h6=>(JLm (E4 p) O (JLl H6 O O O fun h7=>(JLm (I64 0) O (G6 (h6 (Gk ?_)))))))))))))))
        obtain⟨h8,c2,c3,b4,h⟩:=J3 h
        refine Hi (fun k (d:(Gu Int Unit)×(List Int))=>each h8 c2 (List.drop k p) k d=some r) (fun k d=>[(0,I64 id_),(3,.dptr [LS 1 (E4) a]),(4,Ef c),(5,.ptr 1141 0),(11,I64 j),(26,LS 1 (E4) a),(27,Ek a.length),(28,Ek s),(67,LS 1 (E4) a),(68,Ek a.length),(69,Ek o),(73,E4 p),(74,Ek p.length),(75,Ek k)]) (fun k d=>[(1145,MP 197 Kk (fun _:Unit=>.agg []) d.1),(1146,.vec 3 1 d.2.length (d.2.map I64)),(1139,.box 197 [.mp 1145]),(1140,.box 39 [.vec 1146 d.2.length 1 d.2.length]),(1141,.box 198 [.fn 108 (Ey a c)])]) (fun k=>p.length - k) 0 (v.1,v.2) h ⟨(.sm O O),⟨fmQ O,⟨_,rfl,.vec⟩,fbQ O ⟨.same rfl,ø⟩,fbQ O ⟨.same rfl,ø⟩,fbQ O ⟨.same rfl,ø⟩,ø⟩,rfl⟩ ?_
        clear h
        intro k d a8 k2 h9
        refine Jr fun c4=>(JLh (BL (decide ((k:Int) < (p.length:Int)))) (Jc O O O) O (G6 (c4 (Js fun c5=>Gn O (fun hb=>?_) (fun hb=>?_)))))
        ·
         have a9:=Jk hb
         obtain⟨e,j7,c6,c7,h⟩:=Hr a8 a9
         replace h:=Ry c3 h
         refine Gp (c5 ?_)
         obtain⟨c8,b5,h⟩:=R1 h
         refine Qa (fun q:(Gu Int Unit)×(List Int)=>c8 q=some r) (fun q=>[(0,I64 id_),(3,.dptr [LS 1 (E4) a]),(4,Ef c),(5,.ptr 1141 0),(11,I64 j),(26,LS 1 (E4) a),(27,Ek a.length),(28,Ek s),(67,LS 1 (E4) a),(68,Ek a.length),(69,Ek o),(73,E4 p),(74,Ek p.length),(75,Ek k)]) (fun q=>[(1145,MP 197 Kk (fun _:Unit=>.agg []) q.1),(1146,.vec 3 1 q.2.length (q.2.map I64)),(1139,.box 197 [.mp 1145]),(1140,.box 39 [.vec 1146 q.2.length 1 q.2.length]),(1141,.box 198 [.fn 108 (Ey a c)])]) (fun Kj110 ej110=>?_) ?_
         ·
          refine Gk (Jr fun c9=>(JLh (Eg e) (H3 (f:=G1.av) (xs:=p) (y:=e) O O O H6 c6 O) O (JLh (.agg (G1.cs e)) (Gi Qk O O O) O (JLh (.ptr 1175 0) (Hd 1175 4 Qd O O) O (Hb (u:=.junk) (Gz (u:=.agg (G1.cs e)) (ds:=[I64 e.Box,I64 e.Slot.G5,I64 e.Slot.Tier,U8 e.Slot.Half]) Yc O O O O O O O O) (G6 (c9 ?_)))))))
          refine fzQ [(0,I64 id_),(3,.dptr [LS 1 (E4) a]),(4,Ef c),(5,.ptr 1141 0),(11,I64 j),(17,Eg e),(26,LS 1 (E4) a),(27,Ek a.length),(28,Ek s),(67,LS 1 (E4) a),(68,Ek a.length),(69,Ek o),(73,E4 p),(74,Ek p.length),(75,Ek k)] [(1145,MP 197 Kk (fun _:Unit=>.agg []) d.1),(1146,.vec 3 1 d.2.length (d.2.map I64)),(1139,.box 197 [.mp 1145]),(1140,.box 39 [.vec 1146 d.2.length 1 d.2.length]),(1141,.box 198 [.fn 108 (Ey a c)])] 1175 rfl rfl rfl ⟨fmQ O,⟨_,rfl,.vec⟩,⟨_,rfl,.boxEq rfl rfl⟩,⟨_,rfl,.boxEq rfl rfl⟩,⟨_,rfl,.boxEq rfl rfl⟩,ø⟩ rfl ?_
          refine Jr fun d0=>(JLm (I64 j) O (JLh (BL (decide (0≤j))) (Gf2 O O O) O (JLm (BL (decide (0≤j))) O (JLo (Ef c) [] O .sct ø (fun hc=>Gd Hk O O O) O (JLo (Ea c.Columns) [82] O .sct ⟨Ua,ø⟩ (fun hc=>Gf J2 O O O) O (JLo (.dptr ((G1.cs e).drop 1)) [] O .sct ø (fun hc=>Gd Q7 O O O) O (JLo (.dptr ((G1.cs e).drop 1)) [84] O .sct ⟨Ua,ø⟩ (fun hc=>Gd Q8 O O O) O (JLo (I64 e.Slot.G5) [85] O .sct ⟨Ua,ø⟩ (fun hc=>Gf G9 O O O) O ?_))))))))
          obtain⟨a1,d1,h⟩:=Gh h
          refine JLo (Eh a1) [83,86] O .sct ⟨Ua,Ua,ø⟩ (fun hc=>(match G13 (Hc hc d1) with | ⟨_,hm_,hy_⟩=>H3 (f:=G5.av) (xs:=c.Columns) (y:=a1) O O O Hj hy_ hm_)) O (JLo (.dptr ((G5.cs a1).drop 2)) [87] O .sct ⟨Ua,ø⟩ (fun hc=>Gd G2a O O O) O (JLo (BL a1.Deck) [88] O .sct ⟨Ua,ø⟩ (fun hc=>Gf Rs O O O) O (JLh (BL ((decide (0≤j))&&a1.Deck)) (Qs O O O O) O (JLm (BL ((decide (0≤j))&&a1.Deck)) O (JLo (.agg (Ge.cs c)) [] O .sct ø (fun hc=>Gi Hm O O O) O (JLo (.dptr ((G1.cs e).drop 1)) [] O .sct ø (fun hc=>Gd Q7 O O O) O (JLo (.dptr ((G1.cs e).drop 1)) [93] O .sct ⟨Ua,ø⟩ (fun hc=>Gd Q8 O O O) O (JLo (I64 e.Slot.G5) [94] O .sct ⟨Ua,ø⟩ (fun hc=>Gf G9 O O O) O ?_))))))))
          obtain⟨a4,d2,h⟩:=Gh h
          refine JLo (I64 a4) [92,95] O .sct ⟨Ua,Ua,ø⟩ (fun hc=>H0 (args:=[.agg (Ge.cs c),I64 e.Slot.G5]) O (H24 c e.Slot.G5 a4 (Hc hc d2)) J17 ⟨O,O,O,O,ø⟩) O (JLo (I64 j) [] O .sct ø (fun hc=>G4 O O) O (JLo (BL (decide (a4=j))) [96,97] O .sct ⟨Ua,Ua,ø⟩ (fun hc=>Q4 O O O) O (JLh (BL (((decide (0≤j))&&a1.Deck)&&(decide (a4=j)))) (Qs O O O O) O (G6 (d0 (JCc O h (fun h hb=>?_) (fun h hb=>?_)))))))
          ·
           refine G2 (JLh (.fn 108 (Ey a c)) (Ji H0d O O O O) O (JLh (Eg e) (Gd Ju O O O) O (JLh (I64 e.Box) (Gf G9 O O O) O ?_)))
           obtain⟨a0,d3,h⟩:=Gh h
           refine JLh (.tup []) (G8e (args:=[I64 e.Box]) (caps:=(Ey a c)) (L0:=[(1139,.box 197 [.mp 1145]),(1145,MP 197 Kk (fun _:Unit=>.agg []) d.1),(1140,.box 39 [.vec 1146 d.2.length 1 d.2.length]),(1146,.vec 3 1 d.2.length (d.2.map I64)),(1141,.box 198 [.fn 108 (Ey a c)])]) (Lr:=[(1139,.box 197 [.mp 1145]),(1145,MP 197 Kk (fun _:Unit=>.agg []) a0.1),(1140,.box 39 [.vec 1146 a0.2.length 1 a0.2.length]),(1146,.vec 3 1 a0.2.length (a0.2.map I64)),(1141,.box 198 [.fn 108 (Ey a c)])]) O O (self_w e.Box d.1 d.2 a c a0 d3) H57 ⟨.inl O,O,ø⟩ O ⟨O,O,O,O,O,ø⟩ O O O) O (G6 ?_)
           exact ej110 _ _ (a0.1,a0.2) h ⟨(.sm O O),⟨fmQ O,⟨_,rfl,.vec⟩,fbQ O ⟨.same rfl,ø⟩,fbQ O ⟨.same rfl,ø⟩,fbQ O ⟨.same rfl,ø⟩,ø⟩,rfl⟩
          ·
           refine Gp (ej110 _ _ (d.1,d.2) h ⟨(.sm O O),⟨fmQ O,⟨_,rfl,.vec⟩,fbQ O ⟨.same rfl,ø⟩,fbQ O ⟨.same rfl,ø⟩,fbQ O ⟨.same rfl,ø⟩,ø⟩,rfl⟩)
         ·intro q h
          replace h:=app1 b5 h
          refine G2 (JLh (I64 ((k+1:Nat):Int)) (Hv (Ha a9 h7) O O O) O (JLm (I64 ((k+1:Nat):Int)) O (G6 (h9 _ _ (k+1) (q.1,q.2) (app1 c7 h) (by omega) ⟨(.sm O O),⟨fmQ O,⟨_,rfl,.vec⟩,fbQ O ⟨.same rfl,ø⟩,fbQ O ⟨.same rfl,ø⟩,fbQ O ⟨.same rfl,ø⟩,ø⟩,rfl⟩))))
        ·
         have h:=app1 b4 (Hs a8 (H9 hb))
         refine Ho (h4 (G2 (JLh (I64 ((o+1:Nat):Int)) (Hv (Ha b3 g7) O O O) O (JLm (I64 ((o+1:Nat):Int)) O (G6 (j6 _ _ (o+1) (d.1,d.2) (app1 h3 h) (by omega) ⟨(.sm O O),⟨fmQ O,⟨_,rfl,.vec⟩,fbQ O ⟨.same rfl,ø⟩,fbQ O ⟨.same rfl,ø⟩,fbQ O ⟨.same rfl,ø⟩,ø⟩,rfl⟩))))))
       ·
        have h:=app1 c1 (Hs b2 (H9 hb))
        refine Ho (ej10 _ _ (v.1,v.2) h ⟨(.sm O O),⟨fmQ O,⟨_,rfl,.vec⟩,fbQ O ⟨.same rfl,ø⟩,fbQ O ⟨.same rfl,ø⟩,fbQ O ⟨.same rfl,ø⟩,ø⟩,rfl⟩)
   ·intro x h
    replace h:=app1 b6 h
    refine G2 (JLh (I64 ((s+1:Nat):Int)) (Hv (Ha d5 d7) O O O) O (JLm (I64 ((s+1:Nat):Int)) O (G6 (e7 _ _ (s+1) (x.1,x.2) (app1 j2 h) (by omega) ⟨(.sm O O),⟨fmQ O,⟨_,rfl,.vec⟩,fbQ O ⟨.same rfl,ø⟩,fbQ O ⟨.same rfl,ø⟩,fbQ O ⟨.same rfl,ø⟩,ø⟩,rfl⟩))))
  ·
   have h:=app1 d8 (Hs d4 (H9 hb))
   refine Ho ?_
   obtain rfl:=M0 h
   exact⟨[],[(1139,.box 197 [.mp 1145]),(1145,MP 197 Kk (fun _:Unit=>.agg []) l.1),(1140,.box 39 [.vec 1146 l.2.length 1 l.2.length]),(1146,.vec 3 1 l.2.length (l.2.map I64)),(1141,.box 198 [.fn 108 (Ey a c)])],⟨⟨_,O,.boxL O ⟨.same O,ø⟩⟩,⟨_,O,.map⟩,⟨_,O,.boxL O ⟨.same O,ø⟩⟩,⟨_,O,.vec⟩,⟨_,O,.boxL O ⟨.same O,ø⟩⟩,ø⟩,O,ø,O,O⟩
theorem He5:∀ (F:Nat) (id_:Int) (d:Gu Int Unit) (a:List Int) (b:List (List G1)) (c:Ge) (r:(Gu Int Unit)×(List Int)) (h:G5e F id_ d a b c=some r),Jw Em 108 [I64 id_,.ptr 1139 0,.ptr 1140 0,.dptr [LS 1 (E4) b],Ef c,.ptr 1141 0] [(1139,.box 197 [.mp 1145]),(1145,MP 197 Kk (fun _:Unit=>.agg []) d),(1140,.box 39 [.vec 1146 a.length 1 a.length]),(1146,.vec 3 1 a.length (a.map I64)),(1141,.box 198 [.fn 108 [.ptr 1139 0,.ptr 1140 0,.dptr [LS 1 (E4) b],Ef c,.ptr 1141 0]])] (fun av L'=>av=.tup []∧L'=[(1139,.box 197 [.mp 1145]),(1145,MP 197 Kk (fun _:Unit=>.agg []) r.1),(1140,.box 39 [.vec 1146 r.2.length 1 r.2.length]),(1146,.vec 3 1 r.2.length (r.2.map I64)),(1141,.box 198 [.fn 108 [.ptr 1139 0,.ptr 1140 0,.dptr [LS 1 (E4) b],Ef c,.ptr 1141 0]])]):=by
 intro F
 induction F with
 | zero=>intro id_ d a b c r h; cases h
 | succ F ih=>intro id_ d a b c r h; exact Hea (G5e F) ih F id_ d a b c r h

def H18 (F:Nat) (s:Ge) (bf:List G1) (af:List G1):Option (List Int):=
 each (fun l n (d:(Gu Int Unit)×(List Int)) j=>
  each (fun b m (a:(Gu Int Unit)×(List Int)) i=>
   jp (fun c=>
    bnd (Gbd bf b.Box) fun e=>
    bnd (Gbd af b.Box) fun f=>
    bif ((!(e.2==f.2))||(!decide (e.1=f.1))) then
    (bnd (G5e F b.Box a.1 a.2 [bf,af] s) fun g=>
     c (g.1,g.2))
    else
    (c (a.1,a.2))) fun(h:(Gu Int Unit)×(List Int))=>
   i (h.1,h.2))
  (fun(a:(Gu Int Unit)×(List Int))=>
   j (a.1,a.2)) l 0 (d.1,d.2))
 (fun(d:(Gu Int Unit)×(List Int))=>
  bnd (Q08 d.2) fun k=>
  some k) [bf,af] 0 ((Gu.empty:Gu Int Unit),[])
abbrev Ez (bf:List G1) (af:List G1) (s:Ge):List AV:=[.ptr 1139 0,.ptr 1140 0,.dptr [LS 1 (E4) [bf,af]],Ef s,.ptr 1141 0]
theorem J42 (F:Nat) (s:Ge) (bf:List G1) (af:List G1) (r:(List Int)) (h:H18 F s bf af=some r):Pure Em 68 [.agg (Ge.cs s),E4 bf,E4 af] (·=E5 r):=by
 unfold H18 at h
 refine H7 [.tmp 6] Tryz.func68 O O (Jr fun c3=>(JLh (.ptr 1137 0) (Jx (cs:=(Ge.cs s)) 1137 O O O O O) O (JLh (E5 ([]:List Int)) (Qh 1 O O) O (G6 (c3 (Gj [(1,E4 bf),(2,E4 af),(3,Ef s)] [] 1137 rfl rfl rfl ø rfl (by exact⟨.conv (.same rfl),.conv (.same rfl),.ptr,ø⟩) ?_))))))
 refine Jr fun c4=>(JLm (E4 bf) O (JLm (E4 af) O (JLh (LS 1 (E4) [bf,af]) (H8 (xs:=[E4 bf,E4 af]) O ⟨O,O,O,O,ø⟩ Hz Gb0 O O O O) O (JLh (.ptr 1138 0) (Hd 1138 1 J10 O O) O (Hb (u:=.junk) (Gz (u:=LS 1 (E4) [bf,af]) (ds:=[LS 1 (E4) [bf,af]]) H2e O O O O O O O O) (G6 (c4 (fzQ [(1,E4 bf),(2,E4 af),(3,Ef s),(7,.dptr [LS 1 (E4) [bf,af]])] [] 1138 rfl rfl rfl ø rfl ?_))))))))
 refine Jr fun c5=>(JLh (.mp 1145) (G3f 1145 Kk (fun _:Unit=>.agg []) O O) O (JLh (.ptr 1139 0) (Hd 1139 1 Jfe O O) O (Hb (u:=.junk) (Gz (u:=.mp 1145) (ds:=[.mp 1145]) Q37 O O O O O O O O) (G6 (c5 (Jr fun c6=>(JLh (.ptr 1140 0) (Y7 1140 [.sc (.slice none 0 0)] [.slice none 0 0] Q92 ⟨.inl O,ø⟩ O O) O (Hbd 1140 0 1146 3 1 O O O (cs':=[.vec 1146 (([]:List Int).length) 1 (([]:List Int).length)]) O (G6 (c6 (Jr fun c7=>(JLh (.ptr 1141 0) (Hd 1141 1 Jfd O O) O (G6 (c7 ?_))))))))))))))
 refine Jr fun c8=>(JLh (.fn 108 (Ez bf af s)) (Yh (cs:=(Ez bf af s)) O O) O (Hb (u:=.junk) (Gz (u:=.fn 108 (Ez bf af s)) (ds:=[.fn 108 (Ez bf af s)]) Q36 O O O O O O O O) (G6 (c8 (Js fun c9=>Jr fun d0=>(JLh (LS 1 (E4) [bf,af]) (Gf Jy O O O) O (JLl Hz O O O fun w=>(JLm (I64 0) O (G6 (d0 (Gk ?_)))))))))))
 obtain⟨b9,d1,d2,x,h⟩:=J3 h
 refine Hi (fun j (i:(Gu Int Unit)×(List Int))=>each b9 d1 (List.drop j [bf,af]) j i=some r) (fun j i=>[(1,E4 bf),(2,E4 af),(9,.ptr 1140 0),(10,.ptr 1141 0),(24,LS 1 (E4) [bf,af]),(25,I64 ([bf,af].length:Int)),(26,Ek j)]) (fun j i=>[(1145,MP 197 Kk (fun _:Unit=>.agg []) i.1),(1146,.vec 3 1 i.2.length (i.2.map I64)),(1139,.box 197 [.mp 1145]),(1140,.box 39 [.vec 1146 i.2.length 1 i.2.length]),(1141,.box 198 [.fn 108 (Ez bf af s)])]) (fun j=>[bf,af].length - j) 0 ((Gu.empty:Gu Int Unit),[]) h ⟨(.sm O O),⟨fmQ O,⟨_,rfl,.vec⟩,fbQ O ⟨.same rfl,ø⟩,fbQ O ⟨.same rfl,ø⟩,fbQ O ⟨.same rfl,ø⟩,ø⟩,rfl⟩ ?_
 clear h
 intro j i q K9 e9
 refine Jr fun z=>(JLh (BL (decide ((j:Int) < ([bf,af].length:Int)))) (Jc O O O) O (G6 (z (Js fun a0=>Gn O (fun hb=>?_) (fun hb=>?_)))))
 ·
  have t:=Jk hb
  obtain⟨g,e0,d3,d4,h⟩:=Hr q t
  replace h:=Ry d2 h
  refine Gp (a0 (Js fun a1=>Gk (Jr fun a2=>(JLh (.dptr [E4 g]) (H3 (f:=(E4)) (xs:=[bf,af]) (y:=g) O O O Hz d3 O) O (JLh (E4 g) (Gf Y1 O O O) O (JLm (E4 g) O (G6 (a2 (Jr fun a3=>(JLm (E4 g) O (JLl H6 O O O fun a4=>(JLm (I64 0) O (G6 (a3 (Gk ?_)))))))))))))))
  obtain⟨d5,a5,a6,o,h⟩:=J3 h
  refine Hi (fun e (a:(Gu Int Unit)×(List Int))=>each d5 a5 (List.drop e g) e a=some r) (fun e a=>[(1,E4 bf),(2,E4 af),(9,.ptr 1140 0),(10,.ptr 1141 0),(24,LS 1 (E4) [bf,af]),(25,I64 ([bf,af].length:Int)),(26,Ek j),(30,E4 g),(31,Ek g.length),(32,Ek e)]) (fun e a=>[(1145,MP 197 Kk (fun _:Unit=>.agg []) a.1),(1146,.vec 3 1 a.2.length (a.2.map I64)),(1139,.box 197 [.mp 1145]),(1140,.box 39 [.vec 1146 a.2.length 1 a.2.length]),(1141,.box 198 [.fn 108 (Ez bf af s)])]) (fun e=>g.length - e) 0 (i.1,i.2) h ⟨(.sm O O),⟨fmQ O,⟨_,rfl,.vec⟩,fbQ O ⟨.same rfl,ø⟩,fbQ O ⟨.same rfl,ø⟩,fbQ O ⟨.same rfl,ø⟩,ø⟩,rfl⟩ ?_
  clear h
  intro e a m e1 d6
  refine Jr fun a7=>(JLh (BL (decide ((e:Int) < (g.length:Int)))) (Jc O O O) O (G6 (a7 (Js fun a8=>Gn O (fun hb=>?_) (fun hb=>?_)))))
  ·
   have n:=Jk hb
   obtain⟨d,d9,a9,b0,h⟩:=Hr m n
   replace h:=Ry a6 h
   refine Gp (a8 ?_)
   obtain⟨b1,p,h⟩:=R1 h
   refine Qa (fun k:(Gu Int Unit)×(List Int)=>b1 k=some r) (fun k=>[(1,E4 bf),(2,E4 af),(9,.ptr 1140 0),(10,.ptr 1141 0),(24,LS 1 (E4) [bf,af]),(25,I64 ([bf,af].length:Int)),(26,Ek j),(30,E4 g),(31,Ek g.length),(32,Ek e)]) (fun k=>[(1145,MP 197 Kk (fun _:Unit=>.agg []) k.1),(1146,.vec 3 1 k.2.length (k.2.map I64)),(1139,.box 197 [.mp 1145]),(1140,.box 39 [.vec 1146 k.2.length 1 k.2.length]),(1141,.box 198 [.fn 108 (Ez bf af s)])]) (fun Kj62 ej62=>?_) ?_
   ·
    refine Gk (Jr fun b2=>(JLh (Eg d) (H3 (f:=G1.av) (xs:=g) (y:=d) O O O H6 a9 O) O (JLh (.agg (G1.cs d)) (Gi Qk O O O) O (JLh (.ptr 1142 0) (Hd 1142 4 Qd O O) O (Hb (u:=.junk) (Gz (u:=.agg (G1.cs d)) (ds:=[I64 d.Box,I64 d.Slot.G5,I64 d.Slot.Tier,U8 d.Slot.Half]) Yc O O O O O O O O) (G6 (b2 ?_)))))))
    refine fzQ [(1,E4 bf),(2,E4 af),(9,.ptr 1140 0),(10,.ptr 1141 0),(14,Eg d),(24,LS 1 (E4) [bf,af]),(25,I64 ([bf,af].length:Int)),(26,Ek j),(30,E4 g),(31,Ek g.length),(32,Ek e)] [(1145,MP 197 Kk (fun _:Unit=>.agg []) a.1),(1146,.vec 3 1 a.2.length (a.2.map I64)),(1139,.box 197 [.mp 1145]),(1140,.box 39 [.vec 1146 a.2.length 1 a.2.length]),(1141,.box 198 [.fn 108 (Ez bf af s)])] 1142 rfl rfl rfl ⟨fmQ O,⟨_,rfl,.vec⟩,⟨_,rfl,.boxEq rfl rfl⟩,⟨_,rfl,.boxEq rfl rfl⟩,⟨_,rfl,.boxEq rfl rfl⟩,ø⟩ rfl ?_
    refine Jr fun b3=>(JLm (E4 bf) O (JLh (Eg d) (Gd Ju O O O) O (JLh (I64 d.Box) (Gf G9 O O O) O ?_)))
    obtain⟨b,b4,h⟩:=Gh h
    refine JLh (.tup [.agg (Slot.cs b.1),BL b.2]) (H0 O (H19 bf d.Box b b4) Ha2 ⟨O,O,O,O,ø⟩) O (JLm (.tup [.agg (Slot.cs b.1),BL b.2]) O (JLh (.agg (Slot.cs b.1)) (Gv O O O) O (JLh (BL b.2) (Gv O O O) O (JLh (.ptr 1143 0) (Hd 1143 3 Zu O O) O (Hb (u:=.junk) (Gz (u:=.agg (Slot.cs b.1)) (ds:=[I64 b.1.G5,I64 b.1.Tier,U8 b.1.Half]) G1e O O O O O O O O) (JLm (BL b.2) O (G6 (b3 ?_))))))))
    refine fzQ [(1,E4 bf),(2,E4 af),(9,.ptr 1140 0),(10,.ptr 1141 0),(14,Eg d),(15,Ej b.1),(16,BL b.2),(24,LS 1 (E4) [bf,af]),(25,I64 ([bf,af].length:Int)),(26,Ek j),(30,E4 g),(31,Ek g.length),(32,Ek e)] [(1145,MP 197 Kk (fun _:Unit=>.agg []) a.1),(1146,.vec 3 1 a.2.length (a.2.map I64)),(1139,.box 197 [.mp 1145]),(1140,.box 39 [.vec 1146 a.2.length 1 a.2.length]),(1141,.box 198 [.fn 108 (Ez bf af s)])] 1143 rfl rfl rfl ⟨fmQ O,⟨_,rfl,.vec⟩,⟨_,rfl,.boxEq rfl rfl⟩,⟨_,rfl,.boxEq rfl rfl⟩,⟨_,rfl,.boxEq rfl rfl⟩,ø⟩ rfl ?_
    refine Jr fun b5=>(JLm (E4 af) O (JLh (Eg d) (Gd Ju O O O) O (JLh (I64 d.Box) (Gf G9 O O O) O ?_)))
    obtain⟨c,b6,h⟩:=Gh h
    refine JLh (.tup [.agg (Slot.cs c.1),BL c.2]) (H0 O (H19 af d.Box c b6) Ha2 ⟨O,O,O,O,ø⟩) O (JLm (.tup [.agg (Slot.cs c.1),BL c.2]) O (JLh (.agg (Slot.cs c.1)) (Gv O O O) O (JLh (BL c.2) (Gv O O O) O (JLh (.ptr 1144 0) (Hd 1144 3 Zu O O) O (Hb (u:=.junk) (Gz (u:=.agg (Slot.cs c.1)) (ds:=[I64 c.1.G5,I64 c.1.Tier,U8 c.1.Half]) G1e O O O O O O O O) (JLm (BL c.2) O (G6 (b5 ?_))))))))
    refine fzQ [(1,E4 bf),(2,E4 af),(9,.ptr 1140 0),(10,.ptr 1141 0),(14,Eg d),(15,Ej b.1),(16,BL b.2),(17,Ej c.1),(18,BL c.2),(24,LS 1 (E4) [bf,af]),(25,I64 ([bf,af].length:Int)),(26,Ek j),(30,E4 g),(31,Ek g.length),(32,Ek e)] [(1145,MP 197 Kk (fun _:Unit=>.agg []) a.1),(1146,.vec 3 1 a.2.length (a.2.map I64)),(1139,.box 197 [.mp 1145]),(1140,.box 39 [.vec 1146 a.2.length 1 a.2.length]),(1141,.box 198 [.fn 108 (Ez bf af s)])] 1144 rfl rfl rfl ⟨fmQ O,⟨_,rfl,.vec⟩,⟨_,rfl,.boxEq rfl rfl⟩,⟨_,rfl,.boxEq rfl rfl⟩,⟨_,rfl,.boxEq rfl rfl⟩,ø⟩ rfl ?_
    refine Jr fun b7=>(JLm (BL b.2) O (JLm (BL c.2) O (JLh (BL (!(b.2==c.2))) (R8e Jd0 O O O) O (JLm (BL (!(b.2==c.2))) O (JLo (.agg (Slot.cs b.1)) [] O .scf ø (fun hc=>Gi Q5 O O O) O (JLo (.agg (Slot.cs c.1)) [] O .scf ø (fun hc=>Gi Q5 O O O) O (JLo (BL (!decide (b.1=c.1))) [54,55] O .scf ⟨Ua,Ua,ø⟩ (fun hc=>R19 (vs:=[.int .i64 b.1.G5,.int .i64 b.1.Tier,.int .u8 b.1.Half]) (us:=[.int .i64 c.1.G5,.int .i64 c.1.Tier,.int .u8 c.1.Half]) 4 O (Rd1 b.1 c.1) J1a Jce O O O) O (JLh (BL ((!(b.2==c.2))||(!decide (b.1=c.1)))) (G24 O O O O) O (G6 (b7 (JCc O h (fun h hb=>?_) (fun h hb=>?_))))))))))))
    ·
     refine G2 (JLh (.fn 108 (Ez bf af s)) (Ji H0d O O O O) O (JLh (Eg d) (Gd Ju O O O) O (JLh (I64 d.Box) (Gf G9 O O O) O ?_)))
     obtain⟨l,b8,h⟩:=Gh h
     refine JLh (.tup []) (G8e (args:=[I64 d.Box]) (caps:=(Ez bf af s)) (L0:=[(1139,.box 197 [.mp 1145]),(1145,MP 197 Kk (fun _:Unit=>.agg []) a.1),(1140,.box 39 [.vec 1146 a.2.length 1 a.2.length]),(1146,.vec 3 1 a.2.length (a.2.map I64)),(1141,.box 198 [.fn 108 (Ez bf af s)])]) (Lr:=[(1139,.box 197 [.mp 1145]),(1145,MP 197 Kk (fun _:Unit=>.agg []) l.1),(1140,.box 39 [.vec 1146 l.2.length 1 l.2.length]),(1146,.vec 3 1 l.2.length (l.2.map I64)),(1141,.box 198 [.fn 108 (Ez bf af s)])]) O O (He5 F d.Box a.1 a.2 [bf,af] s l b8) H57 ⟨.inl O,O,ø⟩ O ⟨O,O,O,O,O,ø⟩ O O O) O (G6 ?_)
     exact ej62 _ _ (l.1,l.2) h ⟨(.sm O O),⟨fmQ O,⟨_,rfl,.vec⟩,fbQ O ⟨.same rfl,ø⟩,fbQ O ⟨.same rfl,ø⟩,fbQ O ⟨.same rfl,ø⟩,ø⟩,rfl⟩
    ·
     refine Gp (ej62 _ _ (a.1,a.2) h ⟨(.sm O O),⟨fmQ O,⟨_,rfl,.vec⟩,fbQ O ⟨.same rfl,ø⟩,fbQ O ⟨.same rfl,ø⟩,fbQ O ⟨.same rfl,ø⟩,ø⟩,rfl⟩)
   ·intro k h
    replace h:=app1 p h
    refine G2 (JLh (I64 ((e+1:Nat):Int)) (Hv (Ha n a4) O O O) O (JLm (I64 ((e+1:Nat):Int)) O (G6 (d6 _ _ (e+1) (k.1,k.2) (app1 b0 h) (by omega) ⟨(.sm O O),⟨fmQ O,⟨_,rfl,.vec⟩,fbQ O ⟨.same rfl,ø⟩,fbQ O ⟨.same rfl,ø⟩,fbQ O ⟨.same rfl,ø⟩,ø⟩,rfl⟩))))
  ·
   have h:=app1 o (Hs m (H9 hb))
   refine Ho (a1 (G2 (JLh (I64 ((j+1:Nat):Int)) (Hv (Ha t w) O O O) O (JLm (I64 ((j+1:Nat):Int)) O (G6 (e9 _ _ (j+1) (a.1,a.2) (app1 d4 h) (by omega) ⟨(.sm O O),⟨fmQ O,⟨_,rfl,.vec⟩,fbQ O ⟨.same rfl,ø⟩,fbQ O ⟨.same rfl,ø⟩,fbQ O ⟨.same rfl,ø⟩,ø⟩,rfl⟩))))))
 ·
  have h:=app1 x (Hs q (H9 hb))
  refine Ho (c9 (Jr fun c0=>(JLh (.vec 1146 i.2.length 1 i.2.length) (Ji Qi O O O O) O ?_)))
  obtain⟨v,c1,h⟩:=Gh h
  refine JLh (.tup []) (Rc5 (F:=112) (xs:=i.2) (r:=v) O Q09 Jbb Q44 O O O c1 O) O (G6 (c0 (Jr fun c2=>(JLh (.vec 1146 i.2.length 1 i.2.length) (Ji Qi O O O O) O (JLm (.vec 1146 i.2.length 1 i.2.length) O (G6 (c2 (H45 [(6,E5 v)] [] 1146 rfl rfl ø rfl (by exact⟨.vec,ø⟩) (Gy (fin1 (fun r:(List Int)=>(E5 r:AV)) h))))))))))

def Gae (F:Nat) (s:Ge) (boxes:List Box) (bf:List G1) (af:List G1):Option ((List Int)×Int):=
 bnd (Qv s boxes bf) fun a=>
 bnd (bif (!(!a)) then Qv s boxes af else some default) fun b=>
 bif ((!a)||(!b)) then
 (some ([],2))
 else
 (bnd (H18 F s bf af) fun c=>
  some (c,0))
theorem J44 (F:Nat) (s:Ge) (boxes:List Box) (bf:List G1) (af:List G1) (r:(List Int)×Int) (h:Gae F s boxes bf af=some r):Pure Em 27 [.agg (Ge.cs s),E6 boxes,E4 bf,E4 af] (·=.tup [E5 r.1,I64 r.2]):=by
 unfold Gae at h
 refine H7 [.tmp 8,.tmp 9] Tryz.func27 O O (Jr fun e=>(JLh (.ptr 1078 0) (Jx (cs:=(Ge.cs s)) 1078 O O O O O) O (JLh (E5 ([]:List Int)) (Qh 1 O O) O (JLm (I64 0) O (G6 (e (fzQ [(1,E6 boxes),(2,E4 bf),(3,E4 af),(4,Ef s)] [] 1078 rfl rfl rfl ø rfl (Js fun f=>Jr fun g=>(JLh (.agg (Ge.cs s)) (Gi Hm O O O) O (JLm (E6 boxes) O (JLm (E4 bf) O ?_)))))))))))
 obtain⟨a,i,h⟩:=Gh h
 refine JLh (BL a) (H0 O (Zn s boxes bf a i) G62 ⟨O,O,O,O,O,O,ø⟩) O (JLh (BL (!a)) (G11 (b:=a) O O) O (JLm (BL (!a)) O (JLo (.agg (Ge.cs s)) [] O .scf ø (fun hc=>Gi Hm O O O) O (JLo (E6 boxes) [] O .scf ø (fun hc=>G4 O O) O (JLo (E4 af) [] O .scf ø (fun hc=>G4 O O) O ?_)))))
 obtain⟨c,j,h⟩:=Gh h
 refine JLo (BL c) [16,17,18] O .scf ⟨Ua,Ua,Ua,ø⟩ (fun hc=>H0 (args:=[.agg (Ge.cs s),E6 boxes,E4 af]) O (Zn s boxes af c (Hc hc j)) G62 ⟨O,O,O,O,O,O,ø⟩) O (JLo (BL (!c)) [19] O .scf ⟨Ua,ø⟩ (fun hc=>G11 (b:=c) O O) O (JLh (BL ((!a)||(!c))) (G24 O O O O) O (G6 (g (JCc O h (fun h hb=>?_) (fun h hb=>?_))))))
 ·
  refine Jr fun k=>(JLh (E5 ([]:List Int)) (Qh 1 O O) O (JLm (I64 2) O (G6 (k (Gy (⟨[E5 ([]:List Int),I64 2],[],ø,O,⟨⟨_,O,.conv (.same O)⟩,⟨_,O,.conv (.same O)⟩,ø⟩,O,congrArg (fun r:(List Int)×Int=>(.tup [E5 r.1,I64 r.2]:AV)) (M0 h)⟩))))))
 ·
  refine Gp (f (Jr fun l=>(JLh (.agg (Ge.cs s)) (Gi Hm O O O) O (JLm (E4 bf) O (JLm (E4 af) O ?_)))))
  obtain⟨d,m,h⟩:=Gh h
  refine JLh (E5 d) (H0 O (J42 F s bf af d m) Qa4 ⟨O,O,O,O,O,O,ø⟩) O (JLm (E5 d) O (JLm (I64 0) O (G6 (l (Gy (⟨[E5 d,I64 0],[],ø,O,⟨⟨_,O,.conv (.same O)⟩,⟨_,O,.conv (.same O)⟩,ø⟩,O,congrArg (fun r:(List Int)×Int=>(.tup [E5 r.1,I64 r.2]:AV)) (M0 h)⟩))))))

def G23 (x:G1) (a:Int):Option Bool:=
 some (decide (x.Box=a))
theorem H70 (x:G1) (a:Int) (r:Bool) (h:G23 x a=some r):Pure Em 29 [.agg (G1.cs x),.dptr [I64 a]] (·=BL r):=by
 unfold G23 at h
 refine H7 [.tmp 3] Tryz.func29 O O (Jr fun b=>(JLh (.ptr 1079 0) (Jx (cs:=[I64 x.Box,I64 x.Slot.G5,I64 x.Slot.Tier,U8 x.Slot.Half]) 1079 O O O O O) O (JLm (BL false) O (G6 (b (Gj [(1,.dptr [I64 a]),(2,Eg x)] [] 1079 rfl rfl rfl ø rfl (by exact⟨.conv (.same rfl),.ptr,ø⟩) (Jr fun c=>(JLh (Eg x) (Gd Ju O O O) O (JLh (I64 x.Box) (Gf G9 O O O) O (JLh (I64 a) (Gf G9 O O O) O (JLh (BL (decide (x.Box=a))) (Q4 O O O) O (JLm (BL (decide (x.Box=a))) O (G6 (c (Gy (fin1 BL h))))))))))))))))

def Yb (s:List G1) (f:G1→Option Bool):Option Bool:=
 bnd (Ro s f) fun a=>
 some (decide (0≤a))
theorem G71 (s:List G1) (f:G1→Option Bool) (f_f:FuncId) (f_c:List AV) (f_B:He Em f_f=true) (f_d:Qe (fun _=>false) f_c=true) (f_w:∀ a0 q,f a0=some q→Pure Em f_f ([.agg (G1.cs a0)]++f_c) (·=BL q)) (r:Bool) (h:Yb s f=some r):Pure Em 28 [E4 s,.fn f_f f_c] (·=BL r):=by
 unfold Yb at h
 refine H7 [.tmp 4] Tryz.func28 O O (Jr fun b=>(JLm (BL false) O (G6 (b (Jr fun c=>(JLm (E4 s) O (JLm (.fn f_f f_c) O ?_)))))))
 obtain⟨a,d,h⟩:=Gh h
 refine JLh (I64 a) (H0 O (G16 s f f_f f_c f_B f_d f_w a d) J67 ⟨O,O,O,f_d,ø⟩) O (JLh (BL (decide (0≤a))) (Gf2 O O O) O (JLm (BL (decide (0≤a))) O (G6 (c (Gy (fin1 BL h))))))

def Jd (F:Nat) (bf:List G1) (af:List G1) (l:Ge) (m:List Box):Option Int:=
 bnd (Gae F l m bf af) fun n=>
 each (fun o q (c:Int) e=>
  each (fun f p (a:Int) d=>
   jp (fun b=>
    bnd (Yb f (fun z0=>G23 z0 o)) fun g=>
    bif g then
    (chk (a+1) fun h=>
     b h)
    else
    (b a)) fun(i:Int)=>
   d i)
  (fun(a:Int)=>
   bnd (Q5e a 2) fun j=>
   chk (c+j) fun k=>
   e k) [bf,af] 0 0)
 (fun(c:Int)=>
  some c) n.1 0 0
theorem G22 (F:Nat) (bf:List G1) (af:List G1) (p:Ge) (s:List Box) (r:Int) (h:Jd F bf af p s=some r):Pure Em 26 [E4 bf,E4 af,Ef p,.dptr [E6 s]] (·=I64 r):=by
 unfold Jd at h
 refine H7 [.tmp 6] Tryz.func26 O O (Jr fun c2=>(JLm (I64 0) O (G6 (c2 (Jr fun c3=>(JLh (.agg (Ge.cs p)) (Gi Hm O O O) O (JLh (E6 s) (Gf G72 O O O) O (JLm (E4 bf) O (JLm (E4 af) O ?_)))))))))
 obtain⟨a,c4,h⟩:=Gh h
 refine JLh (.tup [E5 a.1,I64 a.2]) (H0 O (J44 F p s bf af a c4) Qbd ⟨O,O,O,O,O,O,O,O,ø⟩) O (JLm (.tup [E5 a.1,I64 a.2]) O (JLh (E5 a.1) (Gv O O O) O (JLh (I64 a.2) (Gv O O O) O (JLm (E5 a.1) O (JLm (I64 a.2) O (G6 (c3 (Jr fun c5=>(JLm (I64 0) O (G6 (c5 (Js fun c6=>Jr fun c7=>(JLm (E5 a.1) O (JLl Gx O O O fun a0=>(JLm (I64 0) O (G6 (c7 (Gk ?_))))))))))))))))))
 obtain⟨b7,c8,c9,a1,h⟩:=J3 h
 refine Hi (fun c (g:Int)=>each b7 c8 (List.drop c a.1) c g=some r) (fun c g=>[(0,E4 bf),(1,E4 af),(9,I64 g),(23,E5 a.1),(24,Ek a.1.length),(25,Ek c)]) (fun c g=>[]) (fun c=>a.1.length - c) 0 0 h ⟨(.sm O O),ø,rfl⟩ ?_
 clear h
 intro c g w K7 e7
 refine Jr fun d0=>(JLh (BL (decide ((c:Int) < (a.1.length:Int)))) (Jc O O O) O (G6 (d0 (Js fun d1=>Gn O (fun hb=>?_) (fun hb=>?_)))))
 ·
  have x:=Jk hb
  obtain⟨d,e0,d2,d3,h⟩:=Hr w x
  replace h:=Ry c9 h
  refine Gp (d1 (Js fun a2=>Gk (Jr fun a3=>(JLh (.dptr [I64 d]) (H3 (f:=I64) (xs:=a.1) (y:=d) O O O Gx d2 O) O (JLh (I64 d) (Gf G9 O O O) O (JLh (.ptr 1077 0) (Hd 1077 1 R0 O O) O (Hb (u:=.junk) (Gz (u:=I64 d) (ds:=[I64 d]) Zf O O O O O O O O) (G6 (a3 (fzQ [(0,E4 bf),(1,E4 af),(9,I64 g),(11,.dptr [I64 d]),(23,E5 a.1),(24,Ek a.1.length),(25,Ek c)] [] 1077 rfl rfl rfl ø rfl (Jr fun a4=>(JLm (I64 0) O (G6 (a4 (Js fun a5=>?_)))))))))))))))
  refine Jr fun a6=>(JLm (E4 bf) O (JLm (E4 af) O (JLh (LS 1 (E4) [bf,af]) (H8 (xs:=[E4 bf,E4 af]) O ⟨O,O,O,O,ø⟩ Hz Gb0 O O O O) O (JLl Hz O O O fun a7=>(JLm (I64 0) O (G6 (a6 (Gk ?_))))))))
  obtain⟨d4,a8,a9,t,h⟩:=J3 h
  refine Hi (fun b (e:Int)=>each d4 a8 (List.drop b [bf,af]) b e=some r) (fun b e=>[(0,E4 bf),(1,E4 af),(9,I64 g),(11,.dptr [I64 d]),(12,I64 e),(23,E5 a.1),(24,Ek a.1.length),(25,Ek c),(31,LS 1 (E4) [bf,af]),(32,I64 ([bf,af].length:Int)),(33,Ek b)]) (fun b e=>[]) (fun b=>[bf,af].length - b) 0 0 h ⟨(.sm O O),ø,rfl⟩ ?_
  clear h
  intro b e k e1 d5
  refine Jr fun b0=>(JLh (BL (decide ((b:Int) < ([bf,af].length:Int)))) (Jc O O O) O (G6 (b0 (Js fun b1=>Gn O (fun hb=>?_) (fun hb=>?_)))))
  ·
   have l:=Jk hb
   obtain⟨i,d9,b2,b3,h⟩:=Hr k l
   replace h:=Ry a9 h
   refine Gp (b1 ?_)
   obtain⟨b4,v,h⟩:=R1 h
   refine Qa (fun j:Int=>b4 j=some r) (fun j=>[(0,E4 bf),(1,E4 af),(9,I64 g),(11,.dptr [I64 d]),(12,I64 j),(23,E5 a.1),(24,Ek a.1.length),(25,Ek c),(31,LS 1 (E4) [bf,af]),(32,I64 ([bf,af].length:Int)),(33,Ek b)]) (fun j=>[]) (fun Kj34 ej34=>?_) ?_
   ·
    refine Gk (Jr fun b5=>(JLh (.dptr [E4 i]) (H3 (f:=(E4)) (xs:=[bf,af]) (y:=i) O O O Hz b2 O) O (JLh (E4 i) (Gf Y1 O O O) O (JLm (E4 i) O (G6 (b5 (Jr fun b6=>(JLm (E4 i) O (JLh (.fn 29 [.dptr [I64 d]]) (Yh (cs:=[.dptr [I64 d]]) O O) O ?_)))))))))
    obtain⟨z,b8,h⟩:=Gh h
    refine JLh (BL z) (H0 O (G71 i (fun z0=>G23 z0 d) 29 [.dptr [I64 d]] Qbb O (fun z0 q hq=>H70 z0 d q hq) z b8) Qbc ⟨O,O,O,O,ø⟩) O (G6 (b6 (JCc O h (fun h hb=>?_) (fun h hb=>?_))))
    ·
     refine G2 (JLm (I64 e) O ?_)
     obtain⟨m,b9,h⟩:=J5 h
     refine JLh (I64 m) (Hv b9 O O O) O (JLm (I64 m) O (G6 (ej34 _ _ m h ⟨(.sm O O),ø,rfl⟩)))
    ·
     refine Gp (ej34 _ _ e h ⟨(.sm O O),ø,rfl⟩)
   ·intro j h
    replace h:=app1 v h
    refine G2 (JLh (I64 ((b+1:Nat):Int)) (Hv (Ha l a7) O O O) O (JLm (I64 ((b+1:Nat):Int)) O (G6 (d5 _ _ (b+1) j (app1 b3 h) (by omega) ⟨(.sm O O),ø,rfl⟩))))
  ·
   have h:=app1 t (Hs k (H9 hb))
   refine Ho (a5 (G2 (JLm (I64 g) O (JLm (I64 e) O ?_))))
   obtain⟨d6,n,h⟩:=Gh h
   refine JLh (I64 d6) (Y34 (Jdd n).1 (Jdd n).2 O O O) O ?_
   obtain⟨o,c0,h⟩:=J5 h
   refine JLh (I64 o) (Hv c0 O O O) O (JLm (I64 o) O (G6 (a2 (G2 (JLh (I64 ((c+1:Nat):Int)) (Hv (Ha x a0) O O O) O (JLm (I64 ((c+1:Nat):Int)) O (G6 (e7 _ _ (c+1) o (app1 d3 h) (by omega) ⟨(.sm O O),ø,rfl⟩))))))))
 ·
  have h:=app1 a1 (Hs w (H9 hb))
  refine Ho (c6 (Jr fun c1=>(JLm (I64 g) O (JLm (I64 g) O (G6 (c1 (Gy (fin1 I64 h))))))))
end
end Go.Proofs.YtibhpogonkdiaaaGreat
