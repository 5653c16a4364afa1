/-
 The examples of chapter 36,by what is known of the rule. A row of slices that are the call's own,in a box of their ow Made:
-/
import Derived.Test.YtokjlondbjdlfaaMarM
import Derived.Test.YtokjlondbjdlfaaPin
import Derived.Test.YtokjlondbjdlfaaPsm
import Derived.Test.YtokjlondbjdlfaaXA
set_option maxRecDepth 100000
set_option linter.unusedVariables false
namespace Go.Proofs.Ytokjlondbjdlfaa
open Go.RowKit Go.Sort Go.Shelf

theorem G44 {F:Nat} (hF:400 < F) {ss:List (List Int)} {H:Int} {order:List Int} {l:List G8} {e:Int} (ho:order.length≤1000000) (h:Ht F ⟨ss,H⟩ order=some (l,e)):Q6 F ⟨ss,H⟩ order=some (l.map mv,e):=by
 obtain⟨l',e',h1,h2,_,_⟩:=Hd0 hF ss H ho
 rw [h] at h2
 have:=Ex h2
 cases this
 exact h1
theorem ex1:Ht 500 ⟨[[1,3,2],[4],[]],3⟩ [1,2,3,4]=some ([⟨0,1⟩,⟨0,2⟩],0):=by kernel_rfl
theorem ex2:Ht 500 ⟨[[1,2],[3,4]],2⟩ [1,2,3,4]=some ([],360):=by kernel_rfl
theorem ex3:Ht 500 ⟨[[1,3],[2]],2⟩ [1,2,3]=some ([],360):=by kernel_rfl
theorem ex4:Ht 500 ⟨[[1,3],[2,4],[]],2⟩ [1,2,3,4]=some ([⟨1,2⟩,⟨0,2⟩],0):=by kernel_rfl
theorem exW:Rz ⟨[[1,3,2],[4],[]],3⟩ [1,2,3,4]=some ([2,3],0):=by kernel_rfl
theorem Ra8:J4 500 ⟨[[1,3,2],[4],[]],3⟩ [1,2,3,4]=some ([⟨0,1⟩,⟨0,2⟩],0):=by kernel_rfl
theorem Ra7:J4 500 ⟨[[1,2],[3,4]],2⟩ [1,2,3,4]=some ([],6):=by kernel_rfl
theorem Ra6:J4 500 ⟨[[1,3],[2]],2⟩ [1,2,3]=some ([],6):=by kernel_rfl
theorem exC:Qn ⟨[[1,3,2],[4],[]],3⟩ [1,2,3,4] [⟨0,1⟩,⟨0,2⟩]=some (true,0):=by kernel_rfl
open Go.RowKit
set_option linter.unusedVariables false

section ops
variable {P:Program} {o:Oper} {l:Fr} {L:Loc}
theorem Qe3 (i:Nat) {x y:Operand} {T E by_ n:Nat} {kd kd':IntKind} {nx ny:Int} (ho:o.op=.makeSlice T x y) (hx:ev l x=.sc (.int kd nx)) (hy:ev l y=.sc (.int kd' ny)) (hi:lk L i=none)
  (hT:sliceB P T E 1=true) (hE:Qt P E 1 by_=true) (hz:(P.info? E).bind (fun i=>i.zero.map Value.cells)=some #[.slice none 0 0]) (hn:nx=(n:Int)) (hm:ny=(n:Int)) (hb:by_*n≤281474976710656∧n≤maxLen) :
  Gq P o l L (Is (.ms i 0 n n) ((i,.box E (List.replicate n (.sc (.slice none 0 0))))::L)):=by
 subst hn hm
 intro a w β K Q h0 hf hK
 obtain⟨inf,zv,e1,e2,e3,e4,e5,e6⟩:=Qt.out hE
 have h1:=hf.ev x
 rw [hx] at h1
 have h2:=hf.ev y
 rw [hy] at h2
 have h3:(n:Int)≤9223372036854775807:=by
  have h:=hb.2
  simp [maxLen] at h
  omega
 have h5:(inf.bytes:Int)*(n:Int)≤281474976710656:=by
  have h:((inf.bytes*n:Nat):Int)≤281474976710656:=by rw [e3]; have:=hb.1; omega
  rwa [Int.natCast_mul] at h
 have hr:=run_make (P:=P) w T E inf zv (sliceB.out hT).1 e1 e4 kd kd' n n (by omega) (Int.le_refl _) h5 h3
 simp only [Int.toNat_natCast] at hr
 have h4:(execOp a.eval o).run P w=.ok (.value (.slice (some ⟨w.heap.size,0,none⟩) n n)) (w.alloc (.cells (madeCells zv.cells (n*inf.size)) E)):=by
  simp [execOp,ho,h1.inv_sc,h2.inv_sc,hr]
 unfold Oper.wp
 rw [h4]
 have h6:zv.cells=#[.slice none 0 0]:=by
  rw [e1] at hz
  simp [e4] at hz
  exact hz
 rw [h6,e2]
 refine hK _ _ _ _ (upP β i (some w.heap.size)) ⟨rfl,rfl⟩ (h0.alloc hi _ (fun hs=>⟨_,rfl,madeCells #[.slice none 0 0] (n*1),heap_alloc_new w _,by rw [size_madeCells]; simp,fun j u v hu hv=>?_⟩)) (Step.alloc hi h0.bnd _) (.ms (t:=E) (by simp [G9]; rfl) (by simp [upP]) (K0) hb.2)
 have h7:=List.eq_of_mem_replicate (Ey hu)
 subst h7
 have hj:=(Eh hv).1
 simp [size_madeCells] at hj
 rw [madeCells] at hv
 simp [hj] at hv
 have:j % 1=0:=Nat.mod_one j
 simp [this] at hv
 subst hv
 exact .sc
theorem Jd1 {x ix:Operand} {T E i off n cap m t:Nat} {cs:List AV} {kd:IntKind} {z:Int} (ho:o.op=.indexAddr T x ix) (hx:ev l x=.ms i off n cap) (hi:ev l ix=.sc (.int kd z)) (hL:lk L i=some (.box t cs)) (hT:sliceB P T E 1=true) (hz:z=(m:Int)) (hm:m < n):Gq P o l L (Is (.ptr i (off+m)) L):=
 H4 fun a w β _ hf=>by
  subst hz
  have h1:=hf.ev x
  rw [hx] at h1
  have h2:=hf.ev ix
  rw [hi] at h2
  obtain⟨b,hb,he,hn,hc⟩:=h1.ms_inv
  have hr:=Jd (sliceB.out hT).2 w
  refine⟨_,?_,.ptr hL hb⟩
  simp [execOp,ho,Instr.indexAt,h2.inv_sc,he,asIntOf,underlying,(sliceB.out hT).1,hm,hr,Addr.add_lit]
theorem Qb3 {x:Operand} {T E i off n cap:Nat} (ho:o.op=.call { callee:=.builtin .len,args:=#[x],argTypes:=#[T] }) (hT:sliceB P T E 1=true) (hx:ev l x=.ms i off n cap):Gq P o l L (Is (.sc (.int .i64 n)) L):=
 H4 fun a w β _ hf=>by
  have h:=hf.ev x
  rw [hx] at h
  obtain⟨b,hb,he,hn,hc⟩:=h.ms_inv
  exact⟨.int .i64 n,by simp [execOp,ho,resolve,invoke,builtin,Builtin.len_,underlying,(sliceB.out hT).1,he,goInt],.sc⟩
end ops

def Gb6 (p t:Nat) (rows:List (List Int)):Loc:=(List.range 6).map fun j=>(p+j,J5.spare t 1 (rows.getD j []).length (rows.getD j []).length)
def G2f (p:Nat) (rows:List (List Int)):List AV:=rows.mapIdx fun j s=>OW (p+j) 1 I64 s
theorem Gcb (p:Nat) (rows:List (List Int)):(G2f p rows).length=rows.length:=by simp [G2f]
theorem Gbe {p:Nat} {rows:List (List Int)} {j:Nat} {s:List Int} (h:rows[j]? = some s):(G2f p rows)[j]? = some (OW (p+j) 1 I64 s):=by simp [G2f,h]
theorem H8f (p t:Nat) (rows:List (List Int)):Gb6 p t rows=[(p,.spare t 1 (rows.getD 0 []).length (rows.getD 0 []).length),(p+1,.spare t 1 (rows.getD 1 []).length (rows.getD 1 []).length),(p+2,.spare t 1 (rows.getD 2 []).length (rows.getD 2 []).length),(p+3,.spare t 1 (rows.getD 3 []).length (rows.getD 3 []).length),(p+4,.spare t 1 (rows.getD 4 []).length (rows.getD 4 []).length),(p+5,.spare t 1 (rows.getD 5 []).length (rows.getD 5 []).length)]:=rfl
theorem Gfb {p t:Nat} {rows:List (List Int)} {L:Loc} {j:Nat} (hj:j < 6):lk (Gb6 p t rows++L) (p+j)=some (.spare t 1 (rows.getD j []).length (rows.getD j []).length):=by
 have hj:j=0∨j=1∨j=2∨j=3∨j=4∨j=5:=by omega
 rw [H8f]
 rcases hj with rfl | rfl | rfl | rfl | rfl | rfl <;> simp [G9]
theorem H1e {p t:Nat} {rows:List (List Int)} {L:Loc} {i:Nat} (hi:i < p∨p+6≤i):lk (Gb6 p t rows++L) i=lk L i:=by
 rw [H8f]
 simp only [List.cons_append,List.nil_append,G9]
 rw [if_neg (by omega),if_neg (by omega),if_neg (by omega),if_neg (by omega),if_neg (by omega),if_neg (by omega)]
theorem Q4e {p t:Nat} {rows:List (List Int)} {L:Loc} {j:Nat} {s:List Int} (hj:j < rows.length) (h6:j < 6):G82 ((p+j,.spare t 1 s.length s.length)::(Gb6 p t rows++L)) (Gb6 p t (rows.set j s)++L):=fun id=>by
 rw [G9]
 by_cases e:p+j=id
 ·subst e
  rw [if_pos rfl,Gfb h6]
  have:(rows.set j s).getD j []=s:=by rw [List.getD_eq_getElem?_getD,List.getElem?_set_self hj]; rfl
  rw [this]
 ·rw [if_neg e]
  by_cases h:id < p∨p+6≤id
  ·rw [H1e h,H1e h]
  ·obtain⟨m,rfl⟩:∃ m,id=p+m:=⟨id - p,by omega⟩
   rw [Gfb (by omega),Gfb (by omega)]
   have:(rows.set j s).getD m []=rows.getD m []:=by rw [List.getD_eq_getElem?_getD,List.getD_eq_getElem?_getD,List.getElem?_set_ne (by omega)]
   rw [this]
theorem Qd7 {p:Nat} {rows:List (List Int)} {j:Nat} {s:List Int}:(G2f p rows).set j (OW (p+j) 1 I64 s)=G2f p (rows.set j s):=by
 apply List.ext_getElem?
 intro i
 simp only [G2f,List.getElem?_mapIdx,List.getElem?_set,List.length_mapIdx]
 by_cases e:j=i
 ·subst e
  by_cases h:j < rows.length <;> simp [h]
 ·simp [e]
theorem Q3.locEq' {N:Cfg} {w0 w:World} {β0 β:Gx} {L0 L L':Loc} {a:Act} {l:Fr} (hs:Q3 N w0 β0 L0 a w β l L) (e:G82 L L'):Q3 N w0 β0 L0 a w β l L':=
 ⟨hs.sat.locEq e,hs.step.locEq e,⟨fun t=>(hs.frame.tmp t).locEq e⟩,hs.size,hs.base,hs.defers.sub fun id D h1 h2=>⟨id,by rw [e id]; exact h1,h2⟩⟩
theorem R25 {P:Program} {N:Cfg} {c:Code} {Q:Post} {l:Fr} {L L':Loc} (e:G82 L L') (hk:JC P N c Q l L'):JC P N c Q l L:=fun n w0 β0 L0 a w β hs=>hk n w0 β0 L0 a w β (hs.locEq' e)
theorem Q3.newSpare {N:Cfg} {w0 w:World} {β0 β:Gx} {L0 L:Loc} {a:Act} {l:Fr} (hs:Q3 N w0 β0 L0 a w β l L) (id E k:Nat) (hid:lk L id=none):Q3 N w0 β0 L0 a w (upP β id none) l ((id,.spare E k 0 0)::L):=by
 have st:=G8c (w:=w) (β:=β) E k hid
 exact⟨H5e E k hs.sat hid,hs.step.trans st,hs.frame.step st,hs.size,hs.base,hs.defers.step st⟩
theorem R00 {w:World} {β:Gx} {L:Loc} {i E:Nat} (hi:lk L i=some (.spare E 1 0 0)) (hb:β i=none):V w β L (.own i 0 1 []) (.slice none 0 0):=
 .own (.nil (Nat.zero_le _)) ⟨E,0,0,hi,K0,fun _=>⟨rfl,by simp [Value.ownBlock,hb],[],⟨by simp,.inl ⟨rfl,rfl⟩⟩,fun j u hu=>by simp [flat] at hu⟩⟩
theorem Jf6 (n j:Nat):(List.replicate n ([]:List Int)).getD j []=[]:=by
 rw [List.getD_eq_getElem?_getD,List.getElem?_replicate]; split <;> rfl
theorem Q3.rowBegin {N:Cfg} {w0 w:World} {β0 β:Gx} {L0 L:Loc} {a:Act} {l:Fr} (hs:Q3 N w0 β0 L0 a w β l L) (i p T E n:Nat) (hi:lk L i=some (.box T (List.replicate n (.sc (.slice none 0 0))))) (hn:n≤6) (h8:i < p∨p+6≤i) (hp:∀ j,j < 6→lk L (p+j)=none) :
  ∃ β',Q3 N w0 β0 L0 a w β' l ((i,.box T (G2f p (List.replicate n [])))::(Gb6 p E (List.replicate n [])++L)):=by
 have h5:=hs.newSpare (p+5) E 1 (hp 5 (by decide))
 have h4:=h5.newSpare (p+4) E 1 (by rw [G9,if_neg (by omega)]; exact hp 4 (by decide))
 have h3:=h4.newSpare (p+3) E 1 (by rw [G9,if_neg (by omega),G9,if_neg (by omega)]; exact hp 3 (by decide))
 have h2:=h3.newSpare (p+2) E 1 (by rw [G9,if_neg (by omega),G9,if_neg (by omega),G9,if_neg (by omega)]; exact hp 2 (by decide))
 have h1:=h2.newSpare (p+1) E 1 (by rw [G9,if_neg (by omega),G9,if_neg (by omega),G9,if_neg (by omega),G9,if_neg (by omega)]; exact hp 1 (by decide))
 have h0:=h1.newSpare p E 1 (by rw [G9,if_neg (by omega),G9,if_neg (by omega),G9,if_neg (by omega),G9,if_neg (by omega),G9,if_neg (by omega)]; exact hp 0 (by decide))
 have eL:((p,J5.spare E 1 0 0)::(p+1,.spare E 1 0 0)::(p+2,.spare E 1 0 0)::(p+3,.spare E 1 0 0)::(p+4,.spare E 1 0 0)::(p+5,.spare E 1 0 0)::L)=Gb6 p E (List.replicate n [])++L:=by
  rw [H8f]
  simp only [Jf6,List.length_nil]
  rfl
 rw [eL] at h0
 have h6:∀ j,j < 6→(upP (upP (upP (upP (upP (upP β (p+5) none) (p+4) none) (p+3) none) (p+2) none) (p+1) none) p none).at_ (p+j)=none:=fun j hj=>by
  have hj:j=0∨j=1∨j=2∨j=3∨j=4∨j=5:=by omega
  rcases hj with rfl | rfl | rfl | rfl | rfl | rfl <;> simp [upP]
 generalize (upP (upP (upP (upP (upP (upP β (p+5) none) (p+4) none) (p+3) none) (p+2) none) (p+1) none) p none)=β' at h0 h6
 refine⟨β',h0.redescribe (i:=i) (t:=T) (cs:=List.replicate n (.sc (.slice none 0 0))) (by rw [H1e h8]; exact hi) (by rw [List.length_replicate,Gcb,List.length_replicate]) fun vs q u v h7 a0 hu hv=>?_⟩
 have hq:q < n:=by
  have:=(Ev hu).1
  rwa [Gcb,List.length_replicate] at this
 have h9:=h7 q _ v (by rw [List.getElem?_replicate,if_pos hq]) hv
 rw [h9.inv_sc]
 rw [Gbe (by rw [List.getElem?_replicate,if_pos hq])] at hu
 have hu:=Ex hu
 subst hu
 exact R00 (E:=E) (by rw [Gfb (by omega),Jf6]; rfl) (h6 q (by omega))
theorem Q13 {P:Program} {N:Cfg} {ops:Array Oper} {rest:List Oper} {Q:Post} {l:Fr} {L:Loc} (i p T E n:Nat) (hi:lk L i=some (.box T (List.replicate n (.sc (.slice none 0 0))))) (hn:n≤6) (h0:i < p∨p+6≤i) (hp:∀ j,j < 6→lk L (p+j)=none)
  (hk:JL P N ops rest Q l ((i,.box T (G2f p (List.replicate n [])))::(Gb6 p E (List.replicate n [])++L))):JL P N ops rest Q l L:=fun n w0 β0 L0 a w β hs=>by
 obtain⟨β',h⟩:=hs.rowBegin i p T E _ hi hn h0 hp
 exact hk n w0 β0 L0 a w β' h
theorem Ja0 (rows:List (List Int)):flat (rows.map (LS 1 I64))=rows.map (LS 1 I64):=by
 induction rows with
 | nil=>rfl
 | cons y r ih=>show LS 1 I64 y::flat (r.map (LS 1 I64))=_; rw [ih]; rfl
theorem Q3.rowFree {N:Cfg} {w0 w:World} {β0 β:Gx} {L0 L L':Loc} {a:Act} {l l':Fr} (hs:Q3 N w0 β0 L0 a w β l L) {Y i p tY T:Nat} {rows:List (List Int)} {r:List AV} (hY:lk L Y=some (.box tY (.ms i 0 rows.length rows.length::r))) (hi:lk L i=some (.box T (G2f p rows)))
  (hf:Fits N.base l L l' L') (h6:lk L' Y=some (.box tY (.junk::r))) (h7:lk L' i=none):Q3 N w0 β0 L0 a w β l' ((Y,.box tY (LS 1 (LS 1 I64) rows::r))::L'):=by
 have h8:=hs.fits hf
 obtain⟨bY,g1,ys,g2,g3,g4⟩:=hs.sat.obj Y _ hY
 obtain⟨bi,k1,vs,k2,k3,k4⟩:=hs.sat.obj i _ hi
 refine h8.redescribeB (i:=Y) (t:=tY) (cs:=.junk::r) h6 rfl fun zs j u v hz h0 a3 hu hv=>?_
 obtain⟨b2,h1,h2⟩:=hz
 have:b2=bY:=by rw [g1] at h1; exact(Ex h1).symm
 subst this
 rw [g2] at h2
 have:ys=zs:=by simpa using h2
 subst this
 cases j with
 | succ j=>exact h0 (j+1) u v hu hv
 | zero=>
  have hu:LS 1 (LS 1 I64) rows=u:=Ex hu
  subst hu
  have h9:=g4 0 _ v rfl hv
  obtain⟨b3,h3,a0,_,h4⟩:=h9.ms_inv
  have:b3=bi:=by rw [k1] at h3; exact(Ex h3).symm
  subst this
  subst a0
  have stab:∀ j,J8 w β L' b3 j:=fun j=>⟨(Eh k2).1,fun hh=>hs.sat.apart i b3 j (by rw [hi]; rfl) k1 hh,fun id o ho hid=>by
   have h5:=hf.drop.some (id:=id) (by rw [ho]; rfl)
   have:=hs.sat.inj id i b3 h5 (by rw [hi]; rfl) hid k1
   subst this
   rw [h7] at ho; cases ho⟩
  have a4:vs.size=rows.length:=by rw [k3,Gcb]
  show V w β L' (.list 1 (rows.map (LS 1 I64))) (.slice (some ⟨b3,0,none⟩) rows.length rows.length)
  refine .data ?_
  have e0:rows.length=(rows.map (LS 1 I64)).length:=(Kk _).symm
  conv=>rhs; rw [e0]
  refine .list (fun k=>vs.getD k undef) (by simp) (by simpa using h4) (fun y hy=>by obtain⟨z,_,rfl⟩:=Kn.1 hy; rfl) (fun k hk=>⟨by rw [Nat.zero_add]; exact stab k,?_⟩) (fun k u hu=>?_)
  ·rw [Ja0,Kk] at hk
   have a1:k < vs.size:=by omega
   simp [World.cell?,k2,a1]
  ·rw [Ja0] at hu
   have hk:k < vs.size:=by
    have:=(Ev hu).1
    rw [Kk] at this; omega
   obtain⟨s,a2,rfl⟩:=Option.map_eq_some_iff.1 (by rw [Kd] at hu; exact hu)
   have hV:=k4 k _ vs[k] (Gbe a2) (by simp [hk])
   have hc:=hV.conv hf.drop (u':=LS 1 I64 s) (.list rfl)
   have hD:=hc.toD rfl
   simpa [Array.getD_eq_getD_getElem?,hk] using hD
theorem Q78 {P:Program} {N:Cfg} {c:Code} {Q:Post} {l:Fr} {L:Loc} (l':Fr) (L':Loc) {Y i p tY T:Nat} {rows:List (List Int)} {r:List AV} (hY:lk L Y=some (.box tY (.ms i 0 rows.length rows.length::r))) (hi:lk L i=some (.box T (G2f p rows)))
  (hf:Fits N.base l L l' L') (h0:lk L' Y=some (.box tY (.junk::r))) (h1:lk L' i=none) (hk:JC P N c Q l' ((Y,.box tY (LS 1 (LS 1 I64) rows::r))::L')):JC P N c Q l L:=fun n w0 β0 L0 a w β hs=>hk n w0 β0 L0 a w β (hs.rowFree hY hi hf h0 h1)
set_option maxHeartbeats 1000000
set_option linter.unusedSimpArgs false

def G6c (H:Nat) (rows:List (List Int)) (v i:Int):Nat→Nat→List (List Int)
 | 0,_=>rows
 | f+1,k=>if (rows.getD ((v+(k:Int)).tmod (rows.length:Int)).toNat []).length < H then rows.set ((v+(k:Int)).tmod (rows.length:Int)).toNat (rows.getD ((v+(k:Int)).tmod (rows.length:Int)).toNat []++[i+1]) else G6c H rows v i f (k+1)
def Gb1 (H:Nat):List Int→Nat→List (List Int)→List (List Int)
 | [],_,rows=>rows
 | v::r,i,rows=>if i < 20 then Gb1 H r (i+1) (G6c H rows v (i:Int) rows.length 0) else rows
theorem He1 (H:Nat) (rows:List (List Int)) (v i:Int):∀ (f k:Nat),(G6c H rows v i f k).length=rows.length
 | 0,_=>rfl
 | f+1,k=>by
  rw [G6c]
  split
  ·rw [List.length_set]
  ·exact He1 H rows v i f (k+1)
theorem He0 {H:Nat} {rows:List (List Int)} (h:∀ s∈rows,s.length≤H) (v i:Int):∀ (f k:Nat),∀ s∈G6c H rows v i f k,s.length≤H
 | 0,_,s,hs=>h s hs
 | f+1,k,s,hs=>by
  rw [G6c] at hs
  split at hs
  ·rename_i h0
   rcases List.mem_or_eq_of_mem_set hs with hs | rfl
   ·exact h s hs
   ·rw [Kg,Kh]; omega
  ·exact He0 h v i f (k+1) s hs
def Jv (stacks height:Int) (l:List Int):Option Gm:=
 need (decide (0≤stacks∧stacks≤255∧0≤height∧height≤255)&&l.all (fun v=>decide (0≤v∧v≤255))) <| some ⟨Gb1 (1+(height.tmod 6).toNat) l 0 (List.replicate (1+(stacks.tmod 6).toNat) []),((1+(height.tmod 6).toNat:Nat):Int)⟩

namespace SpecMF
theorem G20:Rx Try.prog 24 0 0=true:=by kernel_rfl
theorem H9c:Rx Try.prog 24 1 1=true:=by kernel_rfl
theorem H30:Qs Try.prog 22=true:=by kernel_rfl
theorem scS:Qs Try.prog 25=true:=by kernel_rfl
theorem scI:Qs Try.prog 3=true:=by kernel_rfl
theorem scU:Qs Try.prog 5=true:=by kernel_rfl
theorem H13:sliceB Try.prog 22 25 1=true:=by kernel_rfl
theorem slS:sliceB Try.prog 25 3 1=true:=by kernel_rfl
theorem slL:sliceB Try.prog 31 5 1=true:=by kernel_rfl
theorem elS:Qt Try.prog 25 1 24=true:=by kernel_rfl
theorem elI:Qt Try.prog 3 1 8=true:=by kernel_rfl
theorem szS:Y6 Try.prog 25 1=true:=by kernel_rfl
theorem szY:Y6 Try.prog 24 2=true:=by kernel_rfl
theorem Jb3:Qk Try.prog 24 2=true:=by kernel_rfl
theorem R95:Qk Try.prog 3 1=true:=by kernel_rfl
theorem Gfc:Gcc Try.prog 24 2=true:=by kernel_rfl
theorem plY:placesOf Try.prog 24=some [(0,1),(1,1)]:=by kernel_rfl
theorem Hf3:(Try.prog.info? 24).bind (fun i=>i.zero.map Value.cells)=some [.slice none 0 0,.int .i64 0].toArray:=by kernel_rfl
theorem Re9:(Try.prog.info? 25).bind (fun i=>i.zero.map Value.cells)=some #[.slice none 0 0]:=by kernel_rfl
theorem mixed:Try.prog.follows .mixedOrders=true:=by kernel_rfl
theorem Ra1:H46 Try.prog 5 .u8=true:=by kernel_rfl
theorem Ra2:H46 Try.prog 3 .i64=true:=by kernel_rfl
end SpecMF
open SpecMF
def Mof (N H:Nat) (res:List AV) (rows:List (List Int)):Loc:=(1600000001,.box 24 res)::(1600000002,.box 24 [.ms 1600000003 0 N N,I64 (H:Int)])::(1600000003,.box 25 (G2f 1600000010 rows))::(Gb6 1600000010 3 rows++[])
theorem R08 {N H:Nat} {res:List AV} {rows:List (List Int)} {j:Nat} (hj:j < 6):lk (Mof N H res rows) (1600000010+j)=some (.spare 3 1 (rows.getD j []).length (rows.getD j []).length):=by
 unfold Mof
 rw [G9,if_neg (by omega),G9,if_neg (by omega),G9,if_neg (by omega),Gfb hj]
theorem J96 {N H:Nat} {rows:List (List Int)} (h:rows.length≤6):∀ (j:Nat) u u',(G2f 1600000010 rows)[j]? = some u→(G2f 1600000010 rows)[j]? = some u'→Conv (fun i=>(lk (Mof N H [.junk,.junk] rows) i).isSome) u u':=fun j u u' hu h0=>by
 rw [hu] at h0; cases h0
 have hj:j < rows.length:=by
  have:=(Ev hu).1
  rwa [Gcb] at this
 rw [Gbe (Ew hj)] at hu
 have hu:=Ex hu
 subst hu
 refine .same ?_
 have h1:(lk (Mof N H [.junk,.junk] rows) (1600000010+j)).isSome=true:=by rw [R08 (by omega)]; rfl
 exact h1
theorem H41 {N H:Nat} {rows:List (List Int)} (h:rows.length≤6):G85 (fun i=>(lk (Mof N H [.junk,.junk] rows) i).isSome) (Mof N H [.junk,.junk] rows) (Mof N H [.junk,.junk] rows):=
 ⟨⟨_,rfl,.boxEq rfl rfl⟩,⟨_,rfl,.boxEq rfl rfl⟩,⟨_,rfl,.box rfl (J96 h)⟩,⟨_,rfl,.same⟩,⟨_,rfl,.same⟩,⟨_,rfl,.same⟩,⟨_,rfl,.same⟩,⟨_,rfl,.same⟩,⟨_,rfl,.same⟩,trivial⟩
theorem R4f {N H:Nat} {res:List AV} {rows:List (List Int)} {j:Nat} {s:List Int} (hj:j < rows.length) (h6:j < 6):G82 ((1600000003,.box 25 (G2f 1600000010 (rows.set j s)))::(1600000010+j,.spare 3 1 s.length s.length)::Mof N H res rows) (Mof N H res (rows.set j s)):=fun id=>by
 have h0:=Q4e (p:=1600000010) (t:=3) (L:=[]) (s:=s) hj h6 id
 unfold Mof
 rw [G9] at h0
 simp only [G9]
 by_cases e3:1600000003=id
 ·subst e3; rw [if_pos rfl,if_neg (by omega),if_neg (by omega),if_pos rfl]
 ·rw [if_neg e3,if_neg e3,if_neg e3]
  by_cases e1:1600000001=id
  ·subst e1; rw [if_neg (by omega),if_pos rfl,if_pos rfl]
  ·rw [if_neg e1,if_neg e1]
   by_cases e2:1600000002=id
   ·subst e2; rw [if_neg (by omega),if_pos rfl,if_pos rfl]
   ·rw [if_neg e2,if_neg e2]; exact h0
theorem Gfe (stacks height:Int) (l:List Int) (r:Gm) (h:Jv stacks height l=some r):Pure Try.prog 15 [U8 stacks,U8 height,LS 1 U8 l] (·=.agg [LS 1 (LS 1 I64) r.Stacks,I64 r.Height]):=by
 unfold Jv at h
 obtain⟨a3,h⟩:=J2 h
 rw [Ki,Kj,List.all_eq_true] at a3
 obtain⟨⟨b6,d1,b7,d2⟩,b8⟩:=a3
 have hl:∀ v∈l,0≤v∧v≤255:=fun v hv=>Ep (b8 v hv)
 obtain⟨N,hN⟩:∃ N,N=1+(stacks.tmod 6).toNat:=⟨_,rfl⟩
 obtain⟨H,hH⟩:∃ H,H=1+(height.tmod 6).toNat:=⟨_,rfl⟩
 have h6:stacks.tmod 6=((N - 1:Nat):Int)∧1≤N∧N≤6:=by
  have e:stacks.tmod 6=stacks % 6:=Int.tmod_eq_emod_of_nonneg b6
  rw [e] at hN ⊢; omega
 have h7:height.tmod 6=((H - 1:Nat):Int)∧1≤H∧H≤6:=by
  have e:height.tmod 6=height % 6:=Int.tmod_eq_emod_of_nonneg b7
  rw [e] at hH ⊢; omega
 obtain⟨h6,d3,a4⟩:=h6
 obtain⟨h7,d4,d5⟩:=h7
 rw [← hN,← hH] at h
 have h:=Ex h
 subst h
 clear hN hH
 refine He [.cell 6 24] Try.func15 rfl rfl ?_
 refine G4 (fun K1 b9=>?_)
 refine G1 ?_
 refine G0 (u:=.ptr 1600000001 0) (Ja 1600000001 2 Jb3 rfl rfl) ?_ rfl rfl rfl
 refine G6 ?_
 refine b9 _ _ ?_
 refine G4 (fun K2 c0=>?_)
 refine G1 ?_
 refine G0 (u:=U8 stacks) (G2 rfl rfl) ?_ rfl rfl rfl
 refine G0 (u:=U8 ((N - 1:Nat):Int)) (Q1c (by decide) h6 rfl rfl rfl) ?_ rfl rfl rfl
 refine G0 (u:=I64 ((N - 1:Nat):Int)) (H58 Ra2 Ra1 (Zx (by omega) (by omega)) rfl rfl) ?_ rfl rfl rfl
 refine G0 (u:=I64 (N:Int)) (J0 (by rw [show (1:Int)+((N - 1:Nat):Int)=(N:Int) by omega]; exact Zx (by omega) (by omega)) rfl rfl rfl) ?_ rfl rfl rfl
 refine G0 (u:=.ms 1600000003 0 N N) (Qe3 1600000003 rfl rfl rfl rfl H13 elS Re9 rfl rfl (by simp only [maxLen]; omega)) ?_ rfl rfl rfl
 refine Q13 1600000003 1600000010 25 3 N rfl a4 (by omega) (fun j hj=>by
  have hj:j=0∨j=1∨j=2∨j=3∨j=4∨j=5:=by omega
  rcases hj with rfl | rfl | rfl | rfl | rfl | rfl <;> rfl) ?_
 refine G0 (u:=U8 height) (G2 rfl rfl) ?_ rfl rfl rfl
 refine G0 (u:=U8 ((H - 1:Nat):Int)) (Q1c (by decide) h7 rfl rfl rfl) ?_ rfl rfl rfl
 refine G0 (u:=I64 ((H - 1:Nat):Int)) (H58 Ra2 Ra1 (Zx (by omega) (by omega)) rfl rfl) ?_ rfl rfl rfl
 refine G0 (u:=I64 (H:Int)) (J0 (by rw [show (1:Int)+((H - 1:Nat):Int)=(H:Int) by omega]; exact Zx (by omega) (by omega)) rfl rfl rfl) ?_ rfl rfl rfl
 refine G0 (u:=.agg [.ms 1600000003 0 N N,I64 (H:Int)]) (Jn (cs:=[.ms 1600000003 0 N N,I64 (H:Int)]) [(0,1),(1,1)] [.sc (.slice none 0 0),I64 0] [.slice none 0 0,.int .i64 0] plY Hf3 ⟨.inl rfl,.inl rfl,trivial⟩ rfl rfl) ?_ rfl rfl rfl
 refine G0 (u:=.ptr 1600000002 0) (Ja 1600000002 2 Jb3 rfl rfl) ?_ rfl rfl rfl
 refine J9 (u:=.junk) (Ho (u:=.agg [.ms 1600000003 0 N N,I64 (H:Int)]) (ds:=[.ms 1600000003 0 N N,I64 (H:Int)]) szY rfl rfl rfl rfl rfl rfl rfl rfl) ?_ rfl rfl
 refine G6 ?_
 refine c0 _ _ ?_
 refine G4 (fun K3 c1=>?_)
 refine G4 (fun K4 c2=>?_)
 refine G1 ?_
 refine G0 (u:=I64 0) (G5 rfl rfl) ?_ rfl rfl rfl
 refine G6 ?_
 refine c2 _ _ ?_
 refine Gg ?_
 refine H71 (X:=Nat×List (List Int)) (fun q=>q.1≤l.length∧q.2.length=N∧(∀ s∈q.2,s.length≤H)∧Gb1 H (l.drop q.1) q.1 q.2=Gb1 H l 0 (List.replicate N []))
  (fun q=>[(2,LS 1 U8 l),(6,.ptr 1600000001 0),(7,.ptr 1600000002 0),(8,I64 (q.1:Int))]) (fun q=>Mof N H [.junk,.junk] q.2) (fun q=>l.length - q.1) (0,List.replicate N [])
  ⟨Nat.zero_le _,List.length_replicate,fun s hs=>by rw [List.eq_of_mem_replicate hs]; exact Nat.zero_le _,rfl⟩
  ⟨⟨.same rfl,.same rfl,.same rfl,.same rfl,trivial⟩,⟨⟨_,rfl,.boxEq rfl rfl⟩,⟨_,rfl,.boxEq rfl rfl⟩,⟨_,rfl,.box rfl (J96 (by rw [List.length_replicate]; exact a4))⟩,⟨_,rfl,.same⟩,⟨_,rfl,.same⟩,⟨_,rfl,.same⟩,⟨_,rfl,.same⟩,⟨_,rfl,.same⟩,⟨_,rfl,.same⟩,trivial⟩,rfl⟩ ?_
 rintro⟨i,rows⟩ ⟨hi,h3,h5,hR⟩ K5 e5
 dsimp only at hi h3 h5 hR e5 ⊢
 refine G4 (fun K6 c3=>?_)
 refine G4 (fun K7 c4=>?_)
 refine G1 ?_
 refine G0 (u:=I64 (i:Int)) (G2 rfl rfl) ?_ rfl rfl rfl
 refine G0 (u:=LS 1 U8 l) (G2 rfl rfl) ?_ rfl rfl rfl
 refine H6 (f:=U8) (xs:=l) slL rfl rfl (fun hm=>?_) rfl rfl rfl
 have hm:l.length≤9223372036854775807:=by simp only [maxLen] at hm; omega
 refine G0 (u:=BL (decide ((i:Int) < (l.length:Int)))) (J1 rfl rfl rfl) ?_ rfl rfl rfl
 refine G0 (u:=BL (decide ((i:Int) < (l.length:Int)))) (G2 rfl rfl) ?_ rfl rfl rfl
 refine Ga (u:=I64 (i:Int)) [] rfl rfl rfl .sct trivial (fun hc=>G2 rfl rfl) ?_ rfl rfl rfl
 refine Ga (u:=BL (decide ((i:Int) < 20))) [(26,I64 (i:Int))] rfl rfl rfl .sct ⟨.all id,trivial⟩ (fun hc=>J1 rfl rfl rfl) ?_ rfl rfl rfl
 refine G0 (u:=BL (decide ((i:Int) < (l.length:Int))&&decide ((i:Int) < 20))) (R9 rfl rfl rfl rfl) ?_ rfl rfl rfl
 refine G6 ?_
 refine c4 _ _ ?_
 refine Gh rfl (fun hb=>?_) (fun hb=>?_)
 ·rw [Ki,Kj,Kj] at hb
  obtain⟨h4,h8⟩:=hb
  have h4:i < l.length:=by omega
  have h8:i < 20:=by omega
  obtain⟨v,hv⟩:∃ v,l[i]? = some v:=⟨_,Ew h4⟩
  have d6:=hl v (Ey hv)
  have a1:l.drop i=v::l.drop (i+1):=by
   rw [List.drop_eq_getElem_cons h4]; congr 1
   rw [Ew h4] at hv; exact Ex hv
  rw [a1,Gb1,if_pos h8,h3] at hR
  refine Gi ?_
  refine c3 _ _ ?_
  refine Z5 (X:=List (List Int)) (fun rows'=>rows'=G6c H rows v (i:Int) N 0) (fun _=>[(2,LS 1 U8 l),(6,.ptr 1600000001 0),(7,.ptr 1600000002 0),(8,I64 (i:Int))]) (fun rows'=>Mof N H [.junk,.junk] rows') (fun K8 e8=>?_) ?_
  ·refine Gg ?_
   refine G4 (fun K9 c5=>?_)
   refine G1 ?_
   refine G0 (u:=.ptr 1600000002 0) (Hy G20 rfl rfl) ?_ rfl rfl rfl
   refine G0 (u:=.ms 1600000003 0 N N) (Hz H30 rfl rfl rfl rfl) ?_ rfl rfl rfl
   refine G0 (u:=I64 (N:Int)) (Qb3 rfl H13 rfl) ?_ rfl rfl rfl
   refine G0 (u:=I64 0) (G2 rfl rfl) ?_ rfl rfl rfl
   refine G6 ?_
   refine c5 _ _ ?_
   refine Gg ?_
   refine H71 (X:=Nat) (fun k=>k≤N∧G6c H rows v (i:Int) (N - k) k=G6c H rows v (i:Int) N 0)
    (fun k=>[(2,LS 1 U8 l),(6,.ptr 1600000001 0),(7,.ptr 1600000002 0),(8,I64 (i:Int)),(33,I64 (N:Int)),(34,I64 (k:Int))]) (fun _=>Mof N H [.junk,.junk] rows) (fun k=>N - k) 0
    ⟨Nat.zero_le _,rfl⟩ ⟨⟨.same rfl,.same rfl,.same rfl,.same rfl,.same rfl,.same rfl,trivial⟩,H41 (by omega),rfl⟩ ?_
   rintro k ⟨hk,h0⟩ K10 e10
   dsimp only at hk h0 e10 ⊢
   refine G4 (fun K11 a7=>?_)
   refine G1 ?_
   refine G0 (u:=BL (decide ((k:Int) < (N:Int)))) (J1 rfl rfl rfl) ?_ rfl rfl rfl
   refine G6 ?_
   refine a7 _ _ ?_
   refine G4 (fun K12 a8=>?_)
   refine Gh rfl (fun hb=>?_) (fun hb=>?_)
   ·have c6:k < N:=by have:=Ep hb; omega
    refine Gi ?_
    refine a8 _ _ ?_
    obtain⟨m,h9⟩:∃ m:Nat,(v+(k:Int)).tmod (N:Int)=(m:Int):=by
     have e:(v+(k:Int)).tmod (N:Int)=(v+(k:Int)) % (N:Int):=Int.tmod_eq_emod_of_nonneg (by omega)
     rw [e]
     exact⟨((v+(k:Int)) % (N:Int)).toNat,by have:=Int.emod_nonneg (v+(k:Int)) (show (N:Int)≠0 by omega); omega⟩
    have a0:m < N:=by
     have e:(v+(k:Int)).tmod (N:Int)=(v+(k:Int)) % (N:Int):=Int.tmod_eq_emod_of_nonneg (by omega)
     rw [e] at h9
     have:=Int.emod_lt_of_pos (v+(k:Int)) (show (0:Int) < (N:Int) by omega)
     omega
    have a5:m < rows.length:=by omega
    obtain⟨s,hs⟩:∃ s,rows[m]? = some s:=⟨_,Ew a5⟩
    have d7:=h5 s (Ey hs)
    have a6:rows.getD m []=s:=by rw [List.getD_eq_getElem?_getD,hs]; rfl
    have a2:G6c H rows v (i:Int) (N - k) k=if s.length < H then rows.set m (s++[(i:Int)+1]) else G6c H rows v (i:Int) (N - (k+1)) (k+1):=by
     rw [show N - k=(N - (k+1))+1 by omega,G6c,h3,h9,show ((m:Int)).toNat=m by omega,a6]
    rw [a2] at h0
    refine G4 (fun K13 a9=>?_)
    refine Gg ?_
    refine G4 (fun K14 b0=>?_)
    refine G1 ?_
    refine G0 (u:=I64 (k:Int)) (G2 rfl rfl) ?_ rfl rfl rfl
    refine G0 (u:=I64 (k:Int)) (G5 rfl rfl) ?_ rfl rfl rfl
    refine G6 ?_
    refine b0 _ _ ?_
    refine G4 (fun K15 b1=>?_)
    refine Jw [] [0,0,0,0,0,0,0,0,0,0,0,0] [0,0,0,0,0,0,0,0,0,0,0,0] [Mof N H [.junk,.junk] rows] mixed (by kernel_rfl) rfl rfl ?_
    refine Ge (u:=LS 1 U8 l) rfl rfl ⟨Gc (G2 rfl rfl) rfl,trivial⟩ ?_ rfl
    refine Ge (u:=I64 (i:Int)) rfl rfl ⟨Gc (G2 rfl rfl) rfl,trivial⟩ ?_ rfl
    refine Ge (u:=.dptr [U8 v]) rfl rfl ⟨Gc (H1 (f:=U8) (xs:=l) (y:=v) rfl rfl rfl slL hv rfl) rfl,trivial⟩ ?_ rfl
    refine Ge (u:=U8 v) rfl rfl ⟨Gc (Gp scU rfl rfl rfl) rfl,trivial⟩ ?_ rfl
    refine Ge (u:=I64 v) rfl rfl ⟨Gc (H58 Ra2 Ra1 (Zx (by omega) (by omega)) rfl rfl) rfl,trivial⟩ ?_ rfl
    refine Ge (u:=I64 (k:Int)) rfl rfl ⟨Gc (G2 rfl rfl) rfl,trivial⟩ ?_ rfl
    refine Ge (u:=I64 (v+(k:Int))) rfl rfl ⟨Gc (J0 (Zx (by omega) (by omega)) rfl rfl rfl) rfl,trivial⟩ ?_ rfl
    refine Ge (u:=.ptr 1600000002 0) rfl rfl ⟨Gc (Hy G20 rfl rfl) rfl,trivial⟩ ?_ rfl
    refine Ge (u:=.ms 1600000003 0 N N) rfl rfl ⟨Gc (Hz H30 rfl rfl rfl rfl) rfl,trivial⟩ ?_ rfl
    refine Ge (u:=I64 (N:Int)) rfl rfl ⟨Gc (Qb3 rfl H13 rfl) rfl,trivial⟩ ?_ rfl
    refine Ge (u:=I64 (m:Int)) rfl rfl ⟨Gc (Q1c (by omega) h9 rfl rfl rfl) rfl,trivial⟩ ?_ rfl
    refine Ge (u:=I64 (m:Int)) rfl rfl ⟨Gc (G5 rfl rfl) rfl,trivial⟩ ?_ rfl
    refine Ya ?_
    refine b1 _ _ ?_
    refine G4 (fun K16 b2=>?_)
    refine Jw [] [0,0,0,0,0,0,0,0,0] [0,0,0,0,0,0,0,0,0] [Mof N H [.junk,.junk] rows] mixed (by kernel_rfl) rfl rfl ?_
    refine Ge (u:=.ptr 1600000002 0) rfl rfl ⟨Gc (Hy G20 rfl rfl) rfl,trivial⟩ ?_ rfl
    refine Ge (u:=.ms 1600000003 0 N N) rfl rfl ⟨Gc (Hz H30 rfl rfl rfl rfl) rfl,trivial⟩ ?_ rfl
    refine Ge (u:=I64 (m:Int)) rfl rfl ⟨Gc (G2 rfl rfl) rfl,trivial⟩ ?_ rfl
    refine Ge (u:=.ptr 1600000003 (0+m)) rfl rfl ⟨Gc (Jd1 rfl rfl rfl rfl H13 rfl a0) rfl,trivial⟩ ?_ rfl
    refine Ge (u:=OW (1600000010+m) 1 I64 s) rfl rfl ⟨Gc (J77 scS rfl rfl rfl (by rw [Nat.zero_add]; exact Gbe hs)) rfl,trivial⟩ ?_ rfl
    refine Ge (u:=I64 (s.length:Int)) rfl rfl ⟨Gc (Jx (f:=I64) (xs:=s) slS rfl rfl) rfl,trivial⟩ ?_ rfl
    refine Ge (u:=.ptr 1600000002 1) rfl rfl ⟨Gc (Hy H9c rfl rfl) rfl,trivial⟩ ?_ rfl
    refine Ge (u:=I64 (H:Int)) rfl rfl ⟨Gc (Hz scI rfl rfl rfl rfl) rfl,trivial⟩ ?_ rfl
    refine Ge (u:=BL (decide ((s.length:Int) < (H:Int)))) rfl rfl ⟨Gc (J1 rfl rfl rfl) rfl,trivial⟩ ?_ rfl
    refine Ya ?_
    refine b2 _ _ ?_
    refine Gh rfl (fun hb=>?_) (fun hb=>?_)
    ·have c7:s.length < H:=by have:=Ep hb; omega
     rw [if_pos c7] at h0
     refine G4 (fun K17 b3=>?_)
     have k2:lk ((1600000010+m,.spare 3 1 (s++[(i:Int)+1]).length (s++[(i:Int)+1]).length)::Mof N H [.junk,.junk] rows) 1600000002=some (.box 24 [.ms 1600000003 0 N N,I64 (H:Int)]):=by rw [G9,if_neg (by omega)]; rfl
     have k3:lk ((1600000010+m,.spare 3 1 (s++[(i:Int)+1]).length (s++[(i:Int)+1]).length)::Mof N H [.junk,.junk] rows) 1600000003=some (.box 25 (G2f 1600000010 rows)):=by rw [G9,if_neg (by omega)]; rfl
     have ks:lk (Mof N H [.junk,.junk] rows) (1600000010+m)=some (.spare 3 1 s.length s.length):=by rw [R08 (by omega),a6]
     refine Jw [11,13] [0,0,0,0,0,0,0,0,0,0,0,0,1,0] [1,1,1,0,0,0,0,0,0,0,0,0,1,0] [Mof N H [.junk,.junk] rows,(1600000010+m,.spare 3 1 (s++[(i:Int)+1]).length (s++[(i:Int)+1]).length)::Mof N H [.junk,.junk] rows,(1600000003,.box 25 (G2f 1600000010 (rows.set m (s++[(i:Int)+1]))))::(1600000010+m,.spare 3 1 (s++[(i:Int)+1]).length (s++[(i:Int)+1]).length)::Mof N H [.junk,.junk] rows] mixed (by kernel_rfl) rfl rfl ?_
     refine Ge (u:=.ptr 1600000002 0) rfl rfl ⟨Gc (Hy G20 rfl rfl) rfl,Gc (Hy G20 rfl rfl) rfl,trivial⟩ ?_ rfl
     refine Ge (u:=.ms 1600000003 0 N N) rfl rfl ⟨Gc (Hz H30 rfl rfl rfl rfl) rfl,Gc (Hz H30 rfl rfl k2 rfl) rfl,trivial⟩ ?_ rfl
     refine Ge (u:=I64 (m:Int)) rfl rfl ⟨Gc (G2 rfl rfl) rfl,Gc (G2 rfl rfl) rfl,trivial⟩ ?_ rfl
     refine Ge (u:=.ptr 1600000002 0) rfl rfl ⟨Gc (Hy G20 rfl rfl) rfl,trivial⟩ ?_ rfl
     refine Ge (u:=.ms 1600000003 0 N N) rfl rfl ⟨Gc (Hz H30 rfl rfl rfl rfl) rfl,trivial⟩ ?_ rfl
     refine Ge (u:=I64 (m:Int)) rfl rfl ⟨Gc (G2 rfl rfl) rfl,trivial⟩ ?_ rfl
     refine Ge (u:=.ptr 1600000003 (0+m)) rfl rfl ⟨Gc (Jd1 rfl rfl rfl rfl H13 rfl a0) rfl,trivial⟩ ?_ rfl
     refine Ge (u:=OW (1600000010+m) 1 I64 s) rfl rfl ⟨Gc (J77 scS rfl rfl rfl (by rw [Nat.zero_add]; exact Gbe hs)) rfl,trivial⟩ ?_ rfl
     refine Ge (u:=I64 (i:Int)) rfl rfl ⟨Gc (G2 rfl rfl) rfl,trivial⟩ ?_ rfl
     refine Ge (u:=I64 ((i:Int)+1)) rfl rfl ⟨Gc (J0 (Zx (by omega) (by omega)) rfl rfl rfl) rfl,trivial⟩ ?_ rfl
     refine Ge (u:=LS 1 I64 [(i:Int)+1]) rfl rfl ⟨Gc (Ha (xs:=[I64 ((i:Int)+1)]) rfl ⟨rfl,rfl,trivial⟩ slS R95 rfl rfl rfl rfl) rfl,trivial⟩ ?_ rfl
     refine D_w (u:=OW (1600000010+m) 1 I64 (s++[(i:Int)+1])) rfl rfl rfl rfl (Gc (Ru (f:=I64) (xs:=s) (ys:=[(i:Int)+1]) rfl rfl ks rfl slS elI (Es ⟨by simp only [Kh]; omega,by simp only [Kh,maxLen]; omega⟩) (fun _=>rfl) (.inl rfl) rfl) rfl) ?_ rfl
     refine Ge (u:=.ptr 1600000003 (0+m)) rfl rfl ⟨Gc (Jd1 rfl rfl rfl k3 H13 rfl a0) rfl,trivial⟩ ?_ rfl
     refine H54 (u:=.junk) rfl rfl rfl rfl (Gc (H73 szS rfl rfl rfl k3 rfl rfl (by rw [Gcb]; omega) (by rw [Nat.zero_add]; exact Qd7)) rfl) ?_
     refine Ya ?_
     refine b3 _ _ ?_
     refine R25 (R4f (N:=N) (H:=H) (res:=[.junk,.junk]) (rows:=rows) (j:=m) (s:=s++[(i:Int)+1]) a5 (by omega)) ?_
     refine Hd ?_
     exact e8 _ _ (rows.set m (s++[(i:Int)+1])) h0 ⟨⟨.same rfl,.same rfl,.same rfl,.same rfl,trivial⟩,H41 (by rw [List.length_set]; omega),rfl⟩
    ·have c8:¬ s.length < H:=by have:=Er hb; omega
     rw [if_neg c8] at h0
     refine Gi ?_
     refine a9 _ _ ?_
     refine G1 ?_
     refine G0 (u:=I64 ((k+1:Nat):Int)) (J0 (by rw [show ((k:Int)+1)=((k+1:Nat):Int) by omega]; exact Zx (by omega) (by omega)) rfl rfl rfl) ?_ rfl rfl rfl
     refine G0 (u:=I64 ((k+1:Nat):Int)) (G2 rfl rfl) ?_ rfl rfl rfl
     refine G6 ?_
     exact e10 _ _ (k+1) ⟨c6,h0⟩ (by show N - (k+1) < N - k; omega) ⟨⟨.same rfl,.same rfl,.same rfl,.same rfl,.same rfl,.same rfl,trivial⟩,H41 (by omega),rfl⟩
   ·have c9:k=N:=by have:=Er hb; omega
    refine Hd ?_
    refine e8 _ _ rows ?_ ⟨⟨.same rfl,.same rfl,.same rfl,.same rfl,trivial⟩,H41 (by omega),rfl⟩
    rw [← h0,c9,Nat.sub_self]; rfl
  ·intro rows' h2
   have d0:rows'.length=N:=by rw [h2,He1]; exact h3
   refine G1 ?_
   refine G0 (u:=I64 (i:Int)) (G2 rfl rfl) ?_ rfl rfl rfl
   refine G0 (u:=I64 ((i+1:Nat):Int)) (J0 (by rw [show ((i:Int)+1)=((i+1:Nat):Int) by omega]; exact Zx (by omega) (by omega)) rfl rfl rfl) ?_ rfl rfl rfl
   refine G0 (u:=I64 ((i+1:Nat):Int)) (G5 rfl rfl) ?_ rfl rfl rfl
   refine G6 ?_
   exact e5 _ _ (i+1,rows') ⟨h4,d0,by rw [h2]; exact He0 h5 v _ N 0,by rw [h2]; exact hR⟩ (by show l.length - (i+1) < l.length - i; omega) ⟨⟨.same rfl,.same rfl,.same rfl,.same rfl,trivial⟩,H41 (by show rows'.length≤6; omega),rfl⟩
 ·have b4:Gb1 H (l.drop i) i rows=rows:=by
   simp only [Bool.and_eq_false_iff,decide_eq_false_iff_not] at hb
   rcases En i l.length with h1 | h1
   ·rw [List.drop_eq_getElem_cons h1,Gb1,if_neg (by omega)]
   ·rw [List.drop_eq_nil_of_le h1]; rfl
  rw [b4] at hR
  refine Hd ?_
  refine c1 _ _ ?_
  rw [← hR]
  refine G4 (fun K20 b5=>?_)
  refine G1 ?_
  refine G0 (u:=.agg [.ms 1600000003 0 N N,I64 (H:Int)]) (Jf Gfc rfl rfl rfl rfl) ?_ rfl rfl rfl
  refine J9 (u:=.junk) (Ho (u:=.agg [.ms 1600000003 0 N N,I64 (H:Int)]) (ds:=[.ms 1600000003 0 N N,I64 (H:Int)]) szY rfl rfl rfl rfl rfl rfl rfl rfl) ?_ rfl rfl
  refine G6 ?_
  refine b5 _ _ ?_
  subst h3
  refine Q78 (Y:=1600000001) (i:=1600000003) (p:=1600000010) (rows:=rows) [(6,.ptr 1600000001 0)] [(1600000001,.box 24 [.junk,I64 (H:Int)])] rfl rfl ⟨⟨.same rfl,trivial⟩,⟨⟨_,rfl,.boxL rfl ⟨.junk,.same rfl,trivial⟩⟩,trivial⟩,rfl⟩ rfl rfl ?_
  refine H0 ?_
  exact⟨[.agg [LS 1 (LS 1 I64) rows,I64 (H:Int)]],[],trivial,rfl,⟨⟨_,⟨_,_,_,_,rfl,rfl,rfl,.inl ⟨Gfc,rfl⟩⟩,.conv (.same rfl)⟩,trivial⟩,rfl,rfl⟩
def G70:=PLift.up Gfe
end Go.Proofs.Ytokjlondbjdlfaa
