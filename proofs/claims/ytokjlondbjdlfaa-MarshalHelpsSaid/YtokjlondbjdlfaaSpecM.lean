/-
 The examples of chapter 36,by what is known of the rule. A row of slices that are the call's own,in a box of their ow Made:
-/
import Derived.Test.YtokjlondbjdlfaaMarM
import Derived.Test.YtokjlondbjdlfaaPin
import Derived.Test.YtokjlondbjdlfaaPsm
import Derived.Test.YtokjlondbjdlfaaXA
set_option maxRecDepth 100000
set_option linter.unusedVariables false
namespace Go.Proofs.Ytokjlondbjdlfaa
open Go.RowKit Go.Sort Go.Shelf

theorem G51 {F:Nat} (hF:400 < F) {ss:List (List Int)} {H:Int} {order:List Int} {l:List G9} {e:Int} (ho:order.length≤1000000) (h:Hx F ⟨ss,H⟩ order=some (l,e)):Jx F ⟨ss,H⟩ order=some (l.map mv,e):=by
 obtain⟨l',e',h1,h2,_,_⟩:=H3e hF ss H ho
 rw [h] at h2
 have:=K0 h2
 cases this
 exact h1
theorem ex1:Hx 500 ⟨[[1,3,2],[4],[]],3⟩ [1,2,3,4]=some ([⟨0,1⟩,⟨0,2⟩],0):=by kernel_rfl
theorem ex2:Hx 500 ⟨[[1,2],[3,4]],2⟩ [1,2,3,4]=some ([],360):=by kernel_rfl
theorem ex3:Hx 500 ⟨[[1,3],[2]],2⟩ [1,2,3]=some ([],360):=by kernel_rfl
theorem ex4:Hx 500 ⟨[[1,3],[2,4],[]],2⟩ [1,2,3,4]=some ([⟨1,2⟩,⟨0,2⟩],0):=by kernel_rfl
theorem exW:Zd ⟨[[1,3,2],[4],[]],3⟩ [1,2,3,4]=some ([2,3],0):=by kernel_rfl
theorem Rd4:Jb 500 ⟨[[1,3,2],[4],[]],3⟩ [1,2,3,4]=some ([⟨0,1⟩,⟨0,2⟩],0):=by kernel_rfl
theorem Rd3:Jb 500 ⟨[[1,2],[3,4]],2⟩ [1,2,3,4]=some ([],6):=by kernel_rfl
theorem Rd2:Jb 500 ⟨[[1,3],[2]],2⟩ [1,2,3]=some ([],6):=by kernel_rfl
theorem exC:Qs ⟨[[1,3,2],[4],[]],3⟩ [1,2,3,4] [⟨0,1⟩,⟨0,2⟩]=some (true,0):=by kernel_rfl
open Go.RowKit
set_option linter.unusedVariables false

section ops
variable {P:Program} {o:Oper} {l:Fr} {L:Loc}
theorem R06 (i:Nat) {x y:Operand} {T E by_ n:Nat} {kd kd':IntKind} {nx ny:Int} (ho:o.op=.makeSlice T x y) (hx:ev l x=.sc (.int kd nx)) (hy:ev l y=.sc (.int kd' ny)) (hi:lk L i=none)
  (hT:sliceB P T E 1=true) (hE:Qw P E 1 by_=true) (hz:(P.info? E).bind (fun i=>i.zero.map Value.cells)=some #[.slice none 0 0]) (hn:nx=(n:Int)) (hm:ny=(n:Int)) (hb:by_*n≤281474976710656∧n≤maxLen) :
  Gt P o l L (Is (.ms i 0 n n) ((i,.box E (List.replicate n (.sc (.slice none 0 0))))::L)):=by
 subst hn hm
 intro a w β K Q h0 hf hK
 obtain⟨inf,zv,e1,e2,e3,e4,e5,e6⟩:=Qw.out hE
 have h1:=hf.ev x
 rw [hx] at h1
 have h2:=hf.ev y
 rw [hy] at h2
 have h3:(n:Int)≤9223372036854775807:=by
  have h:=hb.2
  simp [maxLen] at h
  omega
 have h5:(inf.bytes:Int)*(n:Int)≤281474976710656:=by
  have h:((inf.bytes*n:Nat):Int)≤281474976710656:=by rw [e3]; have:=hb.1; omega
  rwa [Int.natCast_mul] at h
 have hr:=run_make (P:=P) w T E inf zv (sliceB.out hT).1 e1 e4 kd kd' n n (by omega) (Int.le_refl _) h5 h3
 simp only [Int.toNat_natCast] at hr
 have h4:(execOp a.eval o).run P w=.ok (.value (.slice (some ⟨w.heap.size,0,none⟩) n n)) (w.alloc (.cells (madeCells zv.cells (n*inf.size)) E)):=by
  simp [execOp,ho,h1.inv_sc,h2.inv_sc,hr]
 unfold Oper.wp
 rw [h4]
 have h6:zv.cells=#[.slice none 0 0]:=by
  rw [e1] at hz
  simp [e4] at hz
  exact hz
 rw [h6,e2]
 refine hK _ _ _ _ (upP β i (some w.heap.size)) ⟨rfl,rfl⟩ (h0.alloc hi _ (fun hs=>⟨_,rfl,madeCells #[.slice none 0 0] (n*1),heap_alloc_new w _,by rw [size_madeCells]; simp,fun j u v hu hv=>?_⟩)) (Step.alloc hi h0.bnd _) (.ms (t:=E) (by simp [Ga]; rfl) (by simp [upP]) (Kc) hb.2)
 have h7:=List.eq_of_mem_replicate (Ka hu)
 subst h7
 have hj:=(Ek hv).1
 simp [size_madeCells] at hj
 rw [madeCells] at hv
 simp [hj] at hv
 have:j % 1=0:=Nat.mod_one j
 simp [this] at hv
 subst hv
 exact .sc
theorem Je8 {x ix:Operand} {T E i off n cap m t:Nat} {cs:List AV} {kd:IntKind} {z:Int} (ho:o.op=.indexAddr T x ix) (hx:ev l x=.ms i off n cap) (hi:ev l ix=.sc (.int kd z)) (hL:lk L i=some (.box t cs)) (hT:sliceB P T E 1=true) (hz:z=(m:Int)) (hm:m < n):Gt P o l L (Is (.ptr i (off+m)) L):=
 H7 fun a w β _ hf=>by
  subst hz
  have h1:=hf.ev x
  rw [hx] at h1
  have h2:=hf.ev ix
  rw [hi] at h2
  obtain⟨b,hb,he,hn,hc⟩:=h1.ms_inv
  have hr:=Je (sliceB.out hT).2 w
  refine⟨_,?_,.ptr hL hb⟩
  simp [execOp,ho,Instr.indexAt,h2.inv_sc,he,asIntOf,underlying,(sliceB.out hT).1,hm,hr,Addr.add_lit]
theorem Qd6 {x:Operand} {T E i off n cap:Nat} (ho:o.op=.call { callee:=.builtin .len,args:=#[x],argTypes:=#[T] }) (hT:sliceB P T E 1=true) (hx:ev l x=.ms i off n cap):Gt P o l L (Is (.sc (.int .i64 n)) L):=
 H7 fun a w β _ hf=>by
  have h:=hf.ev x
  rw [hx] at h
  obtain⟨b,hb,he,hn,hc⟩:=h.ms_inv
  exact⟨.int .i64 n,by simp [execOp,ho,resolve,invoke,builtin,Builtin.len_,underlying,(sliceB.out hT).1,he,goInt],.sc⟩
end ops

def Gc9 (p t:Nat) (rows:List (List Int)):Loc:=(List.range 6).map fun j=>(p+j,J4.spare t 1 (rows.getD j []).length (rows.getD j []).length)
def G3b (p:Nat) (rows:List (List Int)):List AV:=rows.mapIdx fun j s=>OW (p+j) 1 I64 s
theorem Ge3 (p:Nat) (rows:List (List Int)):(G3b p rows).length=rows.length:=by simp [G3b]
theorem Gd2 {p:Nat} {rows:List (List Int)} {j:Nat} {s:List Int} (h:rows[j]? = some s):(G3b p rows)[j]? = some (OW (p+j) 1 I64 s):=by simp [G3b,h]
theorem Ha7 (p t:Nat) (rows:List (List Int)):Gc9 p t rows=[(p,.spare t 1 (rows.getD 0 []).length (rows.getD 0 []).length),(p+1,.spare t 1 (rows.getD 1 []).length (rows.getD 1 []).length),(p+2,.spare t 1 (rows.getD 2 []).length (rows.getD 2 []).length),(p+3,.spare t 1 (rows.getD 3 []).length (rows.getD 3 []).length),(p+4,.spare t 1 (rows.getD 4 []).length (rows.getD 4 []).length),(p+5,.spare t 1 (rows.getD 5 []).length (rows.getD 5 []).length)]:=rfl
theorem H13 {p t:Nat} {rows:List (List Int)} {L:Loc} {j:Nat} (hj:j < 6):lk (Gc9 p t rows++L) (p+j)=some (.spare t 1 (rows.getD j []).length (rows.getD j []).length):=by
 have hj:j=0∨j=1∨j=2∨j=3∨j=4∨j=5:=by omega
 rw [Ha7]
 rcases hj with rfl | rfl | rfl | rfl | rfl | rfl <;> simp [Ga]
theorem H36 {p t:Nat} {rows:List (List Int)} {L:Loc} {i:Nat} (hi:i < p∨p+6≤i):lk (Gc9 p t rows++L) i=lk L i:=by
 rw [Ha7]
 simp only [List.cons_append,List.nil_append,Ga]
 rw [if_neg (by omega),if_neg (by omega),if_neg (by omega),if_neg (by omega),if_neg (by omega),if_neg (by omega)]
theorem Q72 {p t:Nat} {rows:List (List Int)} {L:Loc} {j:Nat} {s:List Int} (hj:j < rows.length) (h6:j < 6):G8b ((p+j,.spare t 1 s.length s.length)::(Gc9 p t rows++L)) (Gc9 p t (rows.set j s)++L):=fun id=>by
 rw [Ga]
 by_cases e:p+j=id
 ·subst e
  rw [if_pos rfl,H13 h6]
  have:(rows.set j s).getD j []=s:=by rw [List.getD_eq_getElem?_getD,List.getElem?_set_self hj]; rfl
  rw [this]
 ·rw [if_neg e]
  by_cases h:id < p∨p+6≤id
  ·rw [H36 h,H36 h]
  ·obtain⟨m,rfl⟩:∃ m,id=p+m:=⟨id - p,by omega⟩
   rw [H13 (by omega),H13 (by omega)]
   have:(rows.set j s).getD m []=rows.getD m []:=by rw [List.getD_eq_getElem?_getD,List.getD_eq_getElem?_getD,List.getElem?_set_ne (by omega)]
   rw [this]
theorem Qf9 {p:Nat} {rows:List (List Int)} {j:Nat} {s:List Int}:(G3b p rows).set j (OW (p+j) 1 I64 s)=G3b p (rows.set j s):=by
 apply List.ext_getElem?
 intro i
 simp only [G3b,List.getElem?_mapIdx,List.getElem?_set,List.length_mapIdx]
 by_cases e:j=i
 ·subst e
  by_cases h:j < rows.length <;> simp [h]
 ·simp [e]
theorem Q6.locEq' {N:Cfg} {w0 w:World} {β0 β:H2} {L0 L L':Loc} {a:Act} {l:Fr} (hs:Q6 N w0 β0 L0 a w β l L) (e:G8b L L'):Q6 N w0 β0 L0 a w β l L':=
 ⟨hs.sat.locEq e,hs.step.locEq e,⟨fun t=>(hs.frame.tmp t).locEq e⟩,hs.size,hs.base,hs.defers.sub fun id D h1 h2=>⟨id,by rw [e id]; exact h1,h2⟩⟩
theorem R4d {P:Program} {N:Cfg} {c:Code} {Q:Post} {l:Fr} {L L':Loc} (e:G8b L L') (hk:JC P N c Q l L'):JC P N c Q l L:=fun n w0 β0 L0 a w β hs=>hk n w0 β0 L0 a w β (hs.locEq' e)
theorem Q6.newSpare {N:Cfg} {w0 w:World} {β0 β:H2} {L0 L:Loc} {a:Act} {l:Fr} (hs:Q6 N w0 β0 L0 a w β l L) (id E k:Nat) (hid:lk L id=none):Q6 N w0 β0 L0 a w (upP β id none) l ((id,.spare E k 0 0)::L):=by
 have st:=G9a (w:=w) (β:=β) E k hid
 exact⟨H74 E k hs.sat hid,hs.step.trans st,hs.frame.step st,hs.size,hs.base,hs.defers.step st⟩
theorem R26 {w:World} {β:H2} {L:Loc} {i E:Nat} (hi:lk L i=some (.spare E 1 0 0)) (hb:β i=none):V w β L (.own i 0 1 []) (.slice none 0 0):=
 .own (.nil (Nat.zero_le _)) ⟨E,0,0,hi,Kc,fun _=>⟨rfl,by simp [Value.ownBlock,hb],[],⟨by simp,.inl ⟨rfl,rfl⟩⟩,fun j u hu=>by simp [flat] at hu⟩⟩
theorem Q10 (n j:Nat):(List.replicate n ([]:List Int)).getD j []=[]:=by
 rw [List.getD_eq_getElem?_getD,List.getElem?_replicate]; split <;> rfl
theorem Q6.rowBegin {N:Cfg} {w0 w:World} {β0 β:H2} {L0 L:Loc} {a:Act} {l:Fr} (hs:Q6 N w0 β0 L0 a w β l L) (i p T E n:Nat) (hi:lk L i=some (.box T (List.replicate n (.sc (.slice none 0 0))))) (hn:n≤6) (h8:i < p∨p+6≤i) (hp:∀ j,j < 6→lk L (p+j)=none) :
  ∃ β',Q6 N w0 β0 L0 a w β' l ((i,.box T (G3b p (List.replicate n [])))::(Gc9 p E (List.replicate n [])++L)):=by
 have h5:=hs.newSpare (p+5) E 1 (hp 5 (by decide))
 have h4:=h5.newSpare (p+4) E 1 (by rw [Ga,if_neg (by omega)]; exact hp 4 (by decide))
 have h3:=h4.newSpare (p+3) E 1 (by rw [Ga,if_neg (by omega),Ga,if_neg (by omega)]; exact hp 3 (by decide))
 have h2:=h3.newSpare (p+2) E 1 (by rw [Ga,if_neg (by omega),Ga,if_neg (by omega),Ga,if_neg (by omega)]; exact hp 2 (by decide))
 have h1:=h2.newSpare (p+1) E 1 (by rw [Ga,if_neg (by omega),Ga,if_neg (by omega),Ga,if_neg (by omega),Ga,if_neg (by omega)]; exact hp 1 (by decide))
 have h0:=h1.newSpare p E 1 (by rw [Ga,if_neg (by omega),Ga,if_neg (by omega),Ga,if_neg (by omega),Ga,if_neg (by omega),Ga,if_neg (by omega)]; exact hp 0 (by decide))
 have eL:((p,J4.spare E 1 0 0)::(p+1,.spare E 1 0 0)::(p+2,.spare E 1 0 0)::(p+3,.spare E 1 0 0)::(p+4,.spare E 1 0 0)::(p+5,.spare E 1 0 0)::L)=Gc9 p E (List.replicate n [])++L:=by
  rw [Ha7]
  simp only [Q10,List.length_nil]
  rfl
 rw [eL] at h0
 have h6:∀ j,j < 6→(upP (upP (upP (upP (upP (upP β (p+5) none) (p+4) none) (p+3) none) (p+2) none) (p+1) none) p none).at_ (p+j)=none:=fun j hj=>by
  have hj:j=0∨j=1∨j=2∨j=3∨j=4∨j=5:=by omega
  rcases hj with rfl | rfl | rfl | rfl | rfl | rfl <;> simp [upP]
 generalize (upP (upP (upP (upP (upP (upP β (p+5) none) (p+4) none) (p+3) none) (p+2) none) (p+1) none) p none)=β' at h0 h6
 refine⟨β',h0.redescribe (i:=i) (t:=T) (cs:=List.replicate n (.sc (.slice none 0 0))) (by rw [H36 h8]; exact hi) (by rw [List.length_replicate,Ge3,List.length_replicate]) fun vs q u v h7 a0 hu hv=>?_⟩
 have hq:q < n:=by
  have:=(Ey hu).1
  rwa [Ge3,List.length_replicate] at this
 have h9:=h7 q _ v (by rw [List.getElem?_replicate,if_pos hq]) hv
 rw [h9.inv_sc]
 rw [Gd2 (by rw [List.getElem?_replicate,if_pos hq])] at hu
 have hu:=K0 hu
 subst hu
 exact R26 (E:=E) (by rw [H13 (by omega),Q10]; rfl) (h6 q (by omega))
theorem Q30 {P:Program} {N:Cfg} {ops:Array Oper} {rest:List Oper} {Q:Post} {l:Fr} {L:Loc} (i p T E n:Nat) (hi:lk L i=some (.box T (List.replicate n (.sc (.slice none 0 0))))) (hn:n≤6) (h0:i < p∨p+6≤i) (hp:∀ j,j < 6→lk L (p+j)=none)
  (hk:JL P N ops rest Q l ((i,.box T (G3b p (List.replicate n [])))::(Gc9 p E (List.replicate n [])++L))):JL P N ops rest Q l L:=fun n w0 β0 L0 a w β hs=>by
 obtain⟨β',h⟩:=hs.rowBegin i p T E _ hi hn h0 hp
 exact hk n w0 β0 L0 a w β' h
theorem Jb2 (rows:List (List Int)):flat (rows.map (LS 1 I64))=rows.map (LS 1 I64):=by
 induction rows with
 | nil=>rfl
 | cons y r ih=>show LS 1 I64 y::flat (r.map (LS 1 I64))=_; rw [ih]; rfl
theorem Q6.rowFree {N:Cfg} {w0 w:World} {β0 β:H2} {L0 L L':Loc} {a:Act} {l l':Fr} (hs:Q6 N w0 β0 L0 a w β l L) {Y i p tY T:Nat} {rows:List (List Int)} {r:List AV} (hY:lk L Y=some (.box tY (.ms i 0 rows.length rows.length::r))) (hi:lk L i=some (.box T (G3b p rows)))
  (hf:Fits N.base l L l' L') (h6:lk L' Y=some (.box tY (.junk::r))) (h7:lk L' i=none):Q6 N w0 β0 L0 a w β l' ((Y,.box tY (LS 1 (LS 1 I64) rows::r))::L'):=by
 have h8:=hs.fits hf
 obtain⟨bY,g1,ys,g2,g3,g4⟩:=hs.sat.obj Y _ hY
 obtain⟨bi,k1,vs,k2,k3,k4⟩:=hs.sat.obj i _ hi
 refine h8.redescribeB (i:=Y) (t:=tY) (cs:=.junk::r) h6 rfl fun zs j u v hz h0 a3 hu hv=>?_
 obtain⟨b2,h1,h2⟩:=hz
 have:b2=bY:=by rw [g1] at h1; exact(K0 h1).symm
 subst this
 rw [g2] at h2
 have:ys=zs:=by simpa using h2
 subst this
 cases j with
 | succ j=>exact h0 (j+1) u v hu hv
 | zero=>
  have hu:LS 1 (LS 1 I64) rows=u:=K0 hu
  subst hu
  have h9:=g4 0 _ v rfl hv
  obtain⟨b3,h3,a0,_,h4⟩:=h9.ms_inv
  have:b3=bi:=by rw [k1] at h3; exact(K0 h3).symm
  subst this
  subst a0
  have stab:∀ j,J7 w β L' b3 j:=fun j=>⟨(Ek k2).1,fun hh=>hs.sat.apart i b3 j (by rw [hi]; rfl) k1 hh,fun id o ho hid=>by
   have h5:=hf.drop.some (id:=id) (by rw [ho]; rfl)
   have:=hs.sat.inj id i b3 h5 (by rw [hi]; rfl) hid k1
   subst this
   rw [h7] at ho; cases ho⟩
  have a4:vs.size=rows.length:=by rw [k3,Ge3]
  show V w β L' (.list 1 (rows.map (LS 1 I64))) (.slice (some ⟨b3,0,none⟩) rows.length rows.length)
  refine .data ?_
  have e0:rows.length=(rows.map (LS 1 I64)).length:=(Ko _).symm
  conv=>rhs; rw [e0]
  refine .list (fun k=>vs.getD k undef) (by simp) (by simpa using h4) (fun y hy=>by obtain⟨z,_,rfl⟩:=Kq.1 hy; rfl) (fun k hk=>⟨by rw [Nat.zero_add]; exact stab k,?_⟩) (fun k u hu=>?_)
  ·rw [Jb2,Ko] at hk
   have a1:k < vs.size:=by omega
   simp [World.cell?,k2,a1]
  ·rw [Jb2] at hu
   have hk:k < vs.size:=by
    have:=(Ey hu).1
    rw [Ko] at this; omega
   obtain⟨s,a2,rfl⟩:=Option.map_eq_some_iff.1 (by rw [Kg] at hu; exact hu)
   have hV:=k4 k _ vs[k] (Gd2 a2) (by simp [hk])
   have hc:=hV.conv hf.drop (u':=LS 1 I64 s) (.list rfl)
   have hD:=hc.toD rfl
   simpa [Array.getD_eq_getD_getElem?,hk] using hD
theorem Q9a {P:Program} {N:Cfg} {c:Code} {Q:Post} {l:Fr} {L:Loc} (l':Fr) (L':Loc) {Y i p tY T:Nat} {rows:List (List Int)} {r:List AV} (hY:lk L Y=some (.box tY (.ms i 0 rows.length rows.length::r))) (hi:lk L i=some (.box T (G3b p rows)))
  (hf:Fits N.base l L l' L') (h0:lk L' Y=some (.box tY (.junk::r))) (h1:lk L' i=none) (hk:JC P N c Q l' ((Y,.box tY (LS 1 (LS 1 I64) rows::r))::L')):JC P N c Q l L:=fun n w0 β0 L0 a w β hs=>hk n w0 β0 L0 a w β (hs.rowFree hY hi hf h0 h1)
set_option maxHeartbeats 1000000
set_option linter.unusedSimpArgs false

def Gb4 (H:Nat) (rows:List (List Int)) (v i:Int):Nat→Nat→List (List Int)
 | 0,_=>rows
 | f+1,k=>if (rows.getD ((v+(k:Int)).tmod (rows.length:Int)).toNat []).length < H then rows.set ((v+(k:Int)).tmod (rows.length:Int)).toNat (rows.getD ((v+(k:Int)).tmod (rows.length:Int)).toNat []++[i+1]) else Gb4 H rows v i f (k+1)
def H12 (H:Nat):List Int→Nat→List (List Int)→List (List Int)
 | [],_,rows=>rows
 | v::r,i,rows=>if i < 20 then H12 H r (i+1) (Gb4 H rows v (i:Int) rows.length 0) else rows
theorem Hf9 (H:Nat) (rows:List (List Int)) (v i:Int):∀ (f k:Nat),(Gb4 H rows v i f k).length=rows.length
 | 0,_=>rfl
 | f+1,k=>by
  rw [Gb4]
  split
  ·rw [List.length_set]
  ·exact Hf9 H rows v i f (k+1)
theorem Hf8 {H:Nat} {rows:List (List Int)} (h:∀ s∈rows,s.length≤H) (v i:Int):∀ (f k:Nat),∀ s∈Gb4 H rows v i f k,s.length≤H
 | 0,_,s,hs=>h s hs
 | f+1,k,s,hs=>by
  rw [Gb4] at hs
  split at hs
  ·rename_i h0
   rcases List.mem_or_eq_of_mem_set hs with hs | rfl
   ·exact h s hs
   ·rw [Kj,Kk]; omega
  ·exact Hf8 h v i f (k+1) s hs
def Qr (stacks height:Int) (l:List Int):Option Gs:=
 need (decide (0≤stacks∧stacks≤255∧0≤height∧height≤255)&&l.all (fun v=>decide (0≤v∧v≤255))) <| some ⟨H12 (1+(height.tmod 6).toNat) l 0 (List.replicate (1+(stacks.tmod 6).toNat) []),((1+(height.tmod 6).toNat:Nat):Int)⟩

namespace SpecMF
theorem G2b:R2 Try.prog 24 0 0=true:=by kernel_rfl
theorem Hb3:R2 Try.prog 24 1 1=true:=by kernel_rfl
theorem H48:Qp Try.prog 22=true:=by kernel_rfl
theorem scS:Qp Try.prog 25=true:=by kernel_rfl
theorem scI:Qp Try.prog 3=true:=by kernel_rfl
theorem scU:Qp Try.prog 5=true:=by kernel_rfl
theorem H2c:sliceB Try.prog 22 25 1=true:=by kernel_rfl
theorem slS:sliceB Try.prog 25 3 1=true:=by kernel_rfl
theorem slL:sliceB Try.prog 31 5 1=true:=by kernel_rfl
theorem elS:Qw Try.prog 25 1 24=true:=by kernel_rfl
theorem elI:Qw Try.prog 3 1 8=true:=by kernel_rfl
theorem szS:Rx Try.prog 25 1=true:=by kernel_rfl
theorem szY:Rx Try.prog 24 2=true:=by kernel_rfl
theorem Jc6:Qn Try.prog 24 2=true:=by kernel_rfl
theorem Rc0:Qn Try.prog 3 1=true:=by kernel_rfl
theorem H14:Gcc Try.prog 24 2=true:=by kernel_rfl
theorem plY:placesOf Try.prog 24=some [(0,1),(1,1)]:=by kernel_rfl
theorem J0a:(Try.prog.info? 24).bind (fun i=>i.zero.map Value.cells)=some [.slice none 0 0,.int .i64 0].toArray:=by kernel_rfl
theorem Y16:(Try.prog.info? 25).bind (fun i=>i.zero.map Value.cells)=some #[.slice none 0 0]:=by kernel_rfl
theorem mixed:Try.prog.follows .mixedOrders=true:=by kernel_rfl
theorem Rcd:H5d Try.prog 5 .u8=true:=by kernel_rfl
theorem Rce:H5d Try.prog 3 .i64=true:=by kernel_rfl
end SpecMF
open SpecMF
def Mof (N H:Nat) (res:List AV) (rows:List (List Int)):Loc:=(1600000001,.box 24 res)::(1600000002,.box 24 [.ms 1600000003 0 N N,I64 (H:Int)])::(1600000003,.box 25 (G3b 1600000010 rows))::(Gc9 1600000010 3 rows++[])
theorem R2e {N H:Nat} {res:List AV} {rows:List (List Int)} {j:Nat} (hj:j < 6):lk (Mof N H res rows) (1600000010+j)=some (.spare 3 1 (rows.getD j []).length (rows.getD j []).length):=by
 unfold Mof
 rw [Ga,if_neg (by omega),Ga,if_neg (by omega),Ga,if_neg (by omega),H13 hj]
theorem Ja8 {N H:Nat} {rows:List (List Int)} (h:rows.length≤6):∀ (j:Nat) u u',(G3b 1600000010 rows)[j]? = some u→(G3b 1600000010 rows)[j]? = some u'→Conv (fun i=>(lk (Mof N H [.junk,.junk] rows) i).isSome) u u':=fun j u u' hu h0=>by
 rw [hu] at h0; cases h0
 have hj:j < rows.length:=by
  have:=(Ey hu).1
  rwa [Ge3] at this
 rw [Gd2 (Ez hj)] at hu
 have hu:=K0 hu
 subst hu
 refine .same ?_
 have h1:(lk (Mof N H [.junk,.junk] rows) (1600000010+j)).isSome=true:=by rw [R2e (by omega)]; rfl
 exact h1
theorem H58 {N H:Nat} {rows:List (List Int)} (h:rows.length≤6):G8e (fun i=>(lk (Mof N H [.junk,.junk] rows) i).isSome) (Mof N H [.junk,.junk] rows) (Mof N H [.junk,.junk] rows):=
 ⟨⟨_,rfl,.boxEq rfl rfl⟩,⟨_,rfl,.boxEq rfl rfl⟩,⟨_,rfl,.box rfl (Ja8 h)⟩,⟨_,rfl,.same⟩,⟨_,rfl,.same⟩,⟨_,rfl,.same⟩,⟨_,rfl,.same⟩,⟨_,rfl,.same⟩,⟨_,rfl,.same⟩,trivial⟩
theorem R76 {N H:Nat} {res:List AV} {rows:List (List Int)} {j:Nat} {s:List Int} (hj:j < rows.length) (h6:j < 6):G8b ((1600000003,.box 25 (G3b 1600000010 (rows.set j s)))::(1600000010+j,.spare 3 1 s.length s.length)::Mof N H res rows) (Mof N H res (rows.set j s)):=fun id=>by
 have h0:=Q72 (p:=1600000010) (t:=3) (L:=[]) (s:=s) hj h6 id
 unfold Mof
 rw [Ga] at h0
 simp only [Ga]
 by_cases e3:1600000003=id
 ·subst e3; rw [if_pos rfl,if_neg (by omega),if_neg (by omega),if_pos rfl]
 ·rw [if_neg e3,if_neg e3,if_neg e3]
  by_cases e1:1600000001=id
  ·subst e1; rw [if_neg (by omega),if_pos rfl,if_pos rfl]
  ·rw [if_neg e1,if_neg e1]
   by_cases e2:1600000002=id
   ·subst e2; rw [if_neg (by omega),if_pos rfl,if_pos rfl]
   ·rw [if_neg e2,if_neg e2]; exact h0
theorem H16 (stacks height:Int) (l:List Int) (r:Gs) (h:Qr stacks height l=some r):Pure Try.prog 15 [U8 stacks,U8 height,LS 1 U8 l] (·=.agg [LS 1 (LS 1 I64) r.Stacks,I64 r.Height]):=by
 unfold Qr at h
 obtain⟨a3,h⟩:=J1 h
 rw [Km,Kn,List.all_eq_true] at a3
 obtain⟨⟨b6,d1,b7,d2⟩,b8⟩:=a3
 have hl:∀ v∈l,0≤v∧v≤255:=fun v hv=>Eu (b8 v hv)
 obtain⟨N,hN⟩:∃ N,N=1+(stacks.tmod 6).toNat:=⟨_,rfl⟩
 obtain⟨H,hH⟩:∃ H,H=1+(height.tmod 6).toNat:=⟨_,rfl⟩
 have h6:stacks.tmod 6=((N - 1:Nat):Int)∧1≤N∧N≤6:=by
  have e:stacks.tmod 6=stacks % 6:=Int.tmod_eq_emod_of_nonneg b6
  rw [e] at hN ⊢; omega
 have h7:height.tmod 6=((H - 1:Nat):Int)∧1≤H∧H≤6:=by
  have e:height.tmod 6=height % 6:=Int.tmod_eq_emod_of_nonneg b7
  rw [e] at hH ⊢; omega
 obtain⟨h6,d3,a4⟩:=h6
 obtain⟨h7,d4,d5⟩:=h7
 rw [← hN,← hH] at h
 have h:=K0 h
 subst h
 clear hN hH
 refine H9 [.cell 6 24] Try.func15 rfl rfl ?_
 refine G3 (fun K1 b9=>?_)
 refine G1 ?_
 refine G0 (u:=.ptr 1600000001 0) (Ja 1600000001 2 Jc6 rfl rfl) ?_ rfl rfl rfl
 refine G6 ?_
 refine b9 _ _ ?_
 refine G3 (fun K2 c0=>?_)
 refine G1 ?_
 refine G0 (u:=U8 stacks) (G2 rfl rfl) ?_ rfl rfl rfl
 refine G0 (u:=U8 ((N - 1:Nat):Int)) (Qd4 (by decide) h6 rfl rfl rfl) ?_ rfl rfl rfl
 refine G0 (u:=I64 ((N - 1:Nat):Int)) (H6d Rce Rcd (G05 (by omega) (by omega)) rfl rfl) ?_ rfl rfl rfl
 refine G0 (u:=I64 (N:Int)) (Hz (by rw [show (1:Int)+((N - 1:Nat):Int)=(N:Int) by omega]; exact G05 (by omega) (by omega)) rfl rfl rfl) ?_ rfl rfl rfl
 refine G0 (u:=.ms 1600000003 0 N N) (R06 1600000003 rfl rfl rfl rfl H2c elS Y16 rfl rfl (by simp only [maxLen]; omega)) ?_ rfl rfl rfl
 refine Q30 1600000003 1600000010 25 3 N rfl a4 (by omega) (fun j hj=>by
  have hj:j=0∨j=1∨j=2∨j=3∨j=4∨j=5:=by omega
  rcases hj with rfl | rfl | rfl | rfl | rfl | rfl <;> rfl) ?_
 refine G0 (u:=U8 height) (G2 rfl rfl) ?_ rfl rfl rfl
 refine G0 (u:=U8 ((H - 1:Nat):Int)) (Qd4 (by decide) h7 rfl rfl rfl) ?_ rfl rfl rfl
 refine G0 (u:=I64 ((H - 1:Nat):Int)) (H6d Rce Rcd (G05 (by omega) (by omega)) rfl rfl) ?_ rfl rfl rfl
 refine G0 (u:=I64 (H:Int)) (Hz (by rw [show (1:Int)+((H - 1:Nat):Int)=(H:Int) by omega]; exact G05 (by omega) (by omega)) rfl rfl rfl) ?_ rfl rfl rfl
 refine G0 (u:=.agg [.ms 1600000003 0 N N,I64 (H:Int)]) (Jt (cs:=[.ms 1600000003 0 N N,I64 (H:Int)]) [(0,1),(1,1)] [.sc (.slice none 0 0),I64 0] [.slice none 0 0,.int .i64 0] plY J0a ⟨.inl rfl,.inl rfl,trivial⟩ rfl rfl) ?_ rfl rfl rfl
 refine G0 (u:=.ptr 1600000002 0) (Ja 1600000002 2 Jc6 rfl rfl) ?_ rfl rfl rfl
 refine J9 (u:=.junk) (Ht (u:=.agg [.ms 1600000003 0 N N,I64 (H:Int)]) (ds:=[.ms 1600000003 0 N N,I64 (H:Int)]) szY rfl rfl rfl rfl rfl rfl rfl rfl) ?_ rfl rfl
 refine G6 ?_
 refine c0 _ _ ?_
 refine G3 (fun K3 c1=>?_)
 refine G3 (fun K4 c2=>?_)
 refine G1 ?_
 refine G0 (u:=I64 0) (G4 rfl rfl) ?_ rfl rfl rfl
 refine G6 ?_
 refine c2 _ _ ?_
 refine Gk ?_
 refine H87 (X:=Nat×List (List Int)) (fun q=>q.1≤l.length∧q.2.length=N∧(∀ s∈q.2,s.length≤H)∧H12 H (l.drop q.1) q.1 q.2=H12 H l 0 (List.replicate N []))
  (fun q=>[(2,LS 1 U8 l),(6,.ptr 1600000001 0),(7,.ptr 1600000002 0),(8,I64 (q.1:Int))]) (fun q=>Mof N H [.junk,.junk] q.2) (fun q=>l.length - q.1) (0,List.replicate N [])
  ⟨Nat.zero_le _,List.length_replicate,fun s hs=>by rw [List.eq_of_mem_replicate hs]; exact Nat.zero_le _,rfl⟩
  ⟨⟨.same rfl,.same rfl,.same rfl,.same rfl,trivial⟩,⟨⟨_,rfl,.boxEq rfl rfl⟩,⟨_,rfl,.boxEq rfl rfl⟩,⟨_,rfl,.box rfl (Ja8 (by rw [List.length_replicate]; exact a4))⟩,⟨_,rfl,.same⟩,⟨_,rfl,.same⟩,⟨_,rfl,.same⟩,⟨_,rfl,.same⟩,⟨_,rfl,.same⟩,⟨_,rfl,.same⟩,trivial⟩,rfl⟩ ?_
 rintro⟨i,rows⟩ ⟨hi,h3,h5,hR⟩ K5 e5
 dsimp only at hi h3 h5 hR e5 ⊢
 refine G3 (fun K6 c3=>?_)
 refine G3 (fun K7 c4=>?_)
 refine G1 ?_
 refine G0 (u:=I64 (i:Int)) (G2 rfl rfl) ?_ rfl rfl rfl
 refine G0 (u:=LS 1 U8 l) (G2 rfl rfl) ?_ rfl rfl rfl
 refine H6 (f:=U8) (xs:=l) slL rfl rfl (fun hm=>?_) rfl rfl rfl
 have hm:l.length≤9223372036854775807:=by simp only [maxLen] at hm; omega
 refine G0 (u:=BL (decide ((i:Int) < (l.length:Int)))) (J0 rfl rfl rfl) ?_ rfl rfl rfl
 refine G0 (u:=BL (decide ((i:Int) < (l.length:Int)))) (G2 rfl rfl) ?_ rfl rfl rfl
 refine Gc (u:=I64 (i:Int)) [] rfl rfl rfl .sct trivial (fun hc=>G2 rfl rfl) ?_ rfl rfl rfl
 refine Gc (u:=BL (decide ((i:Int) < 20))) [(26,I64 (i:Int))] rfl rfl rfl .sct ⟨.all id,trivial⟩ (fun hc=>J0 rfl rfl rfl) ?_ rfl rfl rfl
 refine G0 (u:=BL (decide ((i:Int) < (l.length:Int))&&decide ((i:Int) < 20))) (R9 rfl rfl rfl rfl) ?_ rfl rfl rfl
 refine G6 ?_
 refine c4 _ _ ?_
 refine Gj rfl (fun hb=>?_) (fun hb=>?_)
 ·rw [Km,Kn,Kn] at hb
  obtain⟨h4,h8⟩:=hb
  have h4:i < l.length:=by omega
  have h8:i < 20:=by omega
  obtain⟨v,hv⟩:∃ v,l[i]? = some v:=⟨_,Ez h4⟩
  have d6:=hl v (Ka hv)
  have a1:l.drop i=v::l.drop (i+1):=by
   rw [List.drop_eq_getElem_cons h4]; congr 1
   rw [Ez h4] at hv; exact K0 hv
  rw [a1,H12,if_pos h8,h3] at hR
  refine Gp ?_
  refine c3 _ _ ?_
  refine Yy (X:=List (List Int)) (fun rows'=>rows'=Gb4 H rows v (i:Int) N 0) (fun _=>[(2,LS 1 U8 l),(6,.ptr 1600000001 0),(7,.ptr 1600000002 0),(8,I64 (i:Int))]) (fun rows'=>Mof N H [.junk,.junk] rows') (fun K8 e8=>?_) ?_
  ·refine Gk ?_
   refine G3 (fun K9 c5=>?_)
   refine G1 ?_
   refine G0 (u:=.ptr 1600000002 0) (Hh G2b rfl rfl) ?_ rfl rfl rfl
   refine G0 (u:=.ms 1600000003 0 N N) (Hk H48 rfl rfl rfl rfl) ?_ rfl rfl rfl
   refine G0 (u:=I64 (N:Int)) (Qd6 rfl H2c rfl) ?_ rfl rfl rfl
   refine G0 (u:=I64 0) (G2 rfl rfl) ?_ rfl rfl rfl
   refine G6 ?_
   refine c5 _ _ ?_
   refine Gk ?_
   refine H87 (X:=Nat) (fun k=>k≤N∧Gb4 H rows v (i:Int) (N - k) k=Gb4 H rows v (i:Int) N 0)
    (fun k=>[(2,LS 1 U8 l),(6,.ptr 1600000001 0),(7,.ptr 1600000002 0),(8,I64 (i:Int)),(33,I64 (N:Int)),(34,I64 (k:Int))]) (fun _=>Mof N H [.junk,.junk] rows) (fun k=>N - k) 0
    ⟨Nat.zero_le _,rfl⟩ ⟨⟨.same rfl,.same rfl,.same rfl,.same rfl,.same rfl,.same rfl,trivial⟩,H58 (by omega),rfl⟩ ?_
   rintro k ⟨hk,h0⟩ K10 e10
   dsimp only at hk h0 e10 ⊢
   refine G3 (fun K11 a7=>?_)
   refine G1 ?_
   refine G0 (u:=BL (decide ((k:Int) < (N:Int)))) (J0 rfl rfl rfl) ?_ rfl rfl rfl
   refine G6 ?_
   refine a7 _ _ ?_
   refine G3 (fun K12 a8=>?_)
   refine Gj rfl (fun hb=>?_) (fun hb=>?_)
   ·have c6:k < N:=by have:=Eu hb; omega
    refine Gp ?_
    refine a8 _ _ ?_
    obtain⟨m,h9⟩:∃ m:Nat,(v+(k:Int)).tmod (N:Int)=(m:Int):=by
     have e:(v+(k:Int)).tmod (N:Int)=(v+(k:Int)) % (N:Int):=Int.tmod_eq_emod_of_nonneg (by omega)
     rw [e]
     exact⟨((v+(k:Int)) % (N:Int)).toNat,by have:=Int.emod_nonneg (v+(k:Int)) (show (N:Int)≠0 by omega); omega⟩
    have a0:m < N:=by
     have e:(v+(k:Int)).tmod (N:Int)=(v+(k:Int)) % (N:Int):=Int.tmod_eq_emod_of_nonneg (by omega)
     rw [e] at h9
     have:=Int.emod_lt_of_pos (v+(k:Int)) (show (0:Int) < (N:Int) by omega)
     omega
    have a5:m < rows.length:=by omega
    obtain⟨s,hs⟩:∃ s,rows[m]? = some s:=⟨_,Ez a5⟩
    have d7:=h5 s (Ka hs)
    have a6:rows.getD m []=s:=by rw [List.getD_eq_getElem?_getD,hs]; rfl
    have a2:Gb4 H rows v (i:Int) (N - k) k=if s.length < H then rows.set m (s++[(i:Int)+1]) else Gb4 H rows v (i:Int) (N - (k+1)) (k+1):=by
     rw [show N - k=(N - (k+1))+1 by omega,Gb4,h3,h9,show ((m:Int)).toNat=m by omega,a6]
    rw [a2] at h0
    refine G3 (fun K13 a9=>?_)
    refine Gk ?_
    refine G3 (fun K14 b0=>?_)
    refine G1 ?_
    refine G0 (u:=I64 (k:Int)) (G2 rfl rfl) ?_ rfl rfl rfl
    refine G0 (u:=I64 (k:Int)) (G4 rfl rfl) ?_ rfl rfl rfl
    refine G6 ?_
    refine b0 _ _ ?_
    refine G3 (fun K15 b1=>?_)
    refine Jh [] [0,0,0,0,0,0,0,0,0,0,0,0] [0,0,0,0,0,0,0,0,0,0,0,0] [Mof N H [.junk,.junk] rows] mixed (by kernel_rfl) rfl rfl ?_
    refine Gd (u:=LS 1 U8 l) rfl rfl ⟨Gb (G2 rfl rfl) rfl,trivial⟩ ?_ rfl
    refine Gd (u:=I64 (i:Int)) rfl rfl ⟨Gb (G2 rfl rfl) rfl,trivial⟩ ?_ rfl
    refine Gd (u:=.dptr [U8 v]) rfl rfl ⟨Gb (H1 (f:=U8) (xs:=l) (y:=v) rfl rfl rfl slL hv rfl) rfl,trivial⟩ ?_ rfl
    refine Gd (u:=U8 v) rfl rfl ⟨Gb (Gm scU rfl rfl rfl) rfl,trivial⟩ ?_ rfl
    refine Gd (u:=I64 v) rfl rfl ⟨Gb (H6d Rce Rcd (G05 (by omega) (by omega)) rfl rfl) rfl,trivial⟩ ?_ rfl
    refine Gd (u:=I64 (k:Int)) rfl rfl ⟨Gb (G2 rfl rfl) rfl,trivial⟩ ?_ rfl
    refine Gd (u:=I64 (v+(k:Int))) rfl rfl ⟨Gb (Hz (G05 (by omega) (by omega)) rfl rfl rfl) rfl,trivial⟩ ?_ rfl
    refine Gd (u:=.ptr 1600000002 0) rfl rfl ⟨Gb (Hh G2b rfl rfl) rfl,trivial⟩ ?_ rfl
    refine Gd (u:=.ms 1600000003 0 N N) rfl rfl ⟨Gb (Hk H48 rfl rfl rfl rfl) rfl,trivial⟩ ?_ rfl
    refine Gd (u:=I64 (N:Int)) rfl rfl ⟨Gb (Qd6 rfl H2c rfl) rfl,trivial⟩ ?_ rfl
    refine Gd (u:=I64 (m:Int)) rfl rfl ⟨Gb (Qd4 (by omega) h9 rfl rfl rfl) rfl,trivial⟩ ?_ rfl
    refine Gd (u:=I64 (m:Int)) rfl rfl ⟨Gb (G4 rfl rfl) rfl,trivial⟩ ?_ rfl
    refine Rc ?_
    refine b1 _ _ ?_
    refine G3 (fun K16 b2=>?_)
    refine Jh [] [0,0,0,0,0,0,0,0,0] [0,0,0,0,0,0,0,0,0] [Mof N H [.junk,.junk] rows] mixed (by kernel_rfl) rfl rfl ?_
    refine Gd (u:=.ptr 1600000002 0) rfl rfl ⟨Gb (Hh G2b rfl rfl) rfl,trivial⟩ ?_ rfl
    refine Gd (u:=.ms 1600000003 0 N N) rfl rfl ⟨Gb (Hk H48 rfl rfl rfl rfl) rfl,trivial⟩ ?_ rfl
    refine Gd (u:=I64 (m:Int)) rfl rfl ⟨Gb (G2 rfl rfl) rfl,trivial⟩ ?_ rfl
    refine Gd (u:=.ptr 1600000003 (0+m)) rfl rfl ⟨Gb (Je8 rfl rfl rfl rfl H2c rfl a0) rfl,trivial⟩ ?_ rfl
    refine Gd (u:=OW (1600000010+m) 1 I64 s) rfl rfl ⟨Gb (J88 scS rfl rfl rfl (by rw [Nat.zero_add]; exact Gd2 hs)) rfl,trivial⟩ ?_ rfl
    refine Gd (u:=I64 (s.length:Int)) rfl rfl ⟨Gb (Jq (f:=I64) (xs:=s) slS rfl rfl) rfl,trivial⟩ ?_ rfl
    refine Gd (u:=.ptr 1600000002 1) rfl rfl ⟨Gb (Hh Hb3 rfl rfl) rfl,trivial⟩ ?_ rfl
    refine Gd (u:=I64 (H:Int)) rfl rfl ⟨Gb (Hk scI rfl rfl rfl rfl) rfl,trivial⟩ ?_ rfl
    refine Gd (u:=BL (decide ((s.length:Int) < (H:Int)))) rfl rfl ⟨Gb (J0 rfl rfl rfl) rfl,trivial⟩ ?_ rfl
    refine Rc ?_
    refine b2 _ _ ?_
    refine Gj rfl (fun hb=>?_) (fun hb=>?_)
    ·have c7:s.length < H:=by have:=Eu hb; omega
     rw [if_pos c7] at h0
     refine G3 (fun K17 b3=>?_)
     have k2:lk ((1600000010+m,.spare 3 1 (s++[(i:Int)+1]).length (s++[(i:Int)+1]).length)::Mof N H [.junk,.junk] rows) 1600000002=some (.box 24 [.ms 1600000003 0 N N,I64 (H:Int)]):=by rw [Ga,if_neg (by omega)]; rfl
     have k3:lk ((1600000010+m,.spare 3 1 (s++[(i:Int)+1]).length (s++[(i:Int)+1]).length)::Mof N H [.junk,.junk] rows) 1600000003=some (.box 25 (G3b 1600000010 rows)):=by rw [Ga,if_neg (by omega)]; rfl
     have ks:lk (Mof N H [.junk,.junk] rows) (1600000010+m)=some (.spare 3 1 s.length s.length):=by rw [R2e (by omega),a6]
     refine Jh [11,13] [0,0,0,0,0,0,0,0,0,0,0,0,1,0] [1,1,1,0,0,0,0,0,0,0,0,0,1,0] [Mof N H [.junk,.junk] rows,(1600000010+m,.spare 3 1 (s++[(i:Int)+1]).length (s++[(i:Int)+1]).length)::Mof N H [.junk,.junk] rows,(1600000003,.box 25 (G3b 1600000010 (rows.set m (s++[(i:Int)+1]))))::(1600000010+m,.spare 3 1 (s++[(i:Int)+1]).length (s++[(i:Int)+1]).length)::Mof N H [.junk,.junk] rows] mixed (by kernel_rfl) rfl rfl ?_
     refine Gd (u:=.ptr 1600000002 0) rfl rfl ⟨Gb (Hh G2b rfl rfl) rfl,Gb (Hh G2b rfl rfl) rfl,trivial⟩ ?_ rfl
     refine Gd (u:=.ms 1600000003 0 N N) rfl rfl ⟨Gb (Hk H48 rfl rfl rfl rfl) rfl,Gb (Hk H48 rfl rfl k2 rfl) rfl,trivial⟩ ?_ rfl
     refine Gd (u:=I64 (m:Int)) rfl rfl ⟨Gb (G2 rfl rfl) rfl,Gb (G2 rfl rfl) rfl,trivial⟩ ?_ rfl
     refine Gd (u:=.ptr 1600000002 0) rfl rfl ⟨Gb (Hh G2b rfl rfl) rfl,trivial⟩ ?_ rfl
     refine Gd (u:=.ms 1600000003 0 N N) rfl rfl ⟨Gb (Hk H48 rfl rfl rfl rfl) rfl,trivial⟩ ?_ rfl
     refine Gd (u:=I64 (m:Int)) rfl rfl ⟨Gb (G2 rfl rfl) rfl,trivial⟩ ?_ rfl
     refine Gd (u:=.ptr 1600000003 (0+m)) rfl rfl ⟨Gb (Je8 rfl rfl rfl rfl H2c rfl a0) rfl,trivial⟩ ?_ rfl
     refine Gd (u:=OW (1600000010+m) 1 I64 s) rfl rfl ⟨Gb (J88 scS rfl rfl rfl (by rw [Nat.zero_add]; exact Gd2 hs)) rfl,trivial⟩ ?_ rfl
     refine Gd (u:=I64 (i:Int)) rfl rfl ⟨Gb (G2 rfl rfl) rfl,trivial⟩ ?_ rfl
     refine Gd (u:=I64 ((i:Int)+1)) rfl rfl ⟨Gb (Hz (G05 (by omega) (by omega)) rfl rfl rfl) rfl,trivial⟩ ?_ rfl
     refine Gd (u:=LS 1 I64 [(i:Int)+1]) rfl rfl ⟨Gb (Hb (xs:=[I64 ((i:Int)+1)]) rfl ⟨rfl,rfl,trivial⟩ slS Rc0 rfl rfl rfl rfl) rfl,trivial⟩ ?_ rfl
     refine D_w (u:=OW (1600000010+m) 1 I64 (s++[(i:Int)+1])) rfl rfl rfl rfl (Gb (Yp (f:=I64) (xs:=s) (ys:=[(i:Int)+1]) rfl rfl ks rfl slS elI (Ew ⟨by simp only [Kk]; omega,by simp only [Kk,maxLen]; omega⟩) (fun _=>rfl) (.inl rfl) rfl) rfl) ?_ rfl
     refine Gd (u:=.ptr 1600000003 (0+m)) rfl rfl ⟨Gb (Je8 rfl rfl rfl k3 H2c rfl a0) rfl,trivial⟩ ?_ rfl
     refine H1d (u:=.junk) rfl rfl rfl rfl (Gb (H88 szS rfl rfl rfl k3 rfl rfl (by rw [Ge3]; omega) (by rw [Nat.zero_add]; exact Qf9)) rfl) ?_
     refine Rc ?_
     refine b3 _ _ ?_
     refine R4d (R76 (N:=N) (H:=H) (res:=[.junk,.junk]) (rows:=rows) (j:=m) (s:=s++[(i:Int)+1]) a5 (by omega)) ?_
     refine Hf ?_
     exact e8 _ _ (rows.set m (s++[(i:Int)+1])) h0 ⟨⟨.same rfl,.same rfl,.same rfl,.same rfl,trivial⟩,H58 (by rw [List.length_set]; omega),rfl⟩
    ·have c8:¬ s.length < H:=by have:=Ev hb; omega
     rw [if_neg c8] at h0
     refine Gp ?_
     refine a9 _ _ ?_
     refine G1 ?_
     refine G0 (u:=I64 ((k+1:Nat):Int)) (Hz (by rw [show ((k:Int)+1)=((k+1:Nat):Int) by omega]; exact G05 (by omega) (by omega)) rfl rfl rfl) ?_ rfl rfl rfl
     refine G0 (u:=I64 ((k+1:Nat):Int)) (G2 rfl rfl) ?_ rfl rfl rfl
     refine G6 ?_
     exact e10 _ _ (k+1) ⟨c6,h0⟩ (by show N - (k+1) < N - k; omega) ⟨⟨.same rfl,.same rfl,.same rfl,.same rfl,.same rfl,.same rfl,trivial⟩,H58 (by omega),rfl⟩
   ·have c9:k=N:=by have:=Ev hb; omega
    refine Hf ?_
    refine e8 _ _ rows ?_ ⟨⟨.same rfl,.same rfl,.same rfl,.same rfl,trivial⟩,H58 (by omega),rfl⟩
    rw [← h0,c9,Nat.sub_self]; rfl
  ·intro rows' h2
   have d0:rows'.length=N:=by rw [h2,Hf9]; exact h3
   refine G1 ?_
   refine G0 (u:=I64 (i:Int)) (G2 rfl rfl) ?_ rfl rfl rfl
   refine G0 (u:=I64 ((i+1:Nat):Int)) (Hz (by rw [show ((i:Int)+1)=((i+1:Nat):Int) by omega]; exact G05 (by omega) (by omega)) rfl rfl rfl) ?_ rfl rfl rfl
   refine G0 (u:=I64 ((i+1:Nat):Int)) (G4 rfl rfl) ?_ rfl rfl rfl
   refine G6 ?_
   exact e5 _ _ (i+1,rows') ⟨h4,d0,by rw [h2]; exact Hf8 h5 v _ N 0,by rw [h2]; exact hR⟩ (by show l.length - (i+1) < l.length - i; omega) ⟨⟨.same rfl,.same rfl,.same rfl,.same rfl,trivial⟩,H58 (by show rows'.length≤6; omega),rfl⟩
 ·have b4:H12 H (l.drop i) i rows=rows:=by
   simp only [Bool.and_eq_false_iff,decide_eq_false_iff_not] at hb
   rcases Er i l.length with h1 | h1
   ·rw [List.drop_eq_getElem_cons h1,H12,if_neg (by omega)]
   ·rw [List.drop_eq_nil_of_le h1]; rfl
  rw [b4] at hR
  refine Hf ?_
  refine c1 _ _ ?_
  rw [← hR]
  refine G3 (fun K20 b5=>?_)
  refine G1 ?_
  refine G0 (u:=.agg [.ms 1600000003 0 N N,I64 (H:Int)]) (Jk H14 rfl rfl rfl rfl) ?_ rfl rfl rfl
  refine J9 (u:=.junk) (Ht (u:=.agg [.ms 1600000003 0 N N,I64 (H:Int)]) (ds:=[.ms 1600000003 0 N N,I64 (H:Int)]) szY rfl rfl rfl rfl rfl rfl rfl rfl) ?_ rfl rfl
  refine G6 ?_
  refine b5 _ _ ?_
  subst h3
  refine Q9a (Y:=1600000001) (i:=1600000003) (p:=1600000010) (rows:=rows) [(6,.ptr 1600000001 0)] [(1600000001,.box 24 [.junk,I64 (H:Int)])] rfl rfl ⟨⟨.same rfl,trivial⟩,⟨⟨_,rfl,.boxL rfl ⟨.junk,.same rfl,trivial⟩⟩,trivial⟩,rfl⟩ rfl rfl ?_
  refine H0 ?_
  exact⟨[.agg [LS 1 (LS 1 I64) rows,I64 (H:Int)]],[],trivial,rfl,⟨⟨_,⟨_,_,_,_,rfl,rfl,rfl,.inl ⟨H14,rfl⟩⟩,.conv (.same rfl)⟩,trivial⟩,rfl,rfl⟩
def G76:=PLift.up H16
end Go.Proofs.Ytokjlondbjdlfaa
