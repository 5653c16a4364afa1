/-
 Maps from which entries are deleted: What slices.Insert and slices.Delete do to a slice of the ca Slices that are lent aQ local objects,with what lies behind An object that bears maps:
-/
import Derived.Test.YtokjlondbjdlfaaMapE
import Derived.Lib.Overlaps
import Derived.Lib.AppendZerosOnto
namespace Go.Proofs.Ytokjlondbjdlfaa
open Go.RowKit

section ops
variable {P:Program} {o:Oper} {l:Fr} {L:Loc} {u:AV} {κ ν:Type} [DecidableEq κ] {kv:κ→Value} {av:ν→AV}
end ops

theorem G76 {P:Program} {T E k:Nat} (hT:sliceB P T E k=true) (a:Option Addr) (len cap m n:Nat) (lo hi:Option Value) (w:World) (h0:m≤n) (hn:n≤cap)
  (h4:(lo=none∧m=0)∨∃ kd,lo=some (.int kd m)) (h5:(hi=none∧n=len)∨∃ kd,hi=some (.int kd n)) :
  (Instr.sliceAt T (.slice a len cap) lo hi none).run P w=.ok (.slice (if cap=m then a else a.map (·.add (m*k))) (n - m) (cap - m)) w:=by
 obtain⟨h1,h2⟩:=sliceB.out hT
 have h3:=J7 h2 w
 have hb:∀ (kd:IntKind) (i:Nat) (y:Nat) (c:BoundsCode),i≤y→(Instr.sliceBound (.int kd (i:Int)) y c).run P w=.ok i w:=fun kd i y c hi=>by
  have:(0:Int)≤i∧(i:Int)≤y:=⟨by omega,by omega⟩
  simp [Instr.sliceBound,asIntOf,this]
 have hs:(Instr.sliceBounds true len cap lo hi none).run P w=.ok (m,n,cap) w:=by
  rcases h4 with ⟨rfl,rfl⟩ | ⟨kd,rfl⟩ <;> rcases h5 with ⟨rfl,rfl⟩ | ⟨kd',rfl⟩
  ·simp [Instr.sliceBounds]
  ·simp [Instr.sliceBounds,hb _ n cap _ (by omega)]
  ·simp [Instr.sliceBounds,hb _ m n _ h0]
  ·simp [Instr.sliceBounds,hb _ m n _ h0,hb _ n cap _ (by omega)]
 simp [Instr.sliceAt,Instr.slice,run_underlying h1,hs,h3]
theorem J39.one {w:World} {ob:Option Nat} {t k n c:Nat} {v:Value} (h:J39 w ob t k n c v):v.oneCell'=true:=by
 rcases h with ⟨rfl,_⟩ | ⟨b,rfl,_⟩ <;> rfl

section state
variable {N:Cfg} {l:Fr} {L:Loc} {w0 w:World} {β0 β:Gw} {L0:Loc} {a:Act}
theorem Jj.over {s:Nat} {u:AV} (h:Jj a w β L l) (hv:V w β L u (a.tmps.getD s undef)):Jj a w β L ((s,u)::l):=⟨fun t=>by
 rw [look]
 cases hb:Nat.beq s t with
 | true=>have:=Ek hb; subst this; exact hv
 | false=>exact h.tmp t⟩
theorem Jx.vcap (hs:Jx N w0 β0 L0 a w β l L) {s i ver k n t:Nat} {xs:List AV} (h1:look l s=.vec i ver k n) (hi:lk L i=some (.vec t k ver xs)):∃ c,xs.length≤c∧c≤maxLen∧Jx N w0 β0 L0 a w β ((s,.vcap i ver k xs.length c)::l) L:=by
 have hv:=hs.frame.tmp s
 rw [h1] at hv
 obtain⟨rfl,_,h⟩:=Zx hs.sat hi hv
 suffices h0:∃ c,xs.length≤c∧c≤maxLen∧J39 w (β.at_ i) t k xs.length c (a.tmps.getD s undef) from by
  obtain⟨c,c1,c2,c3⟩:=h0
  exact⟨c,c1,c2,hs.sat,hs.step,hs.frame.over (.vcap ⟨t,ver,xs,hi,K0,fun _=>c3⟩ c3.one),hs.size,hs.base,hs.defers⟩
 rcases h with ⟨e1,rfl,e3⟩ | ⟨b,cap,vs,e1,e2,e3,e4,e5,e6,_⟩
 ·exact⟨0,K0,Nat.zero_le _,.inl ⟨e1,rfl,rfl,e3⟩⟩
 ·exact⟨cap,e3,e4,.inr ⟨b,e1,e2,e3,e4,by simp [World.shape?,e5,e6]⟩⟩

theorem J1f {k:Nat} (xs:List AV) (q:Nat) {j:Nat} {u:AV} (hj:(flat xs).length≤j) (hu:(flat (xs++List.replicate q (.agg (List.replicate k .junk))))[j]? = some u):u=.junk:=by
 rw [Zr,Ka hj] at hu
 have key:∀ (q:Nat) (j:Nat),(flat (List.replicate q (AV.agg (List.replicate k .junk))))[j]? = some u→u=.junk:=by
  intro q
  induction q with
  | zero=>intro j h; simp [flat] at h
  | succ q ih=>
   intro j h
   rw [List.replicate_succ,flat] at h
   rcases En j (AV.cells (.agg (List.replicate k .junk))).length with hj | hj
   ·rw [Kb hj] at h
    exact List.eq_of_mem_replicate (Ey h)
   ·rw [Ka hj] at h
    exact ih _ h
 exact key q _ hu
end state

section ghosts
variable {P:Program} {N:Cfg} {Q:Post} {l:Fr} {L:Loc} {ops:Array Oper} {rest:List Oper} {c:Code}
end ghosts

section ops
variable {P:Program} {N:Cfg} {o:Oper} {l:Fr} {L:Loc} {u:AV}
/-! ### Typed elements -/
end ops
set_option linter.unusedVariables false

section vals
variable {w:World} {β:Gw} {L:Loc}
theorem V.vsl_lst {α:Type} {f:α→AV} {i ver k t:Nat} {e:Ln α} {v:Value} (h5:Sat w β L) (hi:lk L i=some (.vec t k ver ((e.1++e.2).map f))) (h6:Nat.blt 0 k=true) (hv:V w β L (.vsl i ver k 0 e.1.length) v):D w (fun b _=>b < w.heap.size) (LT k f e) v:=by
 have h8:0 < k:=by simpa [Nat.blt_eq] using h6
 obtain⟨_,hn,_⟩:=hv.inv_vsl hi
 obtain⟨o1,o2⟩:=h5.obj i _ hi
 rcases hv.inv_vsl0 hi with ⟨rfl,e2,e3⟩ | ⟨b,cap,rfl,e2,e3,e4,e5⟩
 ·have h9:(e.1++e.2).map f=[]:=by
   rcases o2 with ⟨_,o2⟩ | ⟨b',o2,_⟩
   ·exact o2
   ·rw [show β i=β.at_ i from rfl,e3] at o2; cases o2
  have h2:=List.map_eq_nil_iff.1 h9
  obtain⟨h3,h4⟩:=List.append_eq_nil_iff.1 h2
  show D w _ (.lst k (e.1.map f) (e.2.map f)) _
  rw [h3,h4]
  exact .lnil (Nat.zero_le _)
 ·rcases o2 with ⟨o2,_⟩ | ⟨b',o2,vs,o3,o4,o5⟩
  ·rw [show β i=β.at_ i from rfl,e2] at o2; cases o2
  ·rw [show β i=β.at_ i from rfl,e2] at o2; cases o2
   have hs:vs.size=cap*k:=by simpa [World.shape?,o3] using e5
   have h7:((e.1++e.2).map f).length≤cap:=by
    rw [hs] at o4
    exact Nat.le_of_mul_le_mul_right o4 h8
   have h0:e.1.map f++e.2.map f=(e.1++e.2).map f:=List.map_append.symm
   have a0:(e.1.map f).length=e.1.length:=Kk ..
   show D w _ (.lst k (e.1.map f) (e.2.map f)) _
   rw [← a0]
   have h1:∀ j,j < (flat ((e.1++e.2).map f)).length→j < vs.size:=fun j hj=>by
    rw [Hh o1] at hj
    omega
   refine .lst (fun j=>vs.getD j undef) ?_ e4 ?_ (fun j hj=>⟨(Eh o3).1,?_⟩) (fun j u hu=>?_)
   ·rw [← Kg,h0]; exact h7
   ·rw [h0]; exact o1
   ·rw [h0] at hj
    have:=h1 j hj
    simp [World.cell?,o3,this]
   ·rw [h0] at hu
    have hj:=(Ev hu).1
    have:=h1 j hj
    exact(o5 j u _ hu (by simp [this])).mono fun b i hs=>⟨hs.lt,rfl⟩
theorem V.vsl_list {α:Type} {f:α→AV} {i ver k t:Nat} {e:Ln α} {v:Value} (h0:Sat w β L) (hi:lk L i=some (.vec t k ver ((e.1++e.2).map f))) (h1:Nat.blt 0 k=true) (hv:V w β L (.vsl i ver k 0 e.1.length) v):D w (fun b _=>b < w.heap.size) (LS k f e.1) v:=
 (hv.vsl_lst h0 hi h1).lst_list
end vals

section calls
variable {P:Program} {o:Oper} {l:Fr} {L:Loc} {u:AV}
inductive J36 (L:Loc):AV→AV→Prop
 | data {u u':AV} (h:u.plain=u') (hd:u'.isData=true):J36 L u u'
 | vsl {α:Type} {f:α→AV} {i ver k t:Nat} {e:Ln α} (hi:lk L i=some (.vec t k ver ((e.1++e.2).map f))) (hpos:Nat.blt 0 k=true):J36 L (.vsl i ver k 0 e.1.length) (LS k f e.1)
 | vlt {α:Type} {f:α→AV} {i ver k t:Nat} {e:Ln α} (hi:lk L i=some (.vec t k ver ((e.1++e.2).map f))) (hpos:Nat.blt 0 k=true):J36 L (.vsl i ver k 0 e.1.length) (LT k f e)
theorem J36.D {w:World} {β:Gw} {u u':AV} (h1:Sat w β L) (h:J36 L u u') {v:Value} (hv:V w β L u v):D w (fun b _=>b < w.heap.size) u' v:=by
 cases h with
 | data h hd=>
  subst h
  exact(hv.plain.toD hd).mono fun b i hs=>⟨hs.lt,rfl⟩
 | vsl hi h0=>exact hv.vsl_list h1 hi h0
 | vlt hi h0=>exact hv.vsl_lst h1 hi h0
def G6b (l:Fr) (L:Loc):List Operand→List AV→Prop
 | [],[]=>True
 | x::r,u::s=>J36 L (ev l x) u∧G6b l L r s
 | _,_=>False
theorem G6b.length {l:Fr} {L:Loc}:∀ {xs:List Operand} {us:List AV},G6b l L xs us→xs.length=us.length
 | [],[],_=>rfl
 | _::r,_::s,h=>by simp [G6b.length h.2]
end calls

section ops
variable {P:Program} {N:Cfg} {o:Oper} {l:Fr} {L:Loc} {α:Type}
end ops

section rename
variable {w:World} {β:Gw} {L:Loc}
end rename
section renameJ
variable {P:Program} {N:Cfg} {Q:Post} {c:Code} {l:Fr} {L:Loc}
end renameJ

section calls
variable {P:Program} {o:Oper} {l:Fr} {L:Loc} {u:AV}
inductive G1e (L:Loc):AV→AV→Prop
 | data {u u':AV} (h:u.plain=u') (hd:u'.isData=true):G1e L u u'
 | vec {i ver k n t:Nat} {xs:List AV} (hi:lk L i=some (.vec t k ver xs)):G1e L (.vec i ver k n) (.list k xs)
 | agg {cs ds:List AV} (hl:ds.length=cs.length) (h:∀ (j:Nat) u u',cs[j]? = some u→ds[j]? = some u'→G1e L u u'):G1e L (.agg cs) (.agg ds)
 | ptr {i off t:Nat} {cs ds:List AV} (hi:lk L i=some (.box t cs)) (hl:ds.length=(cs.drop off).length) (h:∀ (j:Nat) u u',(cs.drop off)[j]? = some u→ds[j]? = some u'→G1e L u u'):G1e L (.ptr i off) (.dptr ds)
 | mp {κ ν:Type} [DecidableEq κ] {kv:κ→Value} {av:ν→AV} {i T:Nat} {m:Hk κ ν} (hi:lk L i=some (TP T kv av m)):G1e L (.mp i) (DM kv av m)
 | fn {f:FuncId} {cs ds:List AV} (hl:ds.length=cs.length) (h:∀ (j:Nat) u u',cs[j]? = some u→ds[j]? = some u'→G1e L u u'):G1e L (.fn f cs) (.fn f ds)
 | ms {i n cap t k:Nat} {cs xs:List AV} (hi:lk L i=some (.box t cs)) (hn:n=xs.length) (hk:∀ x∈xs,x.cells.length=k) (hl:(flat xs).length=cs.length) (h:∀ (j:Nat) u u',cs[j]? = some u→(flat xs)[j]? = some u'→G1e L u u'):G1e L (.ms i 0 n cap) (.list k xs)
def Gbc (L:Loc):List AV→List AV→Prop
 | [],[]=>True
 | u::r,u'::s=>G1e L u u'∧Gbc L r s
 | _,_=>False
theorem Gbc.len {L:Loc}:∀ {cs ds:List AV},Gbc L cs ds→ds.length=cs.length
 | [],[],_=>rfl
 | _::_,_::_,h=>by simp [Gbc.len h.2]
theorem dnQ {L:Loc}:∀ (n:Nat) {cs ds:List AV},(cs.take n).map AV.plain=ds.take n→(ds.take n).all AV.isData=true→Gbc L (cs.drop n) (ds.drop n)→Gbc L cs ds
  | 0,_,_,_,_,h=>h
  | _+1,[],[],_,_,_=>trivial
  | _+1,[],_::_,h,_,_=>by simp at h
  | _+1,_::_,[],h,_,_=>by simp at h
  | n+1,u::r,u'::s,h,hd,hk=>by
    simp only [List.take_succ_cons,List.map_cons,List.cons.injEq,List.all_cons,Ki] at h hd
    exact⟨.data h.1 hd.1,dnQ n h.2 hd.2 hk⟩
theorem Gbc.get {L:Loc}:∀ {cs ds:List AV},Gbc L cs ds→∀ (j:Nat) u u',cs[j]? = some u→ds[j]? = some u'→G1e L u u'
 | _::_,_::_,h,0,_,_,h1,h2=>by simp at h1 h2; subst h1 h2; exact h.1
 | _::_,_::_,h,j+1,u,u',h1,h2=>Gbc.get h.2 j u u' (by simpa using h1) (by simpa using h2)
 | [],[],_,j,_,_,h1,_=>by simp at h1
theorem G1e.ptrL {i off t:Nat} {cs ds:List AV} (hi:lk L i=some (.box t cs)) (h:Gbc L (cs.drop off) ds):G1e L (.ptr i off) (.dptr ds):=.ptr hi h.len h.get
theorem V.ms_inv {w:World} {β:Gw} {i off n cap:Nat} {v:Value} (h:V w β L (.ms i off n cap) v):∃ b,β i=some b∧v=.slice (some ⟨b,off,none⟩) n cap∧n≤cap∧cap≤maxLen:=by
 cases h with
 | data h=>cases h
 | ms hi h hn hm=>exact⟨_,h,rfl,hn,hm⟩
theorem G1e.D {w:World} {β:Gw} {u u':AV} (h0:Sat w β L) (h:G1e L u u'):∀ {v:Value},V w β L u v→D w (fun b _=>b < w.heap.size) u' v:=by
 induction h with
 | data h hd=>exact fun hv=>G28.D h0 (.data h hd) hv
 | vec hi=>exact fun hv=>G28.D h0 (.vec hi) hv
 | agg hl _ ih=>
  intro v hv
  obtain⟨vs,rfl,h8,h9⟩:=hv.inv_agg
  refine .agg (h8.trans hl.symm) fun j u' x h5 hx=>?_
  have hj:j < _:=(Ev h5).1
  exact ih j _ u' (Ew (hl ▸ hj)) h5 (h9 j _ x (Ew (hl ▸ hj)) hx)
 | fn hl _ ih=>
  intro v hv
  obtain⟨vs,rfl,h8,h9⟩:=hv.inv_fn
  refine .fn (h8.trans hl.symm) fun j u' x h5 hx=>?_
  have hj:j < _:=(Ev h5).1
  exact ih j _ u' (Ew (hl ▸ hj)) h5 (h9 j _ x (Ew (hl ▸ hj)) hx)
 | @ptr i off t cs ds hi hl _ ih=>
  intro v hv
  obtain⟨b,hb,rfl⟩:=hv.inv_ptr
  obtain⟨b',h6,vs,o1,o2,o3⟩:=h0.obj i _ hi
  rw [hb] at h6; cases h6
  have h7:b < w.heap.size:=(Eh o1).1
  have a0:∀ j,j < ds.length→off+j < cs.length:=fun j hj=>by rw [hl,List.length_drop] at hj; omega
  refine .dptr (fun j=>vs.getD (off+j) undef) (fun j hj=>⟨h7,?_⟩) (fun j u hu=>?_)
  ·have:=a0 j hj
   have h2:off+j < vs.size:=by omega
   simp [World.cell?,o1,h2]
  ·have hj:=(Ev hu).1
   have:=a0 j hj
   have h2:off+j < vs.size:=by omega
   have hc:(cs.drop off)[j]? = some cs[off+j]:=by rw [Kf]; simp [this]
   refine ih j _ u hc hu ?_
   rw [Array.getD_eq_getD_getElem?,Array.getElem?_eq_getElem h2]
   exact o3 (off+j) _ _ (by simp [this]) (by simp [h2])
 | @ms i n cap t k cs xs hi hn hk hl _ ih=>
  intro v hv
  obtain⟨b,hb,rfl,g1,g2⟩:=hv.ms_inv
  obtain⟨b',h6,vs,o1,o2,o3⟩:=h0.obj i _ hi
  rw [hb] at h6; cases h6
  have h7:b < w.heap.size:=(Eh o1).1
  subst hn
  refine .list (fun j=>vs.getD (0+j) undef) g1 g2 hk (fun j hj=>⟨h7,?_⟩) (fun j u hu=>?_)
  ·have h2:j < vs.size:=by omega
   simp [World.cell?,o1,h2]
  ·have hj:=(Ev hu).1
   have h2:j < vs.size:=by omega
   have hc:cs[j]? = some cs[j]:=by simp
   refine ih j _ u hc hu ?_
   rw [Nat.zero_add,Array.getD_eq_getD_getElem?,Array.getElem?_eq_getElem h2]
   exact o3 j _ _ hc (by simp [h2])
 | @mp κ ν dq kv av i T m hi=>
  intro v hv
  obtain⟨b,vals,Hg,rfl,g1,g2,h1,g3⟩:=hv.tsrc h0 (.own hi)
  have h7:b < w.heap.size:=(Eh h1).1
  exact .dmap vals g1 (by rw [G81,← g2]; exact h1) (fun _=>h7) (fun i k u v h2 h3 h4=>(g3 i k u v h2 h3 h4).mono fun b i hs=>⟨hs.lt,rfl⟩)

def G41 (l:Fr) (L:Loc):List Operand→List AV→Prop
 | [],[]=>True
 | x::r,u::s=>G1e L (ev l x) u∧G41 l L r s
 | _,_=>False
theorem G41.length {l:Fr} {L:Loc}:∀ {xs:List Operand} {us:List AV},G41 l L xs us→xs.length=us.length
 | [],[],_=>rfl
 | _::r,_::s,h=>by simp [G41.length h.2]
theorem G41.get {l:Fr} {L:Loc}:∀ {xs:List Operand} {us:List AV},G41 l L xs us→∀ {j:Nat} {x:Operand} {u:AV},xs[j]? = some x→us[j]? = some u→G1e L (ev l x) u
 | [],[],_,j,x,u,h,_=>by simp at h
 | x::r,u::s,h,0,_,_,hx,hu=>by simp at hx hu; subst hx hu; exact h.1
 | x::r,u::s,h,j+1,_,_,hx,hu=>by simp at hx hu; exact G41.get h.2 hx hu
theorem Je6 {f:FuncId} {xs:List Operand} {args:List AV} {ts:Array TypeId} (ho:o.op=.call { callee:=.value (.func f),args:=xs.toArray,argTypes:=ts }) (hc:Pure P f args (·=u)) (hB:Hm P f=true) (ha:G41 l L xs args) (hu:u.noRef=true):Gk P o l L (Is u L):=by
 intro a w β K Q h0 hf hK
 have hr:(execOp a.eval o).run P w=.ok (.enter f (xs.toArray.map a.eval)) w:=by
  simp [execOp,ho,resolve,Act.eval,Deferred.ofValue,invoke,Hm.out hB]
 unfold Oper.wp
 rw [hr]
 show Calls P f _ w _
 refine(Hc2 hc h0 (vs:=xs.toArray.map a.eval) (by simp [ha.length]) (fun j u v hu hv=>?_) (fun r hr=>by rw [hr]; exact hu)).mono fun e w' h=>?_
 ·simp only [Array.getElem?_map,List.getElem?_toArray,Option.map_eq_some_iff] at hv
  obtain⟨x,hx,rfl⟩:=hv
  exact(ha.get hx hu).D h0 (hf.ev x)
 ·obtain⟨v,r,rfl,h1,h2,h3,rfl⟩:=h
  exact hK _ L v w' β ⟨rfl,rfl⟩ h1 h2 h3
end calls

/-! ### Is it nil -/
section nil
variable {P:Program} {o:Oper} {l:Fr} {L:Loc}
end nil

/-! ### A row of values that are no data -/
def Heb (l:Fr):List Operand→List AV→Prop
 | [],[]=>True
 | x::r,u::s=>ev l x=u∧Heb l r s
 | _,_=>False
theorem Heb.length {l:Fr}:∀ {xs:List Operand} {us:List AV},Heb l xs us→xs.length=us.length
 | [],[],_=>rfl
 | _::_,_::_,h=>by simp [Heb.length h.2]
/-! ### Ranges over maps with gaps -/
section gaps
variable {α σ:Type}
def rk (l:List (Option α)) (j:Nat):Nat:=((l.take j).filterMap id).length
theorem Q1c:∀ {l:List (Option α)} {j:Nat} {e:α},l[j]? = some (some e)→(l.filterMap id)[rk l j]? = some e
 | [],j,e,h=>by simp at h
 | none::r,0,e,h=>by simp at h
 | some a::r,0,e,h=>by simp at h; subst h; simp [rk]
 | none::r,j+1,e,h=>by
  have:=Q1c (l:=r) (j:=j) (e:=e) (by simpa using h)
  simpa [rk] using this
 | some a::r,j+1,e,h=>by
  have:=Q1c (l:=r) (j:=j) (e:=e) (by simpa using h)
  simpa [rk] using this
theorem Q1b:∀ {l:List (Option α)} {i j:Nat} {e e':α},l[i]? = some (some e)→l[j]? = some (some e')→rk l i=rk l j→i=j
 | [],i,j,e,e',h,_,_=>by simp at h
 | x::r,0,0,_,_,_,_,_=>rfl
 | none::r,0,j+1,e,e',h,_,_=>by simp at h
 | some a::r,0,j+1,e,e',_,_,hr=>by simp [rk] at hr
 | none::r,i+1,0,e,e',_,h,_=>by simp at h
 | some a::r,i+1,0,e,e',_,_,hr=>by simp [rk] at hr
 | none::r,i+1,j+1,e,e',h,h',hr=>by
  have:=Q1b (l:=r) (i:=i) (j:=j) (by simpa using h) (by simpa using h') (by simpa [rk] using hr)
  omega
 | some a::r,i+1,j+1,e,e',h,h',hr=>by
  have:=Q1b (l:=r) (i:=i) (j:=j) (by simpa using h) (by simpa using h') (by simpa [rk] using hr)
  omega
theorem Q1a:∀ {l:List (Option α)} {q:Nat},q < (l.filterMap id).length→∃ j e,l[j]? = some (some e)∧rk l j=q
 | [],q,h=>by simp at h
 | none::r,q,h=>by
  obtain⟨j,e,h1,h2⟩:=Q1a (l:=r) (q:=q) (by simpa using h)
  exact⟨j+1,e,by simpa using h1,by simpa [rk] using h2⟩
 | some a::r,0,h=>⟨0,a,rfl,rfl⟩
 | some a::r,q+1,h=>by
  obtain⟨j,e,h1,h2⟩:=Q1a (l:=r) (q:=q) (by simpa using h)
  exact⟨j+1,e,by simpa using h1,by simpa [rk] using h2⟩
def J35 (b:α→σ→(σ→Option (σ ⊕ Prop))→Option (σ ⊕ Prop)) (kx:σ→Option Prop) (l:List (Option α)) (seen:List Nat) (s:σ):Prop:=
 (∀ j∈seen,∃ e,l[j]? = some (some e))∧MInv b kx (l.filterMap id) (seen.map (rk l)) s
theorem J35.start {b:α→σ→(σ→Option (σ ⊕ Prop))→Option (σ ⊕ Prop)} {kx:σ→Option Prop} {l:List (Option α)} {s:σ} {p:Prop} (h:Jca b kx (l.filterMap id) s=some p) (hp:p):J35 b kx l [] s:=
 ⟨by simp,MInv.start h hp⟩
theorem J35.step {b:α→σ→(σ→Option (σ ⊕ Prop))→Option (σ ⊕ Prop)} {kx:σ→Option Prop} {l:List (Option α)} {seen:List Nat} {s:σ} {j:Nat} {e:α} (h:J35 b kx l seen s) (hj:l[j]? = some (some e)) (hs:j ∉ seen) :
  ∃ o,b e s (fun s'=>some (.inl s'))=some o∧(∀ r,o=.inr r→r)∧∀ s',o=.inl s'→J35 b kx l (seen++[j]) s':=by
 obtain⟨h1,h2⟩:=h
 obtain⟨o,o1,o2,o3⟩:=h2.step (Q1c hj) (fun hm=>by
  obtain⟨i,hi,e2⟩:=Kn.1 hm
  obtain⟨e',h0⟩:=h1 i hi
  exact hs (Q1b h0 hj e2 ▸ hi))
 refine⟨o,o1,o2,fun s' ho=>⟨fun i hi=>?_,?_⟩⟩
 ·rcases Km.1 hi with hi | hi
  ·exact h1 i hi
  ·simp at hi; subst hi; exact⟨e,hj⟩
 ·rw [List.map_append]; exact o3 s' ho
theorem J35.done {b:α→σ→(σ→Option (σ ⊕ Prop))→Option (σ ⊕ Prop)} {kx:σ→Option Prop} {l:List (Option α)} {seen:List Nat} {s:σ} (h:J35 b kx l seen s) (ha:∀ q e,l[q]? = some (some e)→q∈seen):∃ p,kx s=some p∧p:=
 h.2.done (fun q hq=>by
  obtain⟨j,e,h1,h2⟩:=Q1a hq
  exact Kn.2 ⟨j,ha j e h1,h2⟩)
end gaps
end Go.Proofs.Ytokjlondbjdlfaa
