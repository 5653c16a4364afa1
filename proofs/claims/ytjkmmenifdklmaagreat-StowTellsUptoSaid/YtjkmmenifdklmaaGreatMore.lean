/-
 Local structs that hold slices that are still appended to; results that lie in a variable.
-/
import Derived.Test.YtjkmmenifdklmaaGreatTally
namespace Go.Proofs.YtjkmmenifdklmaaGreat
open Go.RowKit
set_option linter.unusedVariables false
set_option linter.unusedSimpArgs false

/-! ### The cells of a box, one by one -/
def J1b (ok:Nat→Bool):List AV→List AV→Prop
 | [],[]=>True
 | u::r,u'::r'=>Conv ok u u'∧J1b ok r r'
 | _,_=>False
theorem J1b.length {ok:Nat→Bool}:∀ {cs cs':List AV},J1b ok cs cs'→cs.length=cs'.length
 | [],[],_=>rfl
 | _::_,_::_,h=>by simp [J1b.length h.2]
 | [],_::_,h=>h.elim
 | _::_,[],h=>h.elim
theorem J1b.get {ok:Nat→Bool}:∀ {cs cs':List AV},J1b ok cs cs'→∀ (j:Nat) u u',cs[j]? = some u→cs'[j]? = some u'→Conv ok u u'
 | u::r,u'::r',h,0,x,x',hx,hx'=>by simp at hx hx'; subst hx; subst hx'; exact h.1
 | u::r,u'::r',h,j+1,x,x',hx,hx'=>by simp at hx hx'; exact J1b.get h.2 j x x' hx hx'
 | [],[],_,j,_,_,hx,_=>by simp at hx
 | [],_::_,h,_,_,_,_,_=>h.elim
 | _::_,[],h,_,_,_,_,_=>h.elim
theorem G9d.boxL {ok:Nat→Bool} {o:Jd} {t:Nat} {cs cs':List AV} (ho:o=.box t cs) (h:J1b ok cs cs'):G9d ok o (.box t cs'):=by
 subst ho; exact .box h.length h.get

/-! ### A nil slice in a box that is going to be appended to -/
/-! ### Zero values whose slices are seen as empty lists -/
def ZOk:List AV→List Value→Prop
 | [],[]=>True
 | u::r,v::s=>(u=.sc v∨∃ k,u=.list k []∧v=.slice none 0 0)∧ZOk r s
 | _,_=>False
theorem ZOk.length:∀ {us:List AV} {vs:List Value},ZOk us vs→us.length=vs.length
 | [],[],_=>rfl
 | _::_,_::_,h=>by simp [ZOk.length h.2]
 | [],_::_,h=>h.elim
 | _::_,[],h=>h.elim
theorem ZOk.get {w:World} {β:H6} {L:Loc}:∀ {us:List AV} {vs:List Value},ZOk us vs→∀ (j:Nat) u v,us[j]? = some u→vs[j]? = some v→V w β L u v
 | u::r,v::s,h,0,x,y,hx,hy=>by
  simp at hx hy; subst hx; subst hy
  rcases h.1 with h | ⟨k,h1,h2⟩
  ·subst h; exact .sc
  ·subst h1; subst h2; exact .data (.nil (Nat.zero_le _))
 | u::r,v::s,h,j+1,x,y,hx,hy=>by simp at hx hy; exact ZOk.get h.2 j x y hx hy
 | [],[],_,j,_,_,hx,_=>by simp at hx
 | [],_::_,h,_,_,_,_,_=>h.elim
 | _::_,[],h,_,_,_,_,_=>h.elim
section
variable {P:Program} {o:Oper} {l:Fr} {L:Loc}
theorem G1c (i:Nat) {T:Nat} (us:List AV) (zs:List Value) (hz:(P.info? T).bind (fun i=>i.zero.map Value.cells)=some zs.toArray) (hu:ZOk us zs) (ho:o.op=.alloc T) (hi:lk L i=none) :
  H1 P o l L (Is (.ptr i 0) ((i,.box T us)::L)):=by
 intro a w β K Q hsat hf hK
 cases h1:P.info? T with
 | none=>rw [h1] at hz; simp at hz
 | some inf=>
  rw [h1] at hz
  cases h2:inf.zero with
  | none=>simp [h2] at hz
  | some z=>
   simp only [Option.bind_some,h2,Option.map_some,Option.some.injEq] at hz
   unfold Oper.wp
   have hr:(execOp a.eval o).run P w=.ok (.value (.pointer (some ⟨w.heap.size,0,none⟩))) (w.alloc (.cells z.cells T)):=by
    simp [execOp,ho,Instr.alloc,zeroValue,typeInfo,h1,h2,newVar,newRow]
   rw [hr]
   refine hK _ _ _ _ (Q8 β i (some w.heap.size)) ⟨rfl,rfl⟩ (hsat.alloc hi _ (fun hs=>⟨_,rfl,z.cells,heap_alloc_new w _,by simp [hz,hu.length],fun j u v hj hv=>?_⟩)) (Step.alloc hi hsat.bnd _) (.ptr (t:=T) (cs:=us) (by simp [Gm]) (by simp [Q8]))
   rw [hz] at hv
   exact hu.get j u v hj (by simpa using hv)
theorem Jq {T:TypeId} {parts:List (Nat×Operand)} {cs:List AV} (pl:List (Nat×Nat)) (us:List AV) (zs:List Value) (hpl:placesOf P T=some pl) (hz:(P.info? T).bind (fun i=>i.zero.map Value.cells)=some zs.toArray) (hu:ZOk us zs) (ho:o.op=.build T parts.toArray) (hfill:H3d (fun i=>pl[i]?) us (parts.map fun p=>(p.1,ev l p.2))=some cs):H1 P o l L (Is (.agg cs) L):=
 Hg fun a w β _ hf=>by
  cases h1:P.info? T with
  | none=>rw [h1] at hz; simp at hz
  | some inf=>
   rw [h1] at hz
   cases h2:inf.zero with
   | none=>simp [h2] at hz
   | some z=>
    simp only [Option.bind_some,h2,Option.map_some,Option.some.injEq] at hz
    unfold placesOf at hpl
    split at hpl
    ·rename_i fs hfs
     have hrp:=run_places (P:=P) (w:=w) fs.toList pl hpl
     obtain⟨vs',e1,e2,e3⟩:=H30 (w:=w) (β:=β) (L:=L) (qs:=parts.map fun p=>(p.1,a.eval p.2)) (vs:=zs.toArray) hfill (by simp) (fun j p q hp hq=>by
      simp only [List.getElem?_map,Option.map_eq_some_iff] at hp hq
      obtain⟨x,hx,rfl⟩:=hp
      obtain⟨y,hy,rfl⟩:=hq
      rw [hx] at hy; cases hy
      exact⟨rfl,hf.ev _⟩) (by simp [hu.length]) (fun j u v hj hv=>hu.get j u v hj (by simpa using hv))
     refine⟨.agg vs',?_,.agg e2 e3⟩
     have hm:(fs.mapM (fun f=>Prod.mk f.offset <$> sizeOf f.type:Field→Sem (Nat×Nat))).run P w=.ok pl.toArray w:=by
      rw [← Array.toArray_toList (xs:=fs),List.mapM_toArray]
      simp only [Sem.run_map,hrp,Result.andThen_ok]
     simp [execOp,ho,Instr.build,zeroValue,typeInfo,h1,h2,underlying,hfs,hm,hz,e1]
    ·cases hpl
end
/-! ### A result that lies in a variable -/
theorem J50 {P:Program} {T k b:Nat} {vs:Array Value} {t:TypeId} {w:World} (hT:Gb5 P T k=true) (hv:w.heap[b]? = some (.cells vs t (0,0))) (hk:vs.size=k) :
  (loadVar T ⟨b,0,none⟩).run P w=.ok (.agg vs) w:=by
 have h1:=Gaa (P:=P) (T:=T) (k:=k) (b:=b) (o':=0) (vs:=vs.toList) hT (by simpa using hk) (w:=w) (fun j v h=>by
  simp at h
  simp [World.cell?,hv,h])
 simpa [Instr.loadAt,Instr.sureAddr,asAddr] using h1
end Go.Proofs.YtjkmmenifdklmaaGreat
