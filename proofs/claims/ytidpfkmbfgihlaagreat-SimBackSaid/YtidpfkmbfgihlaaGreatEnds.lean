/-
 From the reading of an argument as data to the walks' abstract values: what a given statement says of its arguments,in the walks' words; and back: what a walk without lent objects leaves of the world. The ends of calls: results in slots and in cells,whatever their number.
-/
import Derived.Test.YtidpfkmbfgihlaaGreatExt
import Derived.ChangeArms
import Derived.ChangeOld
import Derived.Below
import Derived.JoinedOf
import Derived.JoinedAt
namespace Go.Proofs.YtidpfkmbfgihlaaGreat
open Go.RowKit

def Rd (w:World) (S:Nat→Nat→Prop) (us:List AV) (cs:List Value):Prop:=
 cs.length=us.length∧∀ (j:Nat) u v,us[j]? = some u→cs[j]? = some v→D w S u v

def isAgg (P:Program) (t:TypeId):Bool:=match P.underlying t with
 | some (.struct _)=>true
 | _=>false

def H89 (P:Program) (t:TypeId) (us:List AV):AV:=bif isAgg P t then .agg us else us.headD .junk

def Y4e (P:Program) (ok:TypeId→Bool):List Field→Nat→Nat→Bool
 | [],off,tot=>Nat.beq off tot
 | f::fs,off,tot=>Nat.beq f.offset off&&ok f.type&&Y4e P ok fs (off+P.cellsOf f.type) tot

def R22 (P:Program):Nat→TypeId→Bool
 | 0,_=>false
 | n+1,t=>match P.underlying t with
  | some .bool=>true
  | some .string=>true
  | some (.int _)=>true
  | some (.slice e)=>Nat.blt 0 (P.cellsOf e)&&R22 P n e
  | some (.struct fs)=>Y4e P (R22 P n) fs.toList 0 (P.cellsOf t)
  | _=>false

def Q38 (P:Program) (F:TypeId→List AV→Prop):List Field→List AV→Prop
 | [],us=>us=[]
 | f::fs,us=>∃ a b,us=a++b∧a.length=P.cellsOf f.type∧F f.type a∧Q38 P F fs b

def G08 (P:Program) (M:Nat):Nat→TypeId→List AV→Prop
 | 0,_,_=>False
 | n+1,t,us=>match P.underlying t with
  | some .bool=>∃ b,us=[.sc (.bool b)]
  | some .string=>∃ s:ByteArray,us=[.sc (.string s)]∧s.size≤maxLen
  | some (.int k)=>∃ z,us=[.sc (.int k z)]∧(Lit.int k z).wf=true
  | some (.slice e)=>∃ xss:List (List AV),us=[.list (P.cellsOf e) (xss.map (H89 P e))]∧xss.length≤M∧∀ xs∈xss,G08 P M n e xs
  | some (.struct fs)=>Q38 P (G08 P M n) fs.toList us
  | _=>False

theorem Rd.append {w:World} {S:Nat→Nat→Prop} {us us':List AV} {cs cs':List Value} (h:Rd w S us cs) (h':Rd w S us' cs'):Rd w S (us++us') (cs++cs'):=by
 refine⟨by simp [h.1,h'.1],fun j u v hu hv=>?_⟩
 by_cases hj:j < us.length
 ·rw [List.getElem?_append_left hj] at hu
  rw [List.getElem?_append_left (by rw [h.1]; exact hj)] at hv
  exact h.2 j u v hu hv
 ·rw [List.getElem?_append_right (by omega)] at hu
  rw [List.getElem?_append_right (by rw [h.1]; omega),h.1] at hv
  exact h'.2 _ u v hu hv

theorem Y17 {P:Program} {ok:TypeId→Bool}:∀ {fs:List Field} {off tot:Nat},Y4e P ok fs off tot=true→off≤tot
 | [],_,_,h=>Nat.le_of_eq (Nat.eq_of_beq_eq_true h)
 | _::fs,_,_,h=>by
  simp only [Y4e,Bool.and_eq_true] at h
  have:=Y17 h.2
  omega

theorem Y25 {P:Program} {w:World} {S:Nat→Nat→Prop} {ok:TypeId→Bool} {F:TypeId→List AV→Prop} {cs:List Value} :
  ∀ {fs:List Field} {off tot:Nat},Y4e P ok fs off tot=true→cs.length=tot →
   (∀ f∈fs,ok f.type=true→∃ us,F f.type us∧Rd w S us ((cs.drop f.offset).take (P.cellsOf f.type)))→∃ us,Q38 P F fs us∧Rd w S us (cs.drop off)
 | [],off,tot,h,hl,_=>by
  have:=Nat.eq_of_beq_eq_true h
  refine⟨[],rfl,?_,fun j u v hu=>by cases hu⟩
  rw [List.length_drop,hl,this]; simp
 | f::fs,off,tot,h,hl,hf=>by
  simp only [Y4e,Bool.and_eq_true] at h
  obtain⟨⟨h1,h2⟩,h3⟩:=h
  have h1:=Nat.eq_of_beq_eq_true h1
  obtain⟨us1,f1,r1⟩:=hf f (List.mem_cons_self ..) h2
  obtain⟨us2,f2,r2⟩:=Y25 h3 hl (fun g hg=>hf g (List.mem_cons_of_mem _ hg))
  rw [h1] at r1
  have hle:=Y17 h3
  refine⟨us1++us2,⟨us1,us2,rfl,?_,f1,f2⟩,?_⟩
  ·rw [← r1.1,List.length_take,List.length_drop]; omega
  ·have e:cs.drop off=(cs.drop off).take (P.cellsOf f.type)++cs.drop (off+P.cellsOf f.type):=by
    rw [← List.drop_drop,List.take_append_drop]
   rw [e]
   exact r1.append r2

theorem Q8f {P:Program} {M n:Nat} {t:TypeId} {us:List AV} (h:G08 P M n t us):(H89 P t us).cells=us:=by
 cases n with
 | zero=>exact h.elim
 | succ n=>
  unfold G08 at h
  unfold H89 isAgg
  revert h
  split
  ·rintro⟨b,rfl⟩; simp_all [AV.cells]
  ·rintro⟨b,rfl,_⟩; simp_all [AV.cells]
  ·rintro⟨b,rfl,_⟩; simp_all [AV.cells]
  ·rintro⟨xss,rfl,_⟩; simp_all [AV.cells]
  ·intro _; simp_all [AV.cells]
  ·intro h; exact h.elim

theorem cell_spot {w:World} {a:Addr} {v:Value} (h:w.cell? a=some v):a.spot=none:=by
 cases hs:a.spot with
 | none=>rfl
 | some s=>
  unfold World.cell? at h
  split at h
  ·rw [hs] at h; simp at h
  ·cases h

theorem Yd9 {w:World} {a:Addr} {v:Value} (h:w.cell? a=some v):a.block < w.heap.size:=by
 unfold World.cell? at h
 split at h
 ·rename_i hh
  exact(Array.getElem?_eq_some_iff.1 hh).1
 ·cases h

theorem R79 {α β:Type} {f:α→Option β}:∀ {l:List α} {r:List β},l.mapM f=some r→r.length=l.length∧∀ (i:Nat) x,l[i]? = some x→f x=r[i]?
 | [],r,h=>by
  simp at h; subst h
  exact⟨rfl,fun i x hx=>by cases hx⟩
 | x::l,r,h=>by
  rw [List.mapM_cons] at h
  cases hx:f x with
  | none=>rw [hx] at h; cases h
  | some y=>
   rw [hx] at h
   cases hl:l.mapM f with
   | none=>rw [hl] at h; cases h
   | some r'=>
    rw [hl] at h
    cases h
    obtain⟨h1,h2⟩:=R79 hl
    refine⟨by simp [h1],fun i z hz=>?_⟩
    cases i with
    | zero=>simp at hz; subst hz; simpa using hx
    | succ i=>simpa using h2 i z (by simpa using hz)

theorem Jdb {w:World} {base:Nat} {a:Addr} {n:Nat} {cs:List Value} (h:w.cells? base a n=some cs):cs.length=n∧∀ j,j < n→w.cell? (a.add j)=cs[j]? := by
 unfold World.cells? at h
 split at h
 ·obtain⟨h1,h2⟩:=R79 h
  exact⟨by simpa using h1,fun j hj=>h2 j j (by simp [hj])⟩
 ·cases h

theorem R30 {b off:Nat} (i:Nat):Addr.add ⟨b,off,none⟩ i=⟨b,off+i,none⟩:=by
 unfold Addr.add
 split <;> simp_all

section
variable {H:Type} {enc:TypeId×Value→H} {P:Program} {w:World} {base:Nat} {spare:Nat→Bool} {held:Bool} {S:Nat→Nat→Prop}

theorem Rf6 {M n:Nat} {e:TypeId} {a:Addr} {len cap:Nat} (hS:∀ b i,b < w.heap.size→S b i) (hk:0 < P.cellsOf e) (hl:len≤cap) (hm:cap≤maxLen)
  (hel:∀ i,i < len→∃ us cs,G08 P M n e us∧Rd w S us cs∧w.cells? base (a.add (i*P.cellsOf e)) (P.cellsOf e)=some cs) :
  ∃ xss:List (List AV),xss.length=len∧(∀ xs∈xss,G08 P M n e xs)∧D w S (.list (P.cellsOf e) (xss.map (H89 P e))) (.slice (some a) len cap):=by
 have hel':∀ i,∃ us,i < len→∃ cs,G08 P M n e us∧Rd w S us cs∧w.cells? base (a.add (i*P.cellsOf e)) (P.cellsOf e)=some cs:=fun i=>by
  by_cases hi:i < len
  ·obtain⟨us,cs,h⟩:=hel i hi
   exact⟨us,fun _=>⟨cs,h⟩⟩
  ·exact⟨[],fun h=>(hi h).elim⟩
 obtain⟨f,hf⟩:=Classical.skolem.1 hel'
 refine⟨(List.range len).map f,by simp,?_,?_⟩
 ·intro xs hx
  obtain⟨i,hi,rfl⟩:=List.mem_map.1 hx
  obtain⟨cs,h,_⟩:=hf i (List.mem_range.1 hi)
  exact h
 cases len with
 | zero=>exact .nil hm
 | succ len=>
  obtain⟨cs0,_,_,hc0⟩:=hf 0 (Nat.succ_pos _)
  obtain⟨l0,g0⟩:=Jdb hc0
  have g00:=g0 0 hk
  have hx:∃ v,cs0[0]? = some v:=⟨cs0[0],by simp⟩
  obtain⟨v0,hv0⟩:=hx
  rw [hv0] at g00
  have hsp:a.spot=none:=by
   have:=cell_spot g00
   unfold Addr.add at this
   simpa using this
  obtain⟨b,off,sp⟩:=a
  subst hsp
  have hb:b < w.heap.size:=by
   have:=Yd9 g00
   simpa [R30] using this
  have hcl:∀ x∈((List.range (len+1)).map f).map (H89 P e),x.cells.length=P.cellsOf e:=by
   intro x hx
   obtain⟨us,hu,rfl⟩:=List.mem_map.1 hx
   obtain⟨i,hi,rfl⟩:=List.mem_map.1 hu
   obtain⟨cs,h1,h2,h3⟩:=hf i (List.mem_range.1 hi)
   rw [Q8f h1,← h2.1,(Jdb h3).1]
  have hlen:(((List.range (len+1)).map f).map (H89 P e)).length=len+1:=by simp
  have hflat:∀ J,J < (flat (((List.range (len+1)).map f).map (H89 P e))).length→∃ u v,(flat (((List.range (len+1)).map f).map (H89 P e)))[J]? = some u∧w.cell? ⟨b,off+J,none⟩=some v∧D w S u v:=by
   intro J hJ
   rw [J1 hcl,hlen] at hJ
   have hi:J / P.cellsOf e < len+1:=(Nat.div_lt_iff_lt_mul hk).2 hJ
   have hj:J % P.cellsOf e < P.cellsOf e:=Nat.mod_lt _ hk
   have hJ':J / P.cellsOf e*P.cellsOf e+J % P.cellsOf e=J:=by
    rw [Nat.mul_comm]; exact Nat.div_add_mod J _
   obtain⟨cs,h1,h2,h3⟩:=hf _ hi
   obtain⟨l1,g1⟩:=Jdb h3
   have hx:(((List.range (len+1)).map f).map (H89 P e))[J / P.cellsOf e]? = some (H89 P e (f (J / P.cellsOf e))):=by
    rw [List.getElem?_map,List.getElem?_map,List.getElem?_range hi]; rfl
   have hfl:=R28 hcl hx _ hj
   rw [hJ',Q8f h1] at hfl
   have hul:(f (J / P.cellsOf e)).length=P.cellsOf e:=by rw [← h2.1,l1]
   have hu:(f (J / P.cellsOf e))[J % P.cellsOf e]? = some ((f (J / P.cellsOf e))[J % P.cellsOf e]'(by rw [hul]; exact hj)):=by simp
   have hv:cs[J % P.cellsOf e]? = some (cs[J % P.cellsOf e]'(by rw [l1]; exact hj)):=by simp
   refine⟨_,_,hfl.trans hu,?_,h2.2 _ _ _ hu hv⟩
   have:=g1 _ hj
   rw [R30,R30,Nat.add_assoc,hJ',hv] at this
   exact this
  have hD:=D.list (w:=w) (S:=S) (k:=P.cellsOf e) (b:=b) (off:=off) (cap:=cap) (xs:=((List.range (len+1)).map f).map (H89 P e)) (fun J=>(w.cell? ⟨b,off+J,none⟩).getD undef) (by rw [hlen]; exact hl) hm hcl
   (fun J hJ=>by
    obtain⟨u,v,_,hv,_⟩:=hflat J hJ
    exact⟨hS _ _ hb,by rw [hv]; rfl⟩)
   (fun J u hu=>by
    have hJ:J < (flat (((List.range (len+1)).map f).map (H89 P e))).length:=(List.getElem?_eq_some_iff.1 hu).1
    obtain⟨u',v,hu',hv,hd⟩:=hflat J hJ
    rw [hu] at hu'
    cases hu'
    rw [hv]; exact hd)
  rw [hlen] at hD
  exact hD

structure J48 (H:Type) (M:Nat) (small:DataW H→Prop):Prop where
 slice:∀ elems spare,small (.slice elems spare)→elems.length≤maxLen→elems.length≤M∧∀ e∈elems,small e
 agg:∀ parts,small (.agg parts)→∀ p∈parts,small p
theorem J48.all {H:Type}:J48 H maxLen (fun _=>True):=⟨fun _ _ _ h=>⟨h,fun _ _=>trivial⟩,fun _ _ _ _=>trivial⟩
theorem He9 (hS:∀ b i,b < w.heap.size→S b i) {M:Nat} {small:DataW H→Prop} (hsm:J48 H M small):∀ (n:Nat) (t:TypeId) (fuel:Nat) (cs:List Value) (x:DataW H×List MemPlace),R22 P n t=true →
  DataW.trod enc P w base spare held fuel t cs=some x→small x.1→∃ us,G08 P M n t us∧Rd w S us cs
 | 0,_,_,_,_,h,_,_=>by cases h
 | n+1,t,fuel,cs,x,h,hx,hxs=>by
  unfold R22 at h
  unfold G08
  have one:∀ {u:AV} {v:Value},D w S u v→Rd w S [u] [v]:=fun {u v} hd=>⟨rfl,fun j u' v' hu hv=>by
   cases j with
   | zero=>simp at hu hv; subst hu; subst hv; exact hd
   | succ j=>cases hu⟩
  revert h
  split
  ·rename_i ht
   intro _
   obtain⟨b,rfl,_⟩:=DataW.trod_bool ht hx
   exact⟨_,⟨b,rfl⟩,one .sc⟩
  ·rename_i ht
   intro _
   obtain⟨s,rfl,_,hs⟩:=DataW.trod_string ht hx
   exact⟨_,⟨s,rfl,hs⟩,one .sc⟩
  ·rename_i k ht
   intro _
   obtain⟨z,rfl,_,hz⟩:=DataW.trod_int ht hx
   exact⟨_,⟨z,rfl,hz⟩,one .sc⟩
  ·rename_i e ht
   intro h
   rw [Bool.and_eq_true] at h
   have hk:0 < P.cellsOf e:=Eq.mp Nat.blt_eq h.1
   rcases DataW.trod_slice ht hx with ⟨rfl,_⟩ | ⟨a,len,cap,elems,rest,m,_,rfl,hx1,hb,hl,hm,hlen,hel,_,_⟩
   ·exact⟨_,⟨[],rfl,Nat.zero_le _,fun xs hx=>by cases hx⟩,one (.nil (Nat.zero_le _))⟩
   ·rw [hx1] at hxs
    obtain⟨hM,hsub⟩:=hsm.slice _ _ hxs (by rw [List.length_map,hlen]; exact Nat.le_trans hl hm)
    rw [List.length_map,hlen] at hM
    obtain⟨xss,h1,h2,h3⟩:=Rf6 (P:=P) (base:=base) (n:=n) (e:=e) (a:=a) (len:=len) (cap:=cap) hS hk hl hm (fun i hi=>by
     have he:=hel i hi
     rw [List.getElem?_eq_getElem (by rw [hlen]; exact hi)] at he
     obtain⟨cs',hc,ht'⟩:=Option.bind_eq_some_iff.1 he
     obtain⟨us,hf,hr⟩:=He9 hS hsm n e m cs' _ h.2 ht' (hsub _ (List.mem_map.2 ⟨_,List.getElem_mem _,rfl⟩))
     exact⟨us,cs',hf,hr,hc⟩)
    exact⟨_,⟨xss,rfl,by rw [h1]; exact hM,h2⟩,one h3⟩
  ·rename_i fs ht
   intro h
   obtain⟨xs,m,_,hx1,hl,hlen,hf⟩:=DataW.trod_struct ht hx
   rw [hx1] at hxs
   have hsub:=hsm.agg _ hxs
   obtain⟨us,h1,h2⟩:=Y25 (w:=w) (S:=S) (F:=G08 P M n) h hl (fun f hf' hok=>by
    obtain⟨i,hi⟩:=List.mem_iff_getElem?.1 hf'
    have hi':fs[i]? = some f:=by simpa using hi
    have:=hf i f hi'
    have hlt:i < xs.length:=by rw [hlen]; exact(Array.getElem?_eq_some_iff.1 hi').1
    rw [List.getElem?_eq_getElem hlt] at this
    exact He9 hS hsm n f.type m _ _ hok this (hsub _ (List.mem_map.2 ⟨_,List.getElem_mem hlt,rfl⟩)))
   exact⟨us,h1,by simpa using h2⟩
  ·intro h; cases h

theorem Jab (hS:∀ b i,b < w.heap.size→S b i) {M:Nat} {small:DataW H→Prop} (hsm:J48 H M small) {n:Nat} {t:TypeId} {r:Reach} {b0:Nat} {v:Value} {d:DataW H} {ps:List MemPlace} (hok:R22 P n t=true)
  (hval:Value.okWide P w r b0 t v) (hd:DataW.Trod enc P w base spare held t v d ps) (hds:small d):∃ us,G08 P M n t us∧D w S (H89 P t us) v:=by
 obtain⟨fuel,hf⟩:=hd
 obtain⟨us,h1,h2⟩:=He9 hS hsm n t fuel _ _ hok hf hds
 refine⟨us,h1,?_⟩
 have single:∀ {u:AV},us=[u]→isAgg P t=false→v.cells.toList=[v]→D w S (H89 P t us) v:=fun {u} hu ha hv=>by
  subst hu
  unfold H89
  rw [ha]
  rw [hv] at h2
  exact h2.2 0 _ _ rfl rfl
 cases n with
 | zero=>exact h1.elim
 | succ n=>
  unfold G08 at h1
  revert h1
  split
  ·rename_i ht
   rintro⟨b,e⟩
   obtain⟨b',rfl⟩:=Go.WideShapes.okWide_bool ht hval
   exact single e (by simp [isAgg,ht]) (by simp [Value.cells])
  ·rename_i ht
   rintro⟨b,e,_⟩
   obtain⟨b',rfl⟩:=Go.WideShapes.okWide_string ht hval
   exact single e (by simp [isAgg,ht]) (by simp [Value.cells])
  ·rename_i ht
   rintro⟨b,e,_⟩
   obtain⟨b',rfl⟩:=Go.WideShapes.okWide_int ht hval
   exact single e (by simp [isAgg,ht]) (by simp [Value.cells])
  ·rename_i ht
   rintro⟨b,e,_⟩
   obtain⟨a,l,c,rfl⟩:=Go.WideShapes.okWide_slice ht hval
   exact single e (by simp [isAgg,ht]) (by simp [Value.cells])
  ·rename_i fs ht
   intro _
   obtain⟨cs,rfl,_⟩:=Go.WideShapes.okWide_struct ht hval
   unfold H89
   rw [show isAgg P t=true by simp [isAgg,ht]]
   refine .agg ?_ (fun j u v hu hv=>h2.2 j u v hu ?_)
   ·simpa [Value.cells] using h2.1
   ·simpa [Value.cells] using hv
  ·intro h; exact h.elim

end

theorem Step.below {w w':World} {β β':H4} {L':Loc} (h:Step w β [] w' β' L'):Below w.heap.size w w':=
 ⟨h.os,h.tape,h.output.1,h.size,fun k hk=>(h.far k hk (fun id hi=>by simp [lk] at hi)).1⟩

theorem Yc3 {P:Program} {f:FuncId} {args:List AV} {R:AV→Prop} (hc:Pure P f args R) {w:World} {vs:Array Value} (hl:vs.size=args.length)
  (hv:∀ (j:Nat) u v,args[j]? = some u→vs[j]? = some v→D w (Jt w ⟨fun _=>none,fun _ _=>False⟩ []) u v) :
  Calls P f vs w fun e w'=>∃ v r β' ,e=.returned v∧Below w.heap.size w w'∧V w' β' [] r v∧R r:=by
 refine(hc w ⟨fun _=>none,fun _ _=>False⟩ vs ⟨fun b i h=>h.elim,fun id b h=>by simp [lk] at h,fun id b j h=>by simp [lk] at h,fun id id' b h=>by simp [lk] at h,fun id o h=>by simp [lk] at h⟩ hl
  (fun j u v hu hv'=>.data (hv j u v hu hv'))).mono fun e w' h=>?_
 obtain⟨v,r,β',L',he,hsat',hst,hvr,rfl,hR⟩:=h
 exact⟨v,r,β',he,hst.below,hvr,hR⟩

theorem J91 {w:World}:∀ b i,b < w.heap.size→Jt w ⟨fun _=>none,fun _ _=>False⟩ [] b i:=fun _ _ h=>⟨h,fun h=>h,fun id o h=>by simp [lk] at h⟩

section
variable {P:Program} {M n:Nat} {t e:TypeId} {us:List AV}
theorem Rd8 (h:G08 P M (n+1) t us) (ht:P.underlying t=some .bool):∃ b:Bool,True∧us=[BL b]:=by
 unfold G08 at h; rw [ht] at h
 obtain⟨b,rfl⟩:=h
 exact⟨b,trivial,rfl⟩
theorem Qe3 {k:IntKind} (h:G08 P M (n+1) t us) (ht:P.underlying t=some (.int k)):∃ z:Int,(Lit.int k z).wf=true∧us=[.sc (.int k z)]:=by
 unfold G08 at h; rw [ht] at h
 obtain⟨z,rfl,hz⟩:=h
 exact⟨z,hz,rfl⟩
theorem J6c {α:Type} {av:α→AV} {ok:α→Prop} {k:Nat} (h:G08 P M (n+1) t us) (ht:P.underlying t=some (.slice e)) (hk:P.cellsOf e=k)
  (hel:∀ us,G08 P M n e us→∃ x,ok x∧H89 P e us=av x):∃ xs:List α,((∀ x∈xs,ok x)∧xs.length≤M)∧us=[LS k av xs]:=by
 unfold G08 at h; rw [ht] at h
 obtain⟨xss,rfl,hl,hx⟩:=h
 have key:∀ (l:List (List AV)),(∀ xs∈l,G08 P M n e xs)→∃ xs:List α,(∀ x∈xs,ok x)∧xs.length=l.length∧l.map (H89 P e)=xs.map av:=by
  intro l
  induction l with
  | nil=>exact fun _=>⟨[],⟨fun x hx=>(List.not_mem_nil hx).elim,rfl,rfl⟩⟩
  | cons a l ih=>
   intro hl
   obtain⟨x,h1,h2⟩:=hel a (hl a (List.mem_cons_self ..))
   obtain⟨xs,h3,h4,h5⟩:=ih (fun y hy=>hl y (List.mem_cons_of_mem _ hy))
   refine⟨x::xs,fun y hy=>?_,by simp [h4],by simp [h2,h5]⟩
   rcases List.mem_cons.1 hy with rfl | hy
   ·exact h1
   ·exact h3 y hy
 obtain⟨xs,h1,h2,h3⟩:=key xss hx
 exact⟨xs,⟨h1,by rw [h2]; exact hl⟩,by rw [hk,h3]⟩
theorem Hd7 {fs:Array Field} (h:G08 P M (n+1) t us) (ht:P.underlying t=some (.struct fs)):Q38 P (G08 P M n) fs.toList us:=by
 unfold G08 at h; rw [ht] at h
 exact h
theorem Rf7 {fs:Array Field} (ht:P.underlying t=some (.struct fs)):H89 P t us=.agg us:=by
 unfold H89 isAgg; rw [ht]; rfl
theorem R29 {u:AV} (ht:isAgg P t=false):H89 P t [u]=u:=by
 unfold H89; rw [ht]; rfl
end

theorem u8r {z:Int} (h:(Lit.int .u8 z).wf=true):0≤z∧z≤255:=by
 simp only [Lit.wf,Bool.and_eq_true,decide_eq_true_eq] at h
 exact h
end Go.Proofs.YtidpfkmbfgihlaaGreat
namespace Go.Proofs.YtidpfkmbfgihlaaGreat
open Go.RowKit

def Z3d (P:Program) (l:Fr) (L:Loc):ResultVar→AV→Prop
 | .tmp t,u=>look l t=u
 | .cell t T,u=>∃ i tt cs k,look l t=.ptr i 0∧lk L i=some (.box tt cs)∧cs.length=k∧((Gf2 P T k=true∧u=.agg cs)∨(Y4 P T=true∧cs[0]? = some u))
inductive Y34 (ok:Nat→Bool):AV→AV→Prop
 | conv {u u':AV} (h:Conv ok u u'):Y34 ok u u'
 | agg {cs cs':List AV} (h:J04 ok cs cs'):Y34 ok (.agg cs) (.agg cs')
def Rfe (P:Program) (l:Fr) (L:Loc) (ok:Nat→Bool):List ResultVar→List AV→Prop
 | [],[]=>True
 | rv::r,u'::s=>(∃ u,Z3d P l L rv u∧Y34 ok u u')∧Rfe P l L ok r s
 | _,_=>False
def Y84:List AV→AV
 | [u]=>u
 | us=>.tup us
def Ye3 (P:Program) (B:List Nat) (rvs:List ResultVar) (R:AV→Loc→Prop):Fr→Loc→Prop:=
 fun l L=>∃ us L',H01 (fun i=>(lk L' i).isSome) L L'∧allIn L' B=true∧Rfe P l L (fun i=>(lk L' i).isSome) rvs us∧R (Y84 us) L'

theorem V.convA {w:World} {β:H4} {L L':Loc} (hd:J82 L L') {u u':AV} {v:Value} (h:V w β L u v) (hc:Y34 (fun i=>(lk L' i).isSome) u u'):V w β L' u' v:=by
 cases hc with
 | conv hc=>exact h.conv hd hc
 | @agg cs cs' hc=>
  obtain⟨vs,rfl,hl,hv⟩:=h.inv_agg
  exact .agg (hl.trans hc.length) (fun j u' v hu hvj=>by
   have hj:j < vs.size:=(Array.getElem?_eq_some_iff.1 hvj).1
   obtain⟨u,hu0⟩:∃ u,cs[j]? = some u:=⟨_,List.getElem?_eq_getElem (hl ▸ hj)⟩
   exact(hv j u v hu0 hvj).conv hd (hc.get j u u' hu0 hu))

def Jd3 (a:Act):ResultVar→Sem Value
 | .tmp t=>pure (a.tmps.getD t undef)
 | .cell q t=>do loadVar t (← asAddr (a.tmps.getD q undef))
theorem Y12 {P:Program} {w:World} {β:H4} {L L':Loc} {l:Fr} {a:Act} (hsat:Sat w β L) (hf:Q8 a w β L l) (hd:J82 L L') :
  ∀ {rvs:List ResultVar} {us:List AV},Rfe P l L (fun i=>(lk L' i).isSome) rvs us →
  ∃ vs:List Value,(rvs.mapM (Jd3 a)).run P w=.ok vs w∧vs.length=us.length ∧
   ∀ (j:Nat) u v,us[j]? = some u→vs[j]? = some v→V w β L' u v
 | [],[],_=>⟨[],by simp,rfl,fun j u v hu=>by simp at hu⟩
 | rv::r,u'::s,⟨⟨u,hu,hc⟩,h⟩=>by
  obtain⟨vs,h1,h2,h3⟩:=Y12 (P:=P) hsat hf hd (rvs:=r) (us:=s) h
  have key:∃ v,(Jd3 a rv).run P w=.ok v w∧V w β L u v:=by
   cases rv with
   | tmp t=>
    refine⟨_,rfl,?_⟩
    have:=hf.tmp t
    rw [show look l t=u from hu] at this
    exact this
   | cell q T=>
    obtain⟨i,tt,cs,k,e1,e2,e3,e4⟩:=hu
    have hv:=hf.tmp q
    rw [e1] at hv
    obtain⟨b,hb,he⟩:=hv.inv_ptr
    obtain⟨xs,x1,x2,x3⟩:=J27 hsat e2 hb
    rcases e4 with ⟨e4,rfl⟩ | ⟨e4,e5⟩
    ·refine⟨.agg xs,?_,.agg x2 x3⟩
     have:=Q0e (w:=w) e4 x1 (x2.trans e3)
     simp only [Jd3,he,asAddr,Sem.run_bind,Sem.run_pure,Result.andThen_ok]
     exact this
    ·have hlt:0 < xs.size:=by
      have:=(List.getElem?_eq_some_iff.1 e5).1
      omega
     refine⟨xs[0],?_,x3 0 u _ e5 (by simp [hlt])⟩
     have h5:=Gbd (P:=P) (T:=T) (b:=b) (o':=0) (v:=xs[0]) e4 (w:=w) (by simp [World.cell?,x1,hlt])
     simp only [Jd3,he,asAddr,Sem.run_bind,Sem.run_pure,Result.andThen_ok]
     simpa [Instr.loadAt,Instr.sureAddr,asAddr] using h5
  obtain⟨v,k1,k2⟩:=key
  refine⟨v::vs,?_,by simp [h2],fun j u0 v0 hu0 hv0=>?_⟩
  ·rw [List.mapM_cons,Sem.run_bind,k1,Result.andThen_ok,Sem.run_bind,h1,Result.andThen_ok]
   rfl
  ·cases j with
   | zero=>simp at hu0 hv0; subst hu0 hv0; exact k2.convA hd hc
   | succ j=>simp at hu0 hv0; exact h3 j u0 v0 hu0 hv0
 | [],_::_,h=>h.elim
 | _::_,[],h=>h.elim

theorem Q9 {P:Program} {f:FuncId} {fn:Func} {c:Code} {args:List AV} {L0:Loc} {R:AV→Loc→Prop} (base:List Nat) (rvs:List ResultVar) (hf:P.funcs[f]? = some fn) (hb:fn.body=some c) (hres:fn.results=rvs.toArray)
  (hbase:∀ id,(lk L0 id).isSome=true→id∈base) (h:JC P ⟨fn.ntmps,base,none⟩ c (.fin (Ye3 P base rvs R)) (H0e 0 args) L0):Jg P f args L0 R:=
 Hed hf hb hbase (fun w0 β0 a w β l L hs hq=>by
  obtain⟨us,L',q1,q2,q3,q4⟩:=hq
  have hfit:Fits base l L [] L':=⟨trivial,q1,q2⟩
  have hs':=hs.fits hfit
  obtain⟨vs,h1,h2,h3⟩:=Y12 hs.sat hs.frame hfit.drop q3
  have hrun:(results fn a.tmps).run P w=.ok (if h:vs.toArray.size=1 then vs.toArray[0] else .tuple vs.toArray) w:=by
   have e:results fn a.tmps=(do let vs ← fn.results.mapM (Jd3 a); pure (if h:vs.size=1 then vs[0] else .tuple vs)):=by
    unfold results
    refine congrArg (fun g=>bind (Array.mapM g fn.results) _) ?_
    funext rv
    cases rv <;> rfl
   rw [e,hres,List.mapM_toArray,Sem.run_bind]
   rw [show (List.toArray <$> List.mapM (Jd3 a) rvs:Sem (Array Value)).run P w=.ok vs.toArray w from by
    rw [map_eq_pure_bind,Sem.run_bind,h1,Result.andThen_ok]; rfl]
   rfl
  refine⟨_,Y84 us,L',hrun,hs'.sat,hs'.step,?_,q4⟩
  match us,vs,h2,h3 with
  | [u],[v],_,h3=>simpa [Y84] using h3 0 u v rfl rfl
  | [],[],_,h3=>exact .tup rfl (fun j u v hu=>by simp at hu)
  | u::u2::us,v::v2::vs,h2,h3=>
   have:¬ (v::v2::vs).toArray.size=1:=by simp
   rw [dif_neg this]
   exact .tup (by simpa using h2) (fun j u v hu hv=>h3 j u v hu (by simpa using hv))) h

theorem Gy {P:Program} {f:FuncId} {fn:Func} {c:Code} {args:List AV} {R:AV→Prop} (rvs:List ResultVar) (hf:P.funcs[f]? = some fn) (hb:fn.body=some c) (hres:fn.results=rvs.toArray)
  (h:JC P ⟨fn.ntmps,[],none⟩ c (.fin (Ye3 P [] rvs (fun r L'=>L'=[]∧R r))) (H0e 0 args) []):Pure P f args R:=Q9 [] rvs hf hb hres Y85 h
theorem fin1 {P:Program} {t:Tmp} {α:Type} {l:Fr} {L:Loc} (f:α→AV) {a r:α} (h:some a=some r) (hc:Conv (fun i=>(lk [] i).isSome) (look l t) (f a):=by exact .same rfl):Ye3 P [] [.tmp t] (fun u L'=>L'=[]∧u=f r) l L:=
 ⟨[f a],[],trivial,rfl,⟨⟨_,rfl,.conv hc⟩,trivial⟩,rfl,congrArg f (Option.some.inj h)⟩
theorem fin1l {P:Program} {t:Tmp} {α:Type} {l:Fr} {L:Loc} (f:α→AV) {a r:α} (h:some a=some r) (hc:Conv (fun i=>(lk [] i).isSome) (look l t) (f a):=by exact .list rfl):Ye3 P [] [.tmp t] (fun u L'=>L'=[]∧u=f r) l L:=fin1 f h hc
end Go.Proofs.YtidpfkmbfgihlaaGreat
