/-
 From the reading of an argument as data to the walks' abstract values: what a given statement says of its arguments,in the walks' words; and back: what a walk without lent objects leaves of the world.
-/
import Derived.Test.YtecjdioomlhhiaaGreatExt
import Derived.ChangeArms
import Derived.ChangeOld
import Derived.Below
import Derived.JoinedOf
import Derived.JoinedAt
namespace Go.Proofs.YtecjdioomlhhiaaGreat
open Go.RowKit

def Rd (w:World) (S:Nat→Nat→Prop) (us:List AV) (cs:List Value):Prop:=
 cs.length=us.length∧∀ (j:Nat) u v,us[j]? = some u→cs[j]? = some v→D w S u v

def isAgg (P:Program) (t:TypeId):Bool:=match P.underlying t with
 | some (.struct _)=>true
 | _=>false

def H4d (P:Program) (t:TypeId) (us:List AV):AV:=bif isAgg P t then .agg us else us.headD .junk

def R9d (P:Program) (ok:TypeId→Bool):List Field→Nat→Nat→Bool
 | [],off,tot=>Nat.beq off tot
 | f::fs,off,tot=>Nat.beq f.offset off&&ok f.type&&R9d P ok fs (off+P.cellsOf f.type) tot

def Jf4 (P:Program):Nat→TypeId→Bool
 | 0,_=>false
 | n+1,t=>match P.underlying t with
  | some .bool=>true
  | some .string=>true
  | some (.int _)=>true
  | some (.slice e)=>Nat.blt 0 (P.cellsOf e)&&Jf4 P n e
  | some (.struct fs)=>R9d P (Jf4 P n) fs.toList 0 (P.cellsOf t)
  | _=>false

def Jb5 (P:Program) (F:TypeId→List AV→Prop):List Field→List AV→Prop
 | [],us=>us=[]
 | f::fs,us=>∃ a b,us=a++b∧a.length=P.cellsOf f.type∧F f.type a∧Jb5 P F fs b

def Y6 (P:Program) (M:Nat):Nat→TypeId→List AV→Prop
 | 0,_,_=>False
 | n+1,t,us=>match P.underlying t with
  | some .bool=>∃ b,us=[.sc (.bool b)]
  | some .string=>∃ s:ByteArray,us=[.sc (.string s)]∧s.size≤maxLen
  | some (.int k)=>∃ z,us=[.sc (.int k z)]∧(Lit.int k z).wf=true
  | some (.slice e)=>∃ xss:List (List AV),us=[.list (P.cellsOf e) (xss.map (H4d P e))]∧xss.length≤M∧∀ xs∈xss,Y6 P M n e xs
  | some (.struct fs)=>Jb5 P (Y6 P M n) fs.toList us
  | _=>False

theorem Rd.append {w:World} {S:Nat→Nat→Prop} {us us':List AV} {cs cs':List Value} (h:Rd w S us cs) (h':Rd w S us' cs'):Rd w S (us++us') (cs++cs'):=by
 refine⟨by simp [h.1,h'.1],fun j u v hu hv=>?_⟩
 by_cases hj:j < us.length
 ·rw [List.getElem?_append_left hj] at hu
  rw [List.getElem?_append_left (by rw [h.1]; exact hj)] at hv
  exact h.2 j u v hu hv
 ·rw [List.getElem?_append_right (by omega)] at hu
  rw [List.getElem?_append_right (by rw [h.1]; omega),h.1] at hv
  exact h'.2 _ u v hu hv

theorem R5e {P:Program} {ok:TypeId→Bool}:∀ {fs:List Field} {off tot:Nat},R9d P ok fs off tot=true→off≤tot
 | [],_,_,h=>Nat.le_of_eq (Nat.eq_of_beq_eq_true h)
 | _::fs,_,_,h=>by
  simp only [R9d,Bool.and_eq_true] at h
  have:=R5e h.2
  omega

theorem R6c {P:Program} {w:World} {S:Nat→Nat→Prop} {ok:TypeId→Bool} {F:TypeId→List AV→Prop} {cs:List Value} :
  ∀ {fs:List Field} {off tot:Nat},R9d P ok fs off tot=true→cs.length=tot →
   (∀ f∈fs,ok f.type=true→∃ us,F f.type us∧Rd w S us ((cs.drop f.offset).take (P.cellsOf f.type)))→∃ us,Jb5 P F fs us∧Rd w S us (cs.drop off)
 | [],off,tot,h,hl,_=>by
  have:=Nat.eq_of_beq_eq_true h
  refine⟨[],rfl,?_,fun j u v hu=>by cases hu⟩
  rw [List.length_drop,hl,this]; simp
 | f::fs,off,tot,h,hl,hf=>by
  simp only [R9d,Bool.and_eq_true] at h
  obtain⟨⟨h1,h2⟩,h3⟩:=h
  have h1:=Nat.eq_of_beq_eq_true h1
  obtain⟨us1,f1,r1⟩:=hf f (List.mem_cons_self ..) h2
  obtain⟨us2,f2,r2⟩:=R6c h3 hl (fun g hg=>hf g (List.mem_cons_of_mem _ hg))
  rw [h1] at r1
  have hle:=R5e h3
  refine⟨us1++us2,⟨us1,us2,rfl,?_,f1,f2⟩,?_⟩
  ·rw [← r1.1,List.length_take,List.length_drop]; omega
  ·have e:cs.drop off=(cs.drop off).take (P.cellsOf f.type)++cs.drop (off+P.cellsOf f.type):=by
    rw [← List.drop_drop,List.take_append_drop]
   rw [e]
   exact r1.append r2

theorem Q03 {P:Program} {M n:Nat} {t:TypeId} {us:List AV} (h:Y6 P M n t us):(H4d P t us).cells=us:=by
 cases n with
 | zero=>exact h.elim
 | succ n=>
  unfold Y6 at h
  unfold H4d isAgg
  revert h
  split
  ·rintro⟨b,rfl⟩; simp_all [AV.cells]
  ·rintro⟨b,rfl,_⟩; simp_all [AV.cells]
  ·rintro⟨b,rfl,_⟩; simp_all [AV.cells]
  ·rintro⟨xss,rfl,_⟩; simp_all [AV.cells]
  ·intro _; simp_all [AV.cells]
  ·intro h; exact h.elim

theorem cell_spot {w:World} {a:Addr} {v:Value} (h:w.cell? a=some v):a.spot=none:=by
 cases hs:a.spot with
 | none=>rfl
 | some s=>
  unfold World.cell? at h
  split at h
  ·rw [hs] at h; simp at h
  ·cases h

theorem Y04 {w:World} {a:Addr} {v:Value} (h:w.cell? a=some v):a.block < w.heap.size:=by
 unfold World.cell? at h
 split at h
 ·rename_i hh
  exact(Array.getElem?_eq_some_iff.1 hh).1
 ·cases h

theorem Qd8 {α β:Type} {f:α→Option β}:∀ {l:List α} {r:List β},l.mapM f=some r→r.length=l.length∧∀ (i:Nat) x,l[i]? = some x→f x=r[i]?
 | [],r,h=>by
  simp at h; subst h
  exact⟨rfl,fun i x hx=>by cases hx⟩
 | x::l,r,h=>by
  rw [List.mapM_cons] at h
  cases hx:f x with
  | none=>rw [hx] at h; cases h
  | some y=>
   rw [hx] at h
   cases hl:l.mapM f with
   | none=>rw [hl] at h; cases h
   | some r'=>
    rw [hl] at h
    cases h
    obtain⟨h1,h2⟩:=Qd8 hl
    refine⟨by simp [h1],fun i z hz=>?_⟩
    cases i with
    | zero=>simp at hz; subst hz; simpa using hx
    | succ i=>simpa using h2 i z (by simpa using hz)

theorem J6a {w:World} {base:Nat} {a:Addr} {n:Nat} {cs:List Value} (h:w.cells? base a n=some cs):cs.length=n∧∀ j,j < n→w.cell? (a.add j)=cs[j]? := by
 unfold World.cells? at h
 split at h
 ·obtain⟨h1,h2⟩:=Qd8 h
  exact⟨by simpa using h1,fun j hj=>h2 j j (by simp [hj])⟩
 ·cases h

theorem Q86 {b off:Nat} (i:Nat):Addr.add ⟨b,off,none⟩ i=⟨b,off+i,none⟩:=by
 unfold Addr.add
 split <;> simp_all

section
variable {H:Type} {enc:TypeId×Value→H} {P:Program} {w:World} {base:Nat} {spare:Nat→Bool} {held:Bool} {S:Nat→Nat→Prop}

theorem R43 {M n:Nat} {e:TypeId} {a:Addr} {len cap:Nat} (hS:∀ b i,b < w.heap.size→S b i) (hk:0 < P.cellsOf e) (hl:len≤cap) (hm:cap≤maxLen)
  (hel:∀ i,i < len→∃ us cs,Y6 P M n e us∧Rd w S us cs∧w.cells? base (a.add (i*P.cellsOf e)) (P.cellsOf e)=some cs) :
  ∃ xss:List (List AV),xss.length=len∧(∀ xs∈xss,Y6 P M n e xs)∧D w S (.list (P.cellsOf e) (xss.map (H4d P e))) (.slice (some a) len cap):=by
 have hel':∀ i,∃ us,i < len→∃ cs,Y6 P M n e us∧Rd w S us cs∧w.cells? base (a.add (i*P.cellsOf e)) (P.cellsOf e)=some cs:=fun i=>by
  by_cases hi:i < len
  ·obtain⟨us,cs,h⟩:=hel i hi
   exact⟨us,fun _=>⟨cs,h⟩⟩
  ·exact⟨[],fun h=>(hi h).elim⟩
 obtain⟨f,hf⟩:=Classical.skolem.1 hel'
 refine⟨(List.range len).map f,by simp,?_,?_⟩
 ·intro xs hx
  obtain⟨i,hi,rfl⟩:=List.mem_map.1 hx
  obtain⟨cs,h,_⟩:=hf i (List.mem_range.1 hi)
  exact h
 cases len with
 | zero=>exact .nil hm
 | succ len=>
  obtain⟨cs0,_,_,hc0⟩:=hf 0 (Nat.succ_pos _)
  obtain⟨l0,g0⟩:=J6a hc0
  have g00:=g0 0 hk
  have hx:∃ v,cs0[0]? = some v:=⟨cs0[0],by simp⟩
  obtain⟨v0,hv0⟩:=hx
  rw [hv0] at g00
  have hsp:a.spot=none:=by
   have:=cell_spot g00
   unfold Addr.add at this
   simpa using this
  obtain⟨b,off,sp⟩:=a
  subst hsp
  have hb:b < w.heap.size:=by
   have:=Y04 g00
   simpa [Q86] using this
  have hcl:∀ x∈((List.range (len+1)).map f).map (H4d P e),x.cells.length=P.cellsOf e:=by
   intro x hx
   obtain⟨us,hu,rfl⟩:=List.mem_map.1 hx
   obtain⟨i,hi,rfl⟩:=List.mem_map.1 hu
   obtain⟨cs,h1,h2,h3⟩:=hf i (List.mem_range.1 hi)
   rw [Q03 h1,← h2.1,(J6a h3).1]
  have hlen:(((List.range (len+1)).map f).map (H4d P e)).length=len+1:=by simp
  have hflat:∀ J,J < (flat (((List.range (len+1)).map f).map (H4d P e))).length→∃ u v,(flat (((List.range (len+1)).map f).map (H4d P e)))[J]? = some u∧w.cell? ⟨b,off+J,none⟩=some v∧D w S u v:=by
   intro J hJ
   rw [Jd hcl,hlen] at hJ
   have hi:J / P.cellsOf e < len+1:=(Nat.div_lt_iff_lt_mul hk).2 hJ
   have hj:J % P.cellsOf e < P.cellsOf e:=Nat.mod_lt _ hk
   have hJ':J / P.cellsOf e*P.cellsOf e+J % P.cellsOf e=J:=by
    rw [Nat.mul_comm]; exact Nat.div_add_mod J _
   obtain⟨cs,h1,h2,h3⟩:=hf _ hi
   obtain⟨l1,g1⟩:=J6a h3
   have hx:(((List.range (len+1)).map f).map (H4d P e))[J / P.cellsOf e]? = some (H4d P e (f (J / P.cellsOf e))):=by
    rw [List.getElem?_map,List.getElem?_map,List.getElem?_range hi]; rfl
   have hfl:=Q80 hcl hx _ hj
   rw [hJ',Q03 h1] at hfl
   have hul:(f (J / P.cellsOf e)).length=P.cellsOf e:=by rw [← h2.1,l1]
   have hu:(f (J / P.cellsOf e))[J % P.cellsOf e]? = some ((f (J / P.cellsOf e))[J % P.cellsOf e]'(by rw [hul]; exact hj)):=by simp
   have hv:cs[J % P.cellsOf e]? = some (cs[J % P.cellsOf e]'(by rw [l1]; exact hj)):=by simp
   refine⟨_,_,hfl.trans hu,?_,h2.2 _ _ _ hu hv⟩
   have:=g1 _ hj
   rw [Q86,Q86,Nat.add_assoc,hJ',hv] at this
   exact this
  have hD:=D.list (w:=w) (S:=S) (k:=P.cellsOf e) (b:=b) (off:=off) (cap:=cap) (xs:=((List.range (len+1)).map f).map (H4d P e)) (fun J=>(w.cell? ⟨b,off+J,none⟩).getD undef) (by rw [hlen]; exact hl) hm hcl
   (fun J hJ=>by
    obtain⟨u,v,_,hv,_⟩:=hflat J hJ
    exact⟨hS _ _ hb,by rw [hv]; rfl⟩)
   (fun J u hu=>by
    have hJ:J < (flat (((List.range (len+1)).map f).map (H4d P e))).length:=(List.getElem?_eq_some_iff.1 hu).1
    obtain⟨u',v,hu',hv,hd⟩:=hflat J hJ
    rw [hu] at hu'
    cases hu'
    rw [hv]; exact hd)
  rw [hlen] at hD
  exact hD

structure J53 (H:Type) (M:Nat) (small:DataW H→Prop):Prop where
 slice:∀ elems spare,small (.slice elems spare)→elems.length≤maxLen→elems.length≤M∧∀ e∈elems,small e
 agg:∀ parts,small (.agg parts)→∀ p∈parts,small p
theorem J53.all {H:Type}:J53 H maxLen (fun _=>True):=⟨fun _ _ _ h=>⟨h,fun _ _=>trivial⟩,fun _ _ _ _=>trivial⟩
theorem Hb3 (hS:∀ b i,b < w.heap.size→S b i) {M:Nat} {small:DataW H→Prop} (hsm:J53 H M small):∀ (n:Nat) (t:TypeId) (fuel:Nat) (cs:List Value) (x:DataW H×List MemPlace),Jf4 P n t=true →
  DataW.trod enc P w base spare held fuel t cs=some x→small x.1→∃ us,Y6 P M n t us∧Rd w S us cs
 | 0,_,_,_,_,h,_,_=>by cases h
 | n+1,t,fuel,cs,x,h,hx,hxs=>by
  unfold Jf4 at h
  unfold Y6
  have one:∀ {u:AV} {v:Value},D w S u v→Rd w S [u] [v]:=fun {u v} hd=>⟨rfl,fun j u' v' hu hv=>by
   cases j with
   | zero=>simp at hu hv; subst hu; subst hv; exact hd
   | succ j=>cases hu⟩
  revert h
  split
  ·rename_i ht
   intro _
   obtain⟨b,rfl,_⟩:=DataW.trod_bool ht hx
   exact⟨_,⟨b,rfl⟩,one .sc⟩
  ·rename_i ht
   intro _
   obtain⟨s,rfl,_,hs⟩:=DataW.trod_string ht hx
   exact⟨_,⟨s,rfl,hs⟩,one .sc⟩
  ·rename_i k ht
   intro _
   obtain⟨z,rfl,_,hz⟩:=DataW.trod_int ht hx
   exact⟨_,⟨z,rfl,hz⟩,one .sc⟩
  ·rename_i e ht
   intro h
   rw [Bool.and_eq_true] at h
   have hk:0 < P.cellsOf e:=Eq.mp Nat.blt_eq h.1
   rcases DataW.trod_slice ht hx with ⟨rfl,_⟩ | ⟨a,len,cap,elems,rest,m,_,rfl,hx1,hb,hl,hm,hlen,hel,_,_⟩
   ·exact⟨_,⟨[],rfl,Nat.zero_le _,fun xs hx=>by cases hx⟩,one (.nil (Nat.zero_le _))⟩
   ·rw [hx1] at hxs
    obtain⟨hM,hsub⟩:=hsm.slice _ _ hxs (by rw [List.length_map,hlen]; exact Nat.le_trans hl hm)
    rw [List.length_map,hlen] at hM
    obtain⟨xss,h1,h2,h3⟩:=R43 (P:=P) (base:=base) (n:=n) (e:=e) (a:=a) (len:=len) (cap:=cap) hS hk hl hm (fun i hi=>by
     have he:=hel i hi
     rw [List.getElem?_eq_getElem (by rw [hlen]; exact hi)] at he
     obtain⟨cs',hc,ht'⟩:=Option.bind_eq_some_iff.1 he
     obtain⟨us,hf,hr⟩:=Hb3 hS hsm n e m cs' _ h.2 ht' (hsub _ (List.mem_map.2 ⟨_,List.getElem_mem _,rfl⟩))
     exact⟨us,cs',hf,hr,hc⟩)
    exact⟨_,⟨xss,rfl,by rw [h1]; exact hM,h2⟩,one h3⟩
  ·rename_i fs ht
   intro h
   obtain⟨xs,m,_,hx1,hl,hlen,hf⟩:=DataW.trod_struct ht hx
   rw [hx1] at hxs
   have hsub:=hsm.agg _ hxs
   obtain⟨us,h1,h2⟩:=R6c (w:=w) (S:=S) (F:=Y6 P M n) h hl (fun f hf' hok=>by
    obtain⟨i,hi⟩:=List.mem_iff_getElem?.1 hf'
    have hi':fs[i]? = some f:=by simpa using hi
    have:=hf i f hi'
    have hlt:i < xs.length:=by rw [hlen]; exact(Array.getElem?_eq_some_iff.1 hi').1
    rw [List.getElem?_eq_getElem hlt] at this
    exact Hb3 hS hsm n f.type m _ _ hok this (hsub _ (List.mem_map.2 ⟨_,List.getElem_mem hlt,rfl⟩)))
   exact⟨us,h1,by simpa using h2⟩
  ·intro h; cases h

theorem H8b (hS:∀ b i,b < w.heap.size→S b i) {M:Nat} {small:DataW H→Prop} (hsm:J53 H M small) {n:Nat} {t:TypeId} {r:Reach} {b0:Nat} {v:Value} {d:DataW H} {ps:List MemPlace} (hok:Jf4 P n t=true)
  (hval:Value.okWide P w r b0 t v) (hd:DataW.Trod enc P w base spare held t v d ps) (hds:small d):∃ us,Y6 P M n t us∧D w S (H4d P t us) v:=by
 obtain⟨fuel,hf⟩:=hd
 obtain⟨us,h1,h2⟩:=Hb3 hS hsm n t fuel _ _ hok hf hds
 refine⟨us,h1,?_⟩
 have single:∀ {u:AV},us=[u]→isAgg P t=false→v.cells.toList=[v]→D w S (H4d P t us) v:=fun {u} hu ha hv=>by
  subst hu
  unfold H4d
  rw [ha]
  rw [hv] at h2
  exact h2.2 0 _ _ rfl rfl
 cases n with
 | zero=>exact h1.elim
 | succ n=>
  unfold Y6 at h1
  revert h1
  split
  ·rename_i ht
   rintro⟨b,e⟩
   obtain⟨b',rfl⟩:=Go.WideShapes.okWide_bool ht hval
   exact single e (by simp [isAgg,ht]) (by simp [Value.cells])
  ·rename_i ht
   rintro⟨b,e,_⟩
   obtain⟨b',rfl⟩:=Go.WideShapes.okWide_string ht hval
   exact single e (by simp [isAgg,ht]) (by simp [Value.cells])
  ·rename_i ht
   rintro⟨b,e,_⟩
   obtain⟨b',rfl⟩:=Go.WideShapes.okWide_int ht hval
   exact single e (by simp [isAgg,ht]) (by simp [Value.cells])
  ·rename_i ht
   rintro⟨b,e,_⟩
   obtain⟨a,l,c,rfl⟩:=Go.WideShapes.okWide_slice ht hval
   exact single e (by simp [isAgg,ht]) (by simp [Value.cells])
  ·rename_i fs ht
   intro _
   obtain⟨cs,rfl,_⟩:=Go.WideShapes.okWide_struct ht hval
   unfold H4d
   rw [show isAgg P t=true by simp [isAgg,ht]]
   refine .agg ?_ (fun j u v hu hv=>h2.2 j u v hu ?_)
   ·simpa [Value.cells] using h2.1
   ·simpa [Value.cells] using hv
  ·intro h; exact h.elim

end

theorem Step.below {w w':World} {β β':H5} {L':Loc} (h:Step w β [] w' β' L'):Below w.heap.size w w':=
 ⟨h.os,h.tape,h.output.1,h.size,fun k hk=>(h.far k hk (fun id hi=>by simp [lk] at hi)).1⟩

theorem Rf8 {P:Program} {f:FuncId} {args:List AV} {R:AV→Prop} (hc:Pure P f args R) {w:World} {vs:Array Value} (hl:vs.size=args.length)
  (hv:∀ (j:Nat) u v,args[j]? = some u→vs[j]? = some v→D w (Jy w ⟨fun _=>none,fun _ _=>False⟩ []) u v) :
  Calls P f vs w fun e w'=>∃ v r β' ,e=.returned v∧Below w.heap.size w w'∧V w' β' [] r v∧R r:=by
 refine(hc w ⟨fun _=>none,fun _ _=>False⟩ vs ⟨fun b i h=>h.elim,fun id b h=>by simp [lk] at h,fun id b j h=>by simp [lk] at h,fun id id' b h=>by simp [lk] at h,fun id o h=>by simp [lk] at h⟩ hl
  (fun j u v hu hv'=>.data (hv j u v hu hv'))).mono fun e w' h=>?_
 obtain⟨v,r,β',L',he,hsat',hst,hvr,rfl,hR⟩:=h
 exact⟨v,r,β',he,hst.below,hvr,hR⟩

theorem H81 {w:World}:∀ b i,b < w.heap.size→Jy w ⟨fun _=>none,fun _ _=>False⟩ [] b i:=fun _ _ h=>⟨h,fun h=>h,fun id o h=>by simp [lk] at h⟩

section
variable {P:Program} {M n:Nat} {t e:TypeId} {us:List AV}
theorem R2f (h:Y6 P M (n+1) t us) (ht:P.underlying t=some .bool):∃ b:Bool,True∧us=[BL b]:=by
 unfold Y6 at h; rw [ht] at h
 obtain⟨b,rfl⟩:=h
 exact⟨b,trivial,rfl⟩
theorem Q75 (h:Y6 P M (n+1) t us) (ht:P.underlying t=some .string):∃ s:ByteArray,s.size≤maxLen∧us=[ST s]:=by
 unfold Y6 at h; rw [ht] at h
 obtain⟨s,rfl,hs⟩:=h
 exact⟨s,hs,rfl⟩
theorem Q44 {k:IntKind} (h:Y6 P M (n+1) t us) (ht:P.underlying t=some (.int k)):∃ z:Int,(Lit.int k z).wf=true∧us=[.sc (.int k z)]:=by
 unfold Y6 at h; rw [ht] at h
 obtain⟨z,rfl,hz⟩:=h
 exact⟨z,hz,rfl⟩
theorem G83 {α:Type} {av:α→AV} {ok:α→Prop} {k:Nat} (h:Y6 P M (n+1) t us) (ht:P.underlying t=some (.slice e)) (hk:P.cellsOf e=k)
  (hel:∀ us,Y6 P M n e us→∃ x,ok x∧H4d P e us=av x):∃ xs:List α,((∀ x∈xs,ok x)∧xs.length≤M)∧us=[LS k av xs]:=by
 unfold Y6 at h; rw [ht] at h
 obtain⟨xss,rfl,hl,hx⟩:=h
 have key:∀ (l:List (List AV)),(∀ xs∈l,Y6 P M n e xs)→∃ xs:List α,(∀ x∈xs,ok x)∧xs.length=l.length∧l.map (H4d P e)=xs.map av:=by
  intro l
  induction l with
  | nil=>exact fun _=>⟨[],⟨fun x hx=>(List.not_mem_nil hx).elim,rfl,rfl⟩⟩
  | cons a l ih=>
   intro hl
   obtain⟨x,h1,h2⟩:=hel a (hl a (List.mem_cons_self ..))
   obtain⟨xs,h3,h4,h5⟩:=ih (fun y hy=>hl y (List.mem_cons_of_mem _ hy))
   refine⟨x::xs,fun y hy=>?_,by simp [h4],by simp [h2,h5]⟩
   rcases List.mem_cons.1 hy with rfl | hy
   ·exact h1
   ·exact h3 y hy
 obtain⟨xs,h1,h2,h3⟩:=key xss hx
 exact⟨xs,⟨h1,by rw [h2]; exact hl⟩,by rw [hk,h3]⟩
theorem G05 {fs:Array Field} (h:Y6 P M (n+1) t us) (ht:P.underlying t=some (.struct fs)):Jb5 P (Y6 P M n) fs.toList us:=by
 unfold Y6 at h; rw [ht] at h
 exact h
theorem Hb5 {fs:Array Field} (ht:P.underlying t=some (.struct fs)):H4d P t us=.agg us:=by
 unfold H4d isAgg; rw [ht]; rfl
theorem Q06 {u:AV} (ht:isAgg P t=false):H4d P t [u]=u:=by
 unfold H4d; rw [ht]; rfl
end

theorem u8r {z:Int} (h:(Lit.int .u8 z).wf=true):0≤z∧z≤255:=by
 simp only [Lit.wf,Bool.and_eq_true,decide_eq_true_eq] at h
 exact h
end Go.Proofs.YtecjdioomlhhiaaGreat
