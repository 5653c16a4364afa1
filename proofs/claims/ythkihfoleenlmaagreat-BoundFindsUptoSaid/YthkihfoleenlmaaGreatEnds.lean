/-
 From the reading of an argument as data to the walks' abstra The ends of calls:
-/
import Derived.Test.YthkihfoleenlmaaGreatExt
import Derived.ChangeArms
import Derived.ChangeOld
import Derived.Below
import Derived.JoinedOf
import Derived.JoinedAt
namespace Go.Proofs.YthkihfoleenlmaaGreat
open Go.RowKit

def Rd (w:World) (S:Nat→Nat→Prop) (us:List AV) (cs:List Value):Prop:=
 cs.length=us.length∧∀ (j:Nat) u v,us[j]? = some u→cs[j]? = some v→D w S u v

def isAgg (P:Program) (t:TypeId):Bool:=match P.underlying t with
 | some (.struct _)=>true
 | _=>false

def nQ (P:Program) (t:TypeId) (us:List AV):AV:=bif isAgg P t then .agg us else us.headD .junk

def H88 (P:Program) (ok:TypeId→Bool):List Field→Nat→Nat→Bool
 | [],off,tot=>Nat.beq off tot
 | f::fs,off,tot=>Nat.beq f.offset off&&ok f.type&&H88 P ok fs (off+P.cellsOf f.type) tot

def H87 (P:Program):Nat→TypeId→Bool
 | 0,_=>false
 | n+1,t=>match P.underlying t with
  | some .bool=>true
  | some .string=>true
  | some (.int _)=>true
  | some (.slice e)=>Nat.blt 0 (P.cellsOf e)&&H87 P n e
  | some (.struct fs)=>H88 P (H87 P n) fs.toList 0 (P.cellsOf t)
  | _=>false

def QR (P:Program) (F:TypeId→List AV→Prop):List Field→List AV→Prop
 | [],us=>us=[]
 | f::fs,us=>∃ a b,us=a++b∧a.length=P.cellsOf f.type∧F f.type a∧QR P F fs b

def dD (P:Program) (M:Nat):Nat→TypeId→List AV→Prop
 | 0,_,_=>False
 | n+1,t,us=>match P.underlying t with
  | some .bool=>∃ b,us=[.sc (.bool b)]
  | some .string=>∃ s:ByteArray,us=[.sc (.string s)]∧s.size≤maxLen
  | some (.int k)=>∃ z,us=[.sc (.int k z)]∧(Lit.int k z).wf=true
  | some (.slice e)=>∃ xss:List (List AV),us=[.list (P.cellsOf e) (xss.map (nQ P e))]∧xss.length≤M∧∀ xs∈xss,dD P M n e xs
  | some (.struct fs)=>QR P (dD P M n) fs.toList us
  | _=>False

theorem Rd.append {w:World} {S:Nat→Nat→Prop} {us us':List AV} {cs cs':List Value} (h:Rd w S us cs) (h':Rd w S us' cs'):Rd w S (us++us') (cs++cs'):=by
 refine⟨by simp [h.1,h'.1],fun j u v hu hv=>?_⟩
 by_cases hj:j < us.length
 ·rw [P0 hj] at hu
  rw [P0 (by rw [h.1]; exact hj)] at hv
  exact h.2 j u v hu hv
 ·rw [Nz (by omega)] at hu
  rw [Nz (by rw [h.1]; omega),h.1] at hv
  exact h'.2 _ u v hu hv

theorem H58 {P:Program} {ok:TypeId→Bool}:∀ {fs:List Field} {off tot:Nat},H88 P ok fs off tot=true→off≤tot
 | [],_,_,h=>Nat.le_of_eq (Nj h)
 | _::fs,_,_,h=>by
  simp only [H88,P7] at h
  have:=H58 h.2
  omega

theorem H65 {P:Program} {w:World} {S:Nat→Nat→Prop} {ok:TypeId→Bool} {F:TypeId→List AV→Prop} {cs:List Value} :
  ∀ {fs:List Field} {off tot:Nat},H88 P ok fs off tot=true→cs.length=tot →
   (∀ f∈fs,ok f.type=true→∃ us,F f.type us∧Rd w S us ((cs.drop f.offset).take (P.cellsOf f.type)))→∃ us,QR P F fs us∧Rd w S us (cs.drop off)
 | [],off,tot,h,hl,_=>by
  have:=Nj h
  refine⟨[],rfl,?_,fun j u v hu=>by cases hu⟩
  rw [List.length_drop,hl,this]; simp
 | f::fs,off,tot,h,hl,hf=>by
  simp only [H88,P7] at h
  obtain⟨⟨h1,h2⟩,h3⟩:=h
  have h1:=Nj h1
  obtain⟨us1,f1,r1⟩:=hf f (List.mem_cons_self ..) h2
  obtain⟨us2,f2,r2⟩:=H65 h3 hl (fun g hg=>hf g (List.mem_cons_of_mem _ hg))
  rw [h1] at r1
  have h0:=H58 h3
  refine⟨us1++us2,⟨us1,us2,rfl,?_,f1,f2⟩,?_⟩
  ·rw [← r1.1,List.length_take,List.length_drop]; omega
  ·have e:cs.drop off=(cs.drop off).take (P.cellsOf f.type)++cs.drop (off+P.cellsOf f.type):=by
    rw [← List.drop_drop,List.take_append_drop]
   rw [e]
   exact r1.append r2

theorem YJ {P:Program} {M n:Nat} {t:TypeId} {us:List AV} (h:dD P M n t us):(nQ P t us).cells=us:=by
 cases n with
 | zero=>exact h.elim
 | succ n=>
  unfold dD at h
  unfold nQ isAgg
  revert h
  split
  ·rintro⟨b,rfl⟩; simp_all [AV.cells]
  ·rintro⟨b,rfl,_⟩; simp_all [AV.cells]
  ·rintro⟨b,rfl,_⟩; simp_all [AV.cells]
  ·rintro⟨xss,rfl,_⟩; simp_all [AV.cells]
  ·intro _; simp_all [AV.cells]
  ·intro h; exact h.elim

theorem cell_spot {w:World} {a:Addr} {v:Value} (h:w.cell? a=some v):a.spot=none:=by
 cases hs:a.spot with
 | none=>rfl
 | some s=>
  unfold World.cell? at h
  split at h
  ·rw [hs] at h; simp at h
  ·cases h

theorem J29 {w:World} {a:Addr} {v:Value} (h:w.cell? a=some v):a.block < w.heap.size:=by
 unfold World.cell? at h
 split at h
 ·rename_i hh
  exact(Ng hh).1
 ·cases h

theorem Gc1 {α β:Type} {f:α→Option β}:∀ {l:List α} {r:List β},l.mapM f=some r→r.length=l.length∧∀ (i:Nat) x,l[i]? = some x→f x=r[i]?
 | [],r,h=>by
  simp at h; subst h
  exact⟨rfl,fun i x hx=>by cases hx⟩
 | x::l,r,h=>by
  rw [List.mapM_cons] at h
  cases hx:f x with
  | none=>rw [hx] at h; cases h
  | some y=>
   rw [hx] at h
   cases hl:l.mapM f with
   | none=>rw [hl] at h; cases h
   | some r'=>
    rw [hl] at h
    cases h
    obtain⟨h1,h2⟩:=Gc1 hl
    refine⟨by simp [h1],fun i z hz=>?_⟩
    cases i with
    | zero=>simp at hz; subst hz; simpa using hx
    | succ i=>simpa using h2 i z (by simpa using hz)

theorem GG {w:World} {base:Nat} {a:Addr} {n:Nat} {cs:List Value} (h:w.cells? base a n=some cs):cs.length=n∧∀ j,j < n→w.cell? (a.add j)=cs[j]? := by
 unfold World.cells? at h
 split at h
 ·obtain⟨h1,h2⟩:=Gc1 h
  exact⟨by simpa using h1,fun j hj=>h2 j j (by simp [hj])⟩
 ·cases h

theorem G62 {b off:Nat} (i:Nat):Addr.add ⟨b,off,none⟩ i=⟨b,off+i,none⟩:=by
 unfold Addr.add
 split <;> simp_all

section
variable {H:Type} {enc:TypeId×Value→H} {P:Program} {w:World} {base:Nat} {spare:Nat→Bool} {held:Bool} {S:Nat→Nat→Prop}

theorem H3a {M n:Nat} {e:TypeId} {a:Addr} {len cap:Nat} (hS:∀ b i,b < w.heap.size→S b i) (hk:0 < P.cellsOf e) (hl:len≤cap) (hm:cap≤maxLen)
  (a0:∀ i,i < len→∃ us cs,dD P M n e us∧Rd w S us cs∧w.cells? base (a.add (i*P.cellsOf e)) (P.cellsOf e)=some cs) :
  ∃ xss:List (List AV),xss.length=len∧(∀ xs∈xss,dD P M n e xs)∧D w S (.list (P.cellsOf e) (xss.map (nQ P e))) (.slice (some a) len cap):=by
 have h9:∀ i,∃ us,i < len→∃ cs,dD P M n e us∧Rd w S us cs∧w.cells? base (a.add (i*P.cellsOf e)) (P.cellsOf e)=some cs:=fun i=>by
  by_cases hi:i < len
  ·obtain⟨us,cs,h⟩:=a0 i hi
   exact⟨us,fun _=>⟨cs,h⟩⟩
  ·exact⟨[],fun h=>(hi h).elim⟩
 obtain⟨f,hf⟩:=Classical.skolem.1 h9
 refine⟨(List.range len).map f,by simp,?_,?_⟩
 ·intro xs hx
  obtain⟨i,hi,rfl⟩:=Pb.1 hx
  obtain⟨cs,h,_⟩:=hf i (List.mem_range.1 hi)
  exact h
 cases len with
 | zero=>exact .nil hm
 | succ len=>
  obtain⟨cs0,_,_,a1⟩:=hf 0 (Nat.succ_pos _)
  obtain⟨l0,g0⟩:=GG a1
  have g00:=g0 0 hk
  have hx:∃ v,cs0[0]? = some v:=⟨cs0[0],by simp⟩
  obtain⟨v0,a2⟩:=hx
  rw [a2] at g00
  have a3:a.spot=none:=by
   have:=cell_spot g00
   unfold Addr.add at this
   simpa using this
  obtain⟨b,off,sp⟩:=a
  subst a3
  have hb:b < w.heap.size:=by
   have:=J29 g00
   simpa [G62] using this
  have h5:∀ x∈((List.range (len+1)).map f).map (nQ P e),x.cells.length=P.cellsOf e:=by
   intro x hx
   obtain⟨us,hu,rfl⟩:=Pb.1 hx
   obtain⟨i,hi,rfl⟩:=Pb.1 hu
   obtain⟨cs,h1,h2,h3⟩:=hf i (List.mem_range.1 hi)
   rw [YJ h1,← h2.1,(GG h3).1]
  have h0:(((List.range (len+1)).map f).map (nQ P e)).length=len+1:=by simp
  have h4:∀ J,J < (flat (((List.range (len+1)).map f).map (nQ P e))).length→∃ u v,(flat (((List.range (len+1)).map f).map (nQ P e)))[J]? = some u∧w.cell? ⟨b,off+J,none⟩=some v∧D w S u v:=by
   intro J hJ
   rw [J3 h5,h0] at hJ
   have hi:J / P.cellsOf e < len+1:=(Nat.div_lt_iff_lt_mul hk).2 hJ
   have hj:J % P.cellsOf e < P.cellsOf e:=Nat.mod_lt _ hk
   have h6:J / P.cellsOf e*P.cellsOf e+J % P.cellsOf e=J:=by
    rw [Nat.mul_comm]; exact Nat.div_add_mod J _
   obtain⟨cs,h1,h2,h3⟩:=hf _ hi
   obtain⟨l1,g1⟩:=GG h3
   have hx:(((List.range (len+1)).map f).map (nQ P e))[J / P.cellsOf e]? = some (nQ P e (f (J / P.cellsOf e))):=by
    rw [P2,P2,List.getElem?_range hi]; rfl
   have h7:=G59 h5 hx _ hj
   rw [h6,YJ h1] at h7
   have a4:(f (J / P.cellsOf e)).length=P.cellsOf e:=by rw [← h2.1,l1]
   have hu:(f (J / P.cellsOf e))[J % P.cellsOf e]? = some ((f (J / P.cellsOf e))[J % P.cellsOf e]'(by rw [a4]; exact hj)):=by simp
   have hv:cs[J % P.cellsOf e]? = some (cs[J % P.cellsOf e]'(by rw [l1]; exact hj)):=by simp
   refine⟨_,_,h7.trans hu,?_,h2.2 _ _ _ hu hv⟩
   have:=g1 _ hj
   rw [G62,G62,Nat.add_assoc,h6,hv] at this
   exact this
  have hD:=D.list (w:=w) (S:=S) (k:=P.cellsOf e) (b:=b) (off:=off) (cap:=cap) (xs:=((List.range (len+1)).map f).map (nQ P e)) (fun J=>(w.cell? ⟨b,off+J,none⟩).getD undef) (by rw [h0]; exact hl) hm h5
   (fun J hJ=>by
    obtain⟨u,v,_,hv,_⟩:=h4 J hJ
    exact⟨hS _ _ hb,by rw [hv]; rfl⟩)
   (fun J u hu=>by
    have hJ:J < (flat (((List.range (len+1)).map f).map (nQ P e))).length:=(Nt hu).1
    obtain⟨u',v,h8,hv,hd⟩:=h4 J hJ
    rw [hu] at h8
    cases h8
    rw [hv]; exact hd)
  rw [h0] at hD
  exact hD

structure vI (H:Type) (M:Nat) (small:DataW H→Prop):Prop where
 slice:∀ elems spare,small (.slice elems spare)→elems.length≤maxLen→elems.length≤M∧∀ e∈elems,small e
 agg:∀ parts,small (.agg parts)→∀ p∈parts,small p
theorem sK (hS:∀ b i,b < w.heap.size→S b i) {M:Nat} {small:DataW H→Prop} (h5:vI H M small):∀ (n:Nat) (t:TypeId) (fuel:Nat) (cs:List Value) (x:DataW H×List MemPlace),H87 P n t=true →
  DataW.trod enc P w base spare held fuel t cs=some x→small x.1→∃ us,dD P M n t us∧Rd w S us cs
 | 0,_,_,_,_,h,_,_=>by cases h
 | n+1,t,fuel,cs,x,h,hx,h6=>by
  unfold H87 at h
  unfold dD
  have one:∀ {u:AV} {v:Value},D w S u v→Rd w S [u] [v]:=fun {u v} hd=>⟨rfl,fun j u' v' hu hv=>by
   cases j with
   | zero=>simp at hu hv; subst hu; subst hv; exact hd
   | succ j=>cases hu⟩
  revert h
  split
  ·rename_i ht
   intro _
   obtain⟨b,rfl,_⟩:=DataW.trod_bool ht hx
   exact⟨_,⟨b,rfl⟩,one .sc⟩
  ·rename_i ht
   intro _
   obtain⟨s,rfl,_,hs⟩:=DataW.trod_string ht hx
   exact⟨_,⟨s,rfl,hs⟩,one .sc⟩
  ·rename_i k ht
   intro _
   obtain⟨z,rfl,_,hz⟩:=DataW.trod_int ht hx
   exact⟨_,⟨z,rfl,hz⟩,one .sc⟩
  ·rename_i e ht
   intro h
   rw [P7] at h
   have hk:0 < P.cellsOf e:=Eq.mp Nat.blt_eq h.1
   rcases DataW.trod_slice ht hx with ⟨rfl,_⟩ | ⟨a,len,cap,elems,rest,m,_,rfl,h7,hb,hl,hm,h0,a0,_,_⟩
   ·exact⟨_,⟨[],rfl,Nat.zero_le _,fun xs hx=>by cases hx⟩,one (.nil (Nat.zero_le _))⟩
   ·rw [h7] at h6
    obtain⟨hM,h4⟩:=h5.slice _ _ h6 (by rw [P9,h0]; exact Nat.le_trans hl hm)
    rw [P9,h0] at hM
    obtain⟨xss,h1,h2,h3⟩:=H3a (P:=P) (base:=base) (n:=n) (e:=e) (a:=a) (len:=len) (cap:=cap) hS hk hl hm (fun i hi=>by
     have he:=a0 i hi
     rw [Nu (by rw [h0]; exact hi)] at he
     obtain⟨cs',hc,a1⟩:=Option.bind_eq_some_iff.1 he
     obtain⟨us,hf,hr⟩:=sK hS h5 n e m cs' _ h.2 a1 (h4 _ (Pb.2 ⟨_,List.getElem_mem _,rfl⟩))
     exact⟨us,cs',hf,hr,hc⟩)
    exact⟨_,⟨xss,rfl,by rw [h1]; exact hM,h2⟩,one h3⟩
  ·rename_i fs ht
   intro h
   obtain⟨xs,m,_,h7,hl,h0,hf⟩:=DataW.trod_struct ht hx
   rw [h7] at h6
   have h4:=h5.agg _ h6
   obtain⟨us,h1,h2⟩:=H65 (w:=w) (S:=S) (F:=dD P M n) h hl (fun f a2 a3=>by
    obtain⟨i,hi⟩:=List.mem_iff_getElem?.1 a2
    have h8:fs[i]? = some f:=by simpa using hi
    have:=hf i f h8
    have h9:i < xs.length:=by rw [h0]; exact(Ng h8).1
    rw [Nu h9] at this
    exact sK hS h5 n f.type m _ _ a3 this (h4 _ (Pb.2 ⟨_,List.getElem_mem h9,rfl⟩)))
   exact⟨us,h1,by simpa using h2⟩
  ·intro h; cases h

theorem Hcf (hS:∀ b i,b < w.heap.size→S b i) {M:Nat} {small:DataW H→Prop} (h3:vI H M small) {n:Nat} {t:TypeId} {r:Reach} {b0:Nat} {v:Value} {d:DataW H} {ps:List MemPlace} (h4:H87 P n t=true)
  (h0:Value.okWide P w r b0 t v) (hd:DataW.Trod enc P w base spare held t v d ps) (h5:small d):∃ us,dD P M n t us∧D w S (nQ P t us) v:=by
 obtain⟨fuel,hf⟩:=hd
 obtain⟨us,h1,h2⟩:=sK hS h3 n t fuel _ _ h4 hf h5
 refine⟨us,h1,?_⟩
 have single:∀ {u:AV},us=[u]→isAgg P t=false→v.cells.toList=[v]→D w S (nQ P t us) v:=fun {u} hu ha hv=>by
  subst hu
  unfold nQ
  rw [ha]
  rw [hv] at h2
  exact h2.2 0 _ _ rfl rfl
 cases n with
 | zero=>exact h1.elim
 | succ n=>
  unfold dD at h1
  revert h1
  split
  ·rename_i ht
   rintro⟨b,e⟩
   obtain⟨b',rfl⟩:=Go.WideShapes.okWide_bool ht h0
   exact single e (by simp [isAgg,ht]) (by simp [Value.cells])
  ·rename_i ht
   rintro⟨b,e,_⟩
   obtain⟨b',rfl⟩:=Go.WideShapes.okWide_string ht h0
   exact single e (by simp [isAgg,ht]) (by simp [Value.cells])
  ·rename_i ht
   rintro⟨b,e,_⟩
   obtain⟨b',rfl⟩:=Go.WideShapes.okWide_int ht h0
   exact single e (by simp [isAgg,ht]) (by simp [Value.cells])
  ·rename_i ht
   rintro⟨b,e,_⟩
   obtain⟨a,l,c,rfl⟩:=Go.WideShapes.okWide_slice ht h0
   exact single e (by simp [isAgg,ht]) (by simp [Value.cells])
  ·rename_i fs ht
   intro _
   obtain⟨cs,rfl,_⟩:=Go.WideShapes.okWide_struct ht h0
   unfold nQ
   rw [show isAgg P t=true by simp [isAgg,ht]]
   refine .agg ?_ (fun j u v hu hv=>h2.2 j u v hu ?_)
   ·simpa [Value.cells] using h2.1
   ·simpa [Value.cells] using hv
  ·intro h; exact h.elim

end

theorem Step.below {w w':World} {β β':Gx} {L':Loc} (h:Step w β [] w' β' L'):Below w.heap.size w w':=
 ⟨h.os,h.tape,h.output.1,h.size,fun k hk=>(h.far k hk (fun id hi=>by simp [lk] at hi)).1⟩

theorem J1f {P:Program} {f:FuncId} {args:List AV} {R:AV→Prop} (hc:Pure P f args R) {w:World} {vs:Array Value} (hl:vs.size=args.length)
  (hv:∀ (j:Nat) u v,args[j]? = some u→vs[j]? = some v→D w (Jc w ⟨fun _=>none,fun _ _=>False⟩ []) u v) :
  Calls P f vs w fun e w'=>∃ v r β' ,e=.returned v∧Below w.heap.size w w'∧V w' β' [] r v∧R r:=by
 refine(hc w ⟨fun _=>none,fun _ _=>False⟩ vs ⟨fun b i h=>h.elim,fun id b h=>by simp [lk] at h,fun id b j h=>by simp [lk] at h,fun id id' b h=>by simp [lk] at h,fun id o h=>by simp [lk] at h⟩ hl
  (fun j u v hu h0=>.data (hv j u v hu h0))).mono fun e w' h=>?_
 obtain⟨v,r,β',L',he,h3,h1,h2,rfl,hR⟩:=h
 exact⟨v,r,β',he,h1.below,h2,hR⟩

theorem Had {w:World}:∀ b i,b < w.heap.size→Jc w ⟨fun _=>none,fun _ _=>False⟩ [] b i:=fun _ _ h=>⟨h,fun h=>h,fun id o h=>by simp [lk] at h⟩

section
variable {P:Program} {M n:Nat} {t e:TypeId} {us:List AV}
theorem H1c (h:dD P M (n+1) t us) (ht:P.underlying t=some .bool):∃ b:Bool,True∧us=[BL b]:=by
 unfold dD at h; rw [ht] at h
 obtain⟨b,rfl⟩:=h
 exact⟨b,trivial,rfl⟩
theorem G4e (h:dD P M (n+1) t us) (ht:P.underlying t=some .string):∃ s:ByteArray,s.size≤maxLen∧us=[ST s]:=by
 unfold dD at h; rw [ht] at h
 obtain⟨s,rfl,hs⟩:=h
 exact⟨s,hs,rfl⟩
theorem G22 {k:IntKind} (h:dD P M (n+1) t us) (ht:P.underlying t=some (.int k)):∃ z:Int,(Lit.int k z).wf=true∧us=[.sc (.int k z)]:=by
 unfold dD at h; rw [ht] at h
 obtain⟨z,rfl,hz⟩:=h
 exact⟨z,hz,rfl⟩
theorem RQ {α:Type} {av:α→AV} {ok:α→Prop} {k:Nat} (h:dD P M (n+1) t us) (ht:P.underlying t=some (.slice e)) (hk:P.cellsOf e=k)
  (h0:∀ us,dD P M n e us→∃ x,ok x∧nQ P e us=av x):∃ xs:List α,((∀ x∈xs,ok x)∧xs.length≤M)∧us=[LS k av xs]:=by
 unfold dD at h; rw [ht] at h
 obtain⟨xss,rfl,hl,hx⟩:=h
 have key:∀ (l:List (List AV)),(∀ xs∈l,dD P M n e xs)→∃ xs:List α,(∀ x∈xs,ok x)∧xs.length=l.length∧l.map (nQ P e)=xs.map av:=by
  intro l
  induction l with
  | nil=>exact fun _=>⟨[],⟨fun x hx=>(Nx hx).elim,rfl,rfl⟩⟩
  | cons a l ih=>
   intro hl
   obtain⟨x,h1,h2⟩:=h0 a (hl a (List.mem_cons_self ..))
   obtain⟨xs,h3,h4,h5⟩:=ih (fun y hy=>hl y (List.mem_cons_of_mem _ hy))
   refine⟨x::xs,fun y hy=>?_,by simp [h4],by simp [h2,h5]⟩
   rcases Pd.1 hy with rfl | hy
   ·exact h1
   ·exact h3 y hy
 obtain⟨xs,h1,h2,h3⟩:=key xss hx
 exact⟨xs,⟨h1,by rw [h2]; exact hl⟩,by rw [hk,h3]⟩
theorem bD {fs:Array Field} (h:dD P M (n+1) t us) (ht:P.underlying t=some (.struct fs)):QR P (dD P M n) fs.toList us:=by
 unfold dD at h; rw [ht] at h
 exact h
theorem Hca {fs:Array Field} (ht:P.underlying t=some (.struct fs)):nQ P t us=.agg us:=by
 unfold nQ isAgg; rw [ht]; rfl
theorem Hc9 {u:AV} (ht:isAgg P t=false):nQ P t [u]=u:=by
 unfold nQ; rw [ht]; rfl
end


def Jba (P:Program) (l:Fr) (L:Loc):ResultVar→AV→Prop
 | .tmp t,u=>look l t=u
 | .cell t T,u=>∃ i tt cs k,look l t=.ptr i 0∧lk L i=some (.box tt cs)∧cs.length=k∧((eY P T k=true∧u=.agg cs)∨(Ja P T=true∧cs[0]? = some u))
inductive H6d (ok:Nat→Bool):AV→AV→Prop
 | conv {u u':AV} (h:Conv ok u u'):H6d ok u u'
 | agg {cs cs':List AV} (h:rC ok cs cs'):H6d ok (.agg cs) (.agg cs')
def H3f (P:Program) (l:Fr) (L:Loc) (ok:Nat→Bool):List ResultVar→List AV→Prop
 | [],[]=>True
 | rv::r,u'::s=>(∃ u,Jba P l L rv u∧H6d ok u u')∧H3f P l L ok r s
 | _,_=>False
def Hba:List AV→AV
 | [u]=>u
 | us=>.tup us
def J36 (P:Program) (B:List Nat) (rvs:List ResultVar) (R:AV→Loc→Prop):Fr→Loc→Prop:=
 fun l L=>∃ us L',aW (fun i=>(lk L' i).isSome) L L'∧allIn L' B=true∧H3f P l L (fun i=>(lk L' i).isSome) rvs us∧R (Hba us) L'

theorem V.convA {w:World} {β:Gx} {L L':Loc} (hd:rB L L') {u u':AV} {v:Value} (h:V w β L u v) (hc:H6d (fun i=>(lk L' i).isSome) u u'):V w β L' u' v:=by
 cases hc with
 | conv hc=>exact h.conv hd hc
 | @agg cs cs' hc=>
  obtain⟨vs,rfl,hl,hv⟩:=h.inv_agg
  exact .agg (hl.trans hc.length) (fun j u' v hu h0=>by
   have hj:j < vs.size:=(Ng h0).1
   obtain⟨u,h1⟩:∃ u,cs[j]? = some u:=⟨_,Nu (hl ▸ hj)⟩
   exact(hv j u v h1 h0).conv hd (hc.get j u u' h1 hu))

def zP (a:Act):ResultVar→Sem Value
 | .tmp t=>pure (a.tmps.getD t undef)
 | .cell q t=>do loadVar t (← asAddr (a.tmps.getD q undef))
theorem H51 {P:Program} {w:World} {β:Gx} {L L':Loc} {l:Fr} {a:Act} (h6:Sat w β L) (hf:Jw a w β L l) (hd:rB L L') :
  ∀ {rvs:List ResultVar} {us:List AV},H3f P l L (fun i=>(lk L' i).isSome) rvs us →
  ∃ vs:List Value,(rvs.mapM (zP a)).run P w=.ok vs w∧vs.length=us.length ∧
   ∀ (j:Nat) u v,us[j]? = some u→vs[j]? = some v→V w β L' u v
 | [],[],_=>⟨[],by simp,rfl,fun j u v hu=>by simp at hu⟩
 | rv::r,u'::s,⟨⟨u,hu,hc⟩,h⟩=>by
  obtain⟨vs,h1,h2,h3⟩:=H51 (P:=P) h6 hf hd (rvs:=r) (us:=s) h
  have key:∃ v,(zP a rv).run P w=.ok v w∧V w β L u v:=by
   cases rv with
   | tmp t=>
    refine⟨_,rfl,?_⟩
    have:=hf.tmp t
    rw [show look l t=u from hu] at this
    exact this
   | cell q T=>
    obtain⟨i,tt,cs,k,e1,e2,e3,e4⟩:=hu
    have hv:=hf.tmp q
    rw [e1] at hv
    obtain⟨b,hb,he⟩:=hv.inv_ptr
    obtain⟨xs,x1,x2,x3⟩:=uJ h6 e2 hb
    rcases e4 with ⟨e4,rfl⟩ | ⟨e4,e5⟩
    ·refine⟨.agg xs,?_,.agg x2 x3⟩
     have:=HW (w:=w) e4 x1 (x2.trans e3)
     simp only [zP,he,asAddr,Sem.run_bind,Sem.run_pure,Result.andThen_ok]
     exact this
    ·have h7:0 < xs.size:=by
      have:=(Nt e5).1
      omega
     refine⟨xs[0],?_,x3 0 u _ e5 (by simp [h7])⟩
     have h5:=eT (P:=P) (T:=T) (b:=b) (o':=0) (v:=xs[0]) e4 (w:=w) (by simp [World.cell?,x1,h7])
     simp only [zP,he,asAddr,Sem.run_bind,Sem.run_pure,Result.andThen_ok]
     simpa [Instr.loadAt,Instr.sureAddr,asAddr] using h5
  obtain⟨v,k1,k2⟩:=key
  refine⟨v::vs,?_,by simp [h2],fun j u0 v0 h0 h4=>?_⟩
  ·rw [List.mapM_cons,Sem.run_bind,k1,Result.andThen_ok,Sem.run_bind,h1,Result.andThen_ok]
   rfl
  ·cases j with
   | zero=>simp at h0 h4; subst h0 h4; exact k2.convA hd hc
   | succ j=>simp at h0 h4; exact h3 j u0 v0 h0 h4
 | [],_::_,h=>h.elim
 | _::_,[],h=>h.elim

theorem dA {P:Program} {f:FuncId} {fn:Func} {c:Code} {args:List AV} {L0:Loc} {R:AV→Loc→Prop} (base:List Nat) (rvs:List ResultVar) (hf:P.funcs[f]? = some fn) (hb:fn.body=some c) (h6:fn.results=rvs.toArray)
  (h4:∀ id,(lk L0 id).isSome=true→id∈base) (h:JC P ⟨fn.ntmps,base,none⟩ c (.fin (J36 P base rvs R)) (iF 0 args) L0):R5 P f args L0 R:=
 sM hf hb h4 (fun w0 β0 a w β l L hs hq=>by
  obtain⟨us,L',q1,q2,q3,q4⟩:=hq
  have h0:Fits base l L [] L':=⟨trivial,q1,q2⟩
  have h5:=hs.fits h0
  obtain⟨vs,h1,h2,h3⟩:=H51 hs.sat hs.frame h0.drop q3
  have h7:(results fn a.tmps).run P w=.ok (if h:vs.toArray.size=1 then vs.toArray[0] else .tuple vs.toArray) w:=by
   have e:results fn a.tmps=(do let vs ← fn.results.mapM (zP a); pure (if h:vs.size=1 then vs[0] else .tuple vs)):=by
    unfold results
    refine congrArg (fun g=>bind (Array.mapM g fn.results) _) ?_
    funext rv
    cases rv <;> rfl
   rw [e,h6,List.mapM_toArray,Sem.run_bind]
   rw [show (List.toArray <$> List.mapM (zP a) rvs:Sem (Array Value)).run P w=.ok vs.toArray w from by
    rw [map_eq_pure_bind,Sem.run_bind,h1,Result.andThen_ok]; rfl]
   rfl
  refine⟨_,Hba us,L',h7,h5.sat,h5.step,?_,q4⟩
  match us,vs,h2,h3 with
  | [u],[v],_,h3=>simpa [Hba] using h3 0 u v rfl rfl
  | [],[],_,h3=>exact .tup rfl (fun j u v hu=>by simp at hu)
  | u::u2::us,v::v2::vs,h2,h3=>
   have:¬ (v::v2::vs).toArray.size=1:=by simp
   rw [dif_neg this]
   exact .tup (by simpa using h2) (fun j u v hu hv=>h3 j u v hu (by simpa using hv))) h

theorem Gy {P:Program} {f:FuncId} {fn:Func} {c:Code} {args:List AV} {R:AV→Prop} (rvs:List ResultVar) (hf:P.funcs[f]? = some fn) (hb:fn.body=some c) (h0:fn.results=rvs.toArray)
  (h:JC P ⟨fn.ntmps,[],none⟩ c (.fin (J36 P [] rvs (fun r L'=>L'=[]∧R r))) (iF 0 args) []):Pure P f args R:=dA [] rvs hf hb h0 Hbc h
theorem fin1 {P:Program} {t:Tmp} {α:Type} {l:Fr} {L:Loc} (f:α→AV) {a r:α} (h:some a=some r) (hc:Conv (fun i=>(lk [] i).isSome) (look l t) (f a):=by exact .same rfl):J36 P [] [.tmp t] (fun u L'=>L'=[]∧u=f r) l L:=
 ⟨[f a],[],trivial,rfl,⟨⟨_,rfl,.conv hc⟩,trivial⟩,rfl,congrArg f (Nv h)⟩
theorem fin1l {P:Program} {t:Tmp} {α:Type} {l:Fr} {L:Loc} (f:α→AV) {a r:α} (h:some a=some r) (hc:Conv (fun i=>(lk [] i).isSome) (look l t) (f a):=by exact .list rfl):J36 P [] [.tmp t] (fun u L'=>L'=[]∧u=f r) l L:=fin1 f h hc
end Go.Proofs.YthkihfoleenlmaaGreat
