/-
 From the reading of an argument as data to the walks' abstra The ends of calls:
-/
import Derived.Test.YthkihfoleenlmaaGreatExt
import Derived.ChangeArms
import Derived.ChangeOld
import Derived.Below
import Derived.JoinedOf
import Derived.JoinedAt
namespace Go.Proofs.YthkihfoleenlmaaGreat
open Go.RowKit

def Rd (w:World) (S:Nat→Nat→Prop) (us:List AV) (cs:List Value):Prop:=
 cs.length=us.length/\∀ (j:Nat) u v,us[j]? = some u→cs[j]? = some v→D w S u v

def isAgg (P:Program) (t:TypeId):Bool:=match P.underlying t with
 | some (.struct _)=>true
 | _=>false

def pB (P:Program) (t:TypeId) (us:List AV):AV:=bif isAgg P t then .agg us else us.headD .junk

def Hf3 (P:Program) (ok:TypeId→Bool):List Field→Nat→Nat→Bool
 | [],off,tot=>Nat.beq off tot
 | f::fs,off,tot=>Nat.beq f.offset off&&ok f.type&&Hf3 P ok fs (off+P.cellsOf f.type) tot

def Hf2 (P:Program):Nat→TypeId→Bool
 | 0,_=>false
 | n+1,t=>match P.underlying t with
  | some .bool=>true
  | some .string=>true
  | some (.int _)=>true
  | some (.slice e)=>Nat.blt 0 (P.cellsOf e)&&Hf2 P n e
  | some (.struct fs)=>Hf3 P (Hf2 P n) fs.toList 0 (P.cellsOf t)
  | _=>false

def YT (P:Program) (F:TypeId→List AV→Prop):List Field→List AV→Prop
 | [],us=>us=[]
 | f::fs,us=>∃ a b,us=a++b/\a.length=P.cellsOf f.type/\F f.type a/\YT P F fs b

def eU (P:Program) (M:Nat):Nat→TypeId→List AV→Prop
 | 0,_,_=>False
 | n+1,t,us=>match P.underlying t with
  | some .bool=>∃ b,us=[.sc (.bool b)]
  | some .string=>∃ s:ByteArray,us=[.sc (.string s)]/\s.size≤maxLen
  | some (.int k)=>∃ z,us=[.sc (.int k z)]/\(Lit.int k z).wf=true
  | some (.slice e)=>∃ xss:List (List AV),us=[.list (P.cellsOf e) (xss.map (pB P e))]/\xss.length≤M/\∀ xs∈xss,eU P M n e xs
  | some (.struct fs)=>YT P (eU P M n) fs.toList us
  | _=>False

theorem Rd.append {w:World} {S:Nat→Nat→Prop} {us us':List AV} {cs cs':List Value} (h:Rd w S us cs) (h':Rd w S us' cs'):Rd w S (us++us') (cs++cs'):=by
 refine⟨by simp [h.1,h'.1],fun j u v hu hv=>?_⟩
 by_cases hj:j < us.length
 .rw [Ph hj] at hu
  rw [Ph (by rw [h.1]; exact hj)] at hv
  exact h.2 j u v hu hv
 .rw [Pg (by omega)] at hu
  rw [Pg (by rw [h.1]; omega),h.1] at hv
  exact h'.2 _ u v hu hv

theorem Hb8 {P:Program} {ok:TypeId→Bool}:∀ {fs:List Field} {off tot:Nat},Hf3 P ok fs off tot=true→off≤tot
 | [],_,_,h=>Nat.le_of_eq (P2 h)
 | _::fs,_,_,h=>by
  simp only [Hf3,Pp] at h
  have:=Hb8 h.2
  omega

theorem Hc3 {P:Program} {w:World} {S:Nat→Nat→Prop} {ok:TypeId→Bool} {F:TypeId→List AV→Prop} {cs:List Value} :
  ∀ {fs:List Field} {off tot:Nat},Hf3 P ok fs off tot=true→cs.length=tot →
   (∀ f∈fs,ok f.type=true→∃ us,F f.type us/\Rd w S us ((cs.drop f.offset).take (P.cellsOf f.type)))→∃ us,YT P F fs us/\Rd w S us (cs.drop off)
 | [],off,tot,h,hl,_=>by
  have:=P2 h
  refine⟨[],rfl,?_,fun j u v hu=>by cases hu⟩
  rw [List.length_drop,hl,this]; simp
 | f::fs,off,tot,h,hl,hf=>by
  simp only [Hf3,Pp] at h
  obtain⟨⟨h1,h2⟩,h3⟩:=h
  have h1:=P2 h1
  obtain⟨us1,f1,r1⟩:=hf f (List.mem_cons_self ..) h2
  obtain⟨us2,f2,r2⟩:=Hc3 h3 hl (fun g hg=>hf g (List.mem_cons_of_mem _ hg))
  rw [h1] at r1
  have h0:=Hb8 h3
  refine⟨us1++us2,⟨us1,us2,rfl,?_,f1,f2⟩,?_⟩
  .rw [← r1.1,List.length_take,List.length_drop]; omega
  .have e:cs.drop off=(cs.drop off).take (P.cellsOf f.type)++cs.drop (off+P.cellsOf f.type):=by
    rw [← List.drop_drop,List.take_append_drop]
   rw [e]
   exact r1.append r2

theorem G1b {P:Program} {M n:Nat} {t:TypeId} {us:List AV} (h:eU P M n t us):(pB P t us).cells=us:=by
 cases n with
 | zero=>exact h.elim
 | succ n=>
  unfold eU at h
  unfold pB isAgg
  revert h
  split
  .rintro⟨b,rfl⟩; simp_all [AV.cells]
  .rintro⟨b,rfl,_⟩; simp_all [AV.cells]
  .rintro⟨b,rfl,_⟩; simp_all [AV.cells]
  .rintro⟨xss,rfl,_⟩; simp_all [AV.cells]
  .intro _; simp_all [AV.cells]
  .intro h; exact h.elim

theorem cell_spot {w:World} {a:Addr} {v:Value} (h:w.cell? a=some v):a.spot=none:=by
 cases hs:a.spot with
 | none=>rfl
 | some s=>
  unfold World.cell? at h
  split at h
  .rw [hs] at h; simp at h
  .cases h

theorem Ja1 {w:World} {a:Addr} {v:Value} (h:w.cell? a=some v):a.block < w.heap.size:=by
 unfold World.cell? at h
 split at h
 .rename_i hh
  exact(Nz hh).1
 .cases h

theorem H1e {W β:Type} {f:W→Option β}:∀ {l:List W} {r:List β},l.mapM f=some r→r.length=l.length/\∀ (i:Nat) x,l[i]? = some x→f x=r[i]?
 | [],r,h=>by
  simp at h; subst h
  exact⟨rfl,fun i x hx=>by cases hx⟩
 | x::l,r,h=>by
  rw [List.mapM_cons] at h
  cases hx:f x with
  | none=>rw [hx] at h; cases h
  | some y=>
   rw [hx] at h
   cases hl:l.mapM f with
   | none=>rw [hl] at h; cases h
   | some r'=>
    rw [hl] at h
    cases h
    obtain⟨h1,h2⟩:=H1e hl
    refine⟨by simp [h1],fun i z hz=>?_⟩
    cases i with
    | zero=>simp at hz; subst hz; simpa using hx
    | succ i=>simpa using h2 i z (by simpa using hz)

theorem JG {w:World} {base:Nat} {a:Addr} {n:Nat} {cs:List Value} (h:w.cells? base a n=some cs):cs.length=n/\∀ j,j < n→w.cell? (a.add j)=cs[j]? := by
 unfold World.cells? at h
 split at h
 .obtain⟨h1,h2⟩:=H1e h
  exact⟨by simpa using h1,fun j hj=>h2 j j (by simp [hj])⟩
 .cases h

theorem Gb4 {b off:Nat} (i:Nat):Addr.add ⟨b,off,none⟩ i=⟨b,off+i,none⟩:=by
 unfold Addr.add
 split <;> simp_all

section
variable {H:Type} {enc:TypeId×Value→H} {P:Program} {w:World} {base:Nat} {spare:Nat→Bool} {held:Bool} {S:Nat→Nat→Prop}

theorem H92 {M n:Nat} {e:TypeId} {a:Addr} {len cap:Nat} (hS:∀ b i,b < w.heap.size→S b i) (hk:0 < P.cellsOf e) (hl:len≤cap) (hm:cap≤maxLen)
  (a0:∀ i,i < len→∃ us cs,eU P M n e us/\Rd w S us cs/\w.cells? base (a.add (i*P.cellsOf e)) (P.cellsOf e)=some cs) :
  ∃ xss:List (List AV),xss.length=len/\(∀ xs∈xss,eU P M n e xs)/\D w S (.list (P.cellsOf e) (xss.map (pB P e))) (.slice (some a) len cap):=by
 have h9:∀ i,∃ us,i < len→∃ cs,eU P M n e us/\Rd w S us cs/\w.cells? base (a.add (i*P.cellsOf e)) (P.cellsOf e)=some cs:=fun i=>by
  by_cases hi:i < len
  .obtain⟨us,cs,h⟩:=a0 i hi
   exact⟨us,fun _=>⟨cs,h⟩⟩
  .exact⟨[],fun h=>(hi h).elim⟩
 obtain⟨f,hf⟩:=Classical.skolem.1 h9
 refine⟨(List.range len).map f,by simp,?_,?_⟩
 .intro xs hx
  obtain⟨i,hi,rfl⟩:=Pt.1 hx
  obtain⟨cs,h,_⟩:=hf i (List.mem_range.1 hi)
  exact h
 cases len with
 | zero=>exact .nil hm
 | succ len=>
  obtain⟨cs0,_,_,a1⟩:=hf 0 (Nat.succ_pos _)
  obtain⟨l0,g0⟩:=JG a1
  have g00:=g0 0 hk
  have hx:∃ v,cs0[0]? = some v:=⟨cs0[0],by simp⟩
  obtain⟨v0,a2⟩:=hx
  rw [a2] at g00
  have a3:a.spot=none:=by
   have:=cell_spot g00
   unfold Addr.add at this
   simpa using this
  obtain⟨b,off,sp⟩:=a
  subst a3
  have hb:b < w.heap.size:=by
   have:=Ja1 g00
   simpa [Gb4] using this
  have h5:∀ x∈((List.range (len+1)).map f).map (pB P e),x.cells.length=P.cellsOf e:=by
   intro x hx
   obtain⟨us,hu,rfl⟩:=Pt.1 hx
   obtain⟨i,hi,rfl⟩:=Pt.1 hu
   obtain⟨cs,h1,h2,h3⟩:=hf i (List.mem_range.1 hi)
   rw [G1b h1,← h2.1,(JG h3).1]
  have h0:(((List.range (len+1)).map f).map (pB P e)).length=len+1:=by simp
  have h4:∀ J,J < (flat (((List.range (len+1)).map f).map (pB P e))).length→∃ u v,(flat (((List.range (len+1)).map f).map (pB P e)))[J]? = some u/\w.cell? ⟨b,off+J,none⟩=some v/\D w S u v:=by
   intro J hJ
   rw [Jf h5,h0] at hJ
   have hi:J / P.cellsOf e < len+1:=(Nat.div_lt_iff_lt_mul hk).2 hJ
   have hj:J % P.cellsOf e < P.cellsOf e:=Nat.mod_lt _ hk
   have h6:J / P.cellsOf e*P.cellsOf e+J % P.cellsOf e=J:=by
    rw [Nat.mul_comm]; exact Nat.div_add_mod J _
   obtain⟨cs,h1,h2,h3⟩:=hf _ hi
   obtain⟨l1,g1⟩:=JG h3
   have hx:(((List.range (len+1)).map f).map (pB P e))[J / P.cellsOf e]? = some (pB P e (f (J / P.cellsOf e))):=by
    rw [Pj,Pj,List.getElem?_range hi]; rfl
   have h7:=Gab h5 hx _ hj
   rw [h6,G1b h1] at h7
   have a4:(f (J / P.cellsOf e)).length=P.cellsOf e:=by rw [← h2.1,l1]
   have hu:(f (J / P.cellsOf e))[J % P.cellsOf e]? = some ((f (J / P.cellsOf e))[J % P.cellsOf e]'(by rw [a4]; exact hj)):=by simp
   have hv:cs[J % P.cellsOf e]? = some (cs[J % P.cellsOf e]'(by rw [l1]; exact hj)):=by simp
   refine⟨_,_,h7.trans hu,?_,h2.2 _ _ _ hu hv⟩
   have:=g1 _ hj
   rw [Gb4,Gb4,Nat.add_assoc,h6,hv] at this
   exact this
  have hD:=D.list (w:=w) (S:=S) (k:=P.cellsOf e) (b:=b) (off:=off) (cap:=cap) (xs:=((List.range (len+1)).map f).map (pB P e)) (fun J=>(w.cell? ⟨b,off+J,none⟩).getD undef) (by rw [h0]; exact hl) hm h5
   (fun J hJ=>by
    obtain⟨u,v,_,hv,_⟩:=h4 J hJ
    exact⟨hS _ _ hb,by rw [hv]; rfl⟩)
   (fun J u hu=>by
    have hJ:J < (flat (((List.range (len+1)).map f).map (pB P e))).length:=(Pa hu).1
    obtain⟨u',v,h8,hv,hd⟩:=h4 J hJ
    rw [hu] at h8
    cases h8
    rw [hv]; exact hd)
  rw [h0] at hD
  exact hD

structure xR (H:Type) (M:Nat) (small:DataW H→Prop):Prop where
 slice:∀ elems spare,small (.slice elems spare)→elems.length≤maxLen→elems.length≤M/\∀ e∈elems,small e
 agg:∀ parts,small (.agg parts)→∀ p∈parts,small p
theorem uP (hS:∀ b i,b < w.heap.size→S b i) {M:Nat} {small:DataW H→Prop} (h5:xR H M small):∀ (n:Nat) (t:TypeId) (fuel:Nat) (cs:List Value) (x:DataW H×List MemPlace),Hf2 P n t=true →
  DataW.trod enc P w base spare held fuel t cs=some x→small x.1→∃ us,eU P M n t us/\Rd w S us cs
 | 0,_,_,_,_,h,_,_=>by cases h
 | n+1,t,fuel,cs,x,h,hx,h6=>by
  unfold Hf2 at h
  unfold eU
  have one:∀ {u:AV} {v:Value},D w S u v→Rd w S [u] [v]:=fun {u v} hd=>⟨rfl,fun j u' v' hu hv=>by
   cases j with
   | zero=>simp at hu hv; subst hu; subst hv; exact hd
   | succ j=>cases hu⟩
  revert h
  split
  .rename_i ht
   intro _
   obtain⟨b,rfl,_⟩:=DataW.trod_bool ht hx
   exact⟨_,⟨b,rfl⟩,one .sc⟩
  .rename_i ht
   intro _
   obtain⟨s,rfl,_,hs⟩:=DataW.trod_string ht hx
   exact⟨_,⟨s,rfl,hs⟩,one .sc⟩
  .rename_i k ht
   intro _
   obtain⟨z,rfl,_,hz⟩:=DataW.trod_int ht hx
   exact⟨_,⟨z,rfl,hz⟩,one .sc⟩
  .rename_i e ht
   intro h
   rw [Pp] at h
   have hk:0 < P.cellsOf e:=Eq.mp Nat.blt_eq h.1
   rcases DataW.trod_slice ht hx with ⟨rfl,_⟩ | ⟨a,len,cap,elems,rest,m,_,rfl,h7,hb,hl,hm,h0,a0,_,_⟩
   .exact⟨_,⟨[],rfl,Nat.zero_le _,fun xs hx=>by cases hx⟩,one (.nil (Nat.zero_le _))⟩
   .rw [h7] at h6
    obtain⟨hM,h4⟩:=h5.slice _ _ h6 (by rw [Pr,h0]; exact Nat.le_trans hl hm)
    rw [Pr,h0] at hM
    obtain⟨xss,h1,h2,h3⟩:=H92 (P:=P) (base:=base) (n:=n) (e:=e) (a:=a) (len:=len) (cap:=cap) hS hk hl hm (fun i hi=>by
     have he:=a0 i hi
     rw [Pb (by rw [h0]; exact hi)] at he
     obtain⟨cs',hc,a1⟩:=Option.bind_eq_some_iff.1 he
     obtain⟨us,hf,hr⟩:=uP hS h5 n e m cs' _ h.2 a1 (h4 _ (Pt.2 ⟨_,List.getElem_mem _,rfl⟩))
     exact⟨us,cs',hf,hr,hc⟩)
    exact⟨_,⟨xss,rfl,by rw [h1]; exact hM,h2⟩,one h3⟩
  .rename_i fs ht
   intro h
   obtain⟨xs,m,_,h7,hl,h0,hf⟩:=DataW.trod_struct ht hx
   rw [h7] at h6
   have h4:=h5.agg _ h6
   obtain⟨us,h1,h2⟩:=Hc3 (w:=w) (S:=S) (F:=eU P M n) h hl (fun f a2 a3=>by
    obtain⟨i,hi⟩:=List.mem_iff_getElem?.1 a2
    have h8:fs[i]? = some f:=by simpa using hi
    have:=hf i f h8
    have h9:i < xs.length:=by rw [h0]; exact(Nz h8).1
    rw [Pb h9] at this
    exact uP hS h5 n f.type m _ _ a3 this (h4 _ (Pt.2 ⟨_,List.getElem_mem h9,rfl⟩)))
   exact⟨us,h1,by simpa using h2⟩
  .intro h; cases h

theorem J3e (hS:∀ b i,b < w.heap.size→S b i) {M:Nat} {small:DataW H→Prop} (h3:xR H M small) {n:Nat} {t:TypeId} {r:Reach} {b0:Nat} {v:Value} {d:DataW H} {ps:List MemPlace} (h4:Hf2 P n t=true)
  (h0:Value.okWide P w r b0 t v) (hd:DataW.Trod enc P w base spare held t v d ps) (h5:small d):∃ us,eU P M n t us/\D w S (pB P t us) v:=by
 obtain⟨fuel,hf⟩:=hd
 obtain⟨us,h1,h2⟩:=uP hS h3 n t fuel _ _ h4 hf h5
 refine⟨us,h1,?_⟩
 have single:∀ {u:AV},us=[u]→isAgg P t=false→v.cells.toList=[v]→D w S (pB P t us) v:=fun {u} hu ha hv=>by
  subst hu
  unfold pB
  rw [ha]
  rw [hv] at h2
  exact h2.2 0 _ _ rfl rfl
 cases n with
 | zero=>exact h1.elim
 | succ n=>
  unfold eU at h1
  revert h1
  split
  .rename_i ht
   rintro⟨b,e⟩
   obtain⟨b',rfl⟩:=Go.WideShapes.okWide_bool ht h0
   exact single e (by simp [isAgg,ht]) (by simp [Value.cells])
  .rename_i ht
   rintro⟨b,e,_⟩
   obtain⟨b',rfl⟩:=Go.WideShapes.okWide_string ht h0
   exact single e (by simp [isAgg,ht]) (by simp [Value.cells])
  .rename_i ht
   rintro⟨b,e,_⟩
   obtain⟨b',rfl⟩:=Go.WideShapes.okWide_int ht h0
   exact single e (by simp [isAgg,ht]) (by simp [Value.cells])
  .rename_i ht
   rintro⟨b,e,_⟩
   obtain⟨a,l,c,rfl⟩:=Go.WideShapes.okWide_slice ht h0
   exact single e (by simp [isAgg,ht]) (by simp [Value.cells])
  .rename_i fs ht
   intro _
   obtain⟨cs,rfl,_⟩:=Go.WideShapes.okWide_struct ht h0
   unfold pB
   rw [show isAgg P t=true by simp [isAgg,ht]]
   refine .agg ?_ (fun j u v hu hv=>h2.2 j u v hu ?_)
   .simpa [Value.cells] using h2.1
   .simpa [Value.cells] using hv
  .intro h; exact h.elim

end

theorem Step.below {w w':World} {β J':H4} {L':Loc} (h:Step w β [] w' J' L'):Below w.heap.size w w':=
 ⟨h.os,h.tape,h.output.1,h.size,fun k hk=>(h.far k hk (fun id hi=>by simp [lk] at hi)).1⟩

theorem J92 {P:Program} {f:FuncId} {args:List AV} {R:AV→Prop} (hc:Pure P f args R) {w:World} {vs:Array Value} (hl:vs.size=args.length)
  (hv:∀ (j:Nat) u v,args[j]? = some u→vs[j]? = some v→D w (Ji w ⟨fun _=>none,fun _ _=>False⟩ []) u v) :
  Calls P f vs w fun e w'=>∃ v r J' ,e=.returned v/\Below w.heap.size w w'/\V w' J' [] r v/\R r:=by
 refine(hc w ⟨fun _=>none,fun _ _=>False⟩ vs ⟨fun b i h=>h.elim,fun id b h=>by simp [lk] at h,fun id b j h=>by simp [lk] at h,fun id id' b h=>by simp [lk] at h,fun id o h=>by simp [lk] at h⟩ hl
  (fun j u v hu h0=>.data (hv j u v hu h0))).mono fun e w' h=>?_
 obtain⟨v,r,J',L',he,h3,h1,h2,rfl,hR⟩:=h
 exact⟨v,r,J',he,h1.below,h2,hR⟩

theorem J1c {w:World}:∀ b i,b < w.heap.size→Ji w ⟨fun _=>none,fun _ _=>False⟩ [] b i:=fun _ _ h=>⟨h,fun h=>h,fun id o h=>by simp [lk] at h⟩

section
variable {P:Program} {M n:Nat} {t e:TypeId} {us:List AV}
theorem H79 (h:eU P M (n+1) t us) (ht:P.underlying t=some .bool):∃ b:Bool,True/\us=[BL b]:=by
 unfold eU at h; rw [ht] at h
 obtain⟨b,rfl⟩:=h
 exact⟨b,trivial,rfl⟩
theorem G9d (h:eU P M (n+1) t us) (ht:P.underlying t=some .string):∃ s:ByteArray,s.size≤maxLen/\us=[ST s]:=by
 unfold eU at h; rw [ht] at h
 obtain⟨s,rfl,hs⟩:=h
 exact⟨s,hs,rfl⟩
theorem G75 {k:IntKind} (h:eU P M (n+1) t us) (ht:P.underlying t=some (.int k)):∃ z:Int,(Lit.int k z).wf=true/\us=[.sc (.int k z)]:=by
 unfold eU at h; rw [ht] at h
 obtain⟨z,rfl,hz⟩:=h
 exact⟨z,hz,rfl⟩
theorem G01 {W:Type} {av:W→AV} {ok:W→Prop} {k:Nat} (h:eU P M (n+1) t us) (ht:P.underlying t=some (.slice e)) (hk:P.cellsOf e=k)
  (h0:∀ us,eU P M n e us→∃ x,ok x/\pB P e us=av x):∃ xs:List W,((∀ x∈xs,ok x)/\xs.length≤M)/\us=[LS k av xs]:=by
 unfold eU at h; rw [ht] at h
 obtain⟨xss,rfl,hl,hx⟩:=h
 have key:∀ (l:List (List AV)),(∀ xs∈l,eU P M n e xs)→∃ xs:List W,(∀ x∈xs,ok x)/\xs.length=l.length/\l.map (pB P e)=xs.map av:=by
  intro l
  induction l with
  | nil=>exact fun _=>⟨[],⟨fun x hx=>(Pe hx).elim,rfl,rfl⟩⟩
  | cons a l ih=>
   intro hl
   obtain⟨x,h1,h2⟩:=h0 a (hl a (List.mem_cons_self ..))
   obtain⟨xs,h3,h4,h5⟩:=ih (fun y hy=>hl y (List.mem_cons_of_mem _ hy))
   refine⟨x::xs,fun y hy=>?_,by simp [h4],by simp [h2,h5]⟩
   rcases Pv.1 hy with rfl | hy
   .exact h1
   .exact h3 y hy
 obtain⟨xs,h1,h2,h3⟩:=key xss hx
 exact⟨xs,⟨h1,by rw [h2]; exact hl⟩,by rw [hk,h3]⟩
theorem Zn {fs:Array Field} (h:eU P M (n+1) t us) (ht:P.underlying t=some (.struct fs)):YT P (eU P M n) fs.toList us:=by
 unfold eU at h; rw [ht] at h
 exact h
theorem H93 {fs:Array Field} (ht:P.underlying t=some (.struct fs)):pB P t us=.agg us:=by
 unfold pB isAgg; rw [ht]; rfl
theorem Gac {u:AV} (ht:isAgg P t=false):pB P t [u]=u:=by
 unfold pB; rw [ht]; rfl
end

theorem u8r {z:Int} (h:(Lit.int .u8 z).wf=true):0≤z/\z≤255:=by
 simp only [Lit.wf,Pp,Pq] at h
 exact h

def Q35 (P:Program) (l:Fr) (L:Loc):ResultVar→AV→Prop
 | .tmp t,u=>look l t=u
 | .cell t T,u=>∃ i tt cs k,look l t=.ptr i 0/\lk L i=some (.box tt cs)/\cs.length=k/\((iC P T k=true/\u=.agg cs)\/(Jc P T=true/\cs[0]? = some u))
inductive Hcf (ok:Nat→Bool):AV→AV→Prop
 | conv {u u':AV} (h:Conv ok u u'):Hcf ok u u'
 | agg {cs cs':List AV} (h:tI ok cs cs'):Hcf ok (.agg cs) (.agg cs')
def H9d (P:Program) (l:Fr) (L:Loc) (ok:Nat→Bool):List ResultVar→List AV→Prop
 | [],[]=>True
 | rv::r,u'::s=>(∃ u,Q35 P l L rv u/\Hcf ok u u')/\H9d P l L ok r s
 | _,_=>False
def J2f:List AV→AV
 | [u]=>u
 | us=>.tup us
def Jaf (P:Program) (B:List Nat) (rvs:List ResultVar) (R:AV→Loc→Prop):Fr→Loc→Prop:=
 fun l L=>∃ us L',bQ (fun i=>(lk L' i).isSome) L L'/\allIn L' B=true/\H9d P l L (fun i=>(lk L' i).isSome) rvs us/\R (J2f us) L'

theorem V.convA {w:World} {β:H4} {L L':Loc} (hd:sH L L') {u u':AV} {v:Value} (h:V w β L u v) (hc:Hcf (fun i=>(lk L' i).isSome) u u'):V w β L' u' v:=by
 cases hc with
 | conv hc=>exact h.conv hd hc
 | @agg cs cs' hc=>
  obtain⟨vs,rfl,hl,hv⟩:=h.inv_agg
  exact .agg (hl.trans hc.length) (fun j u' v hu h0=>by
   have hj:j < vs.size:=(Nz h0).1
   obtain⟨u,h1⟩:∃ u,cs[j]? = some u:=⟨_,Pb (hl ▸ hj)⟩
   exact(hv j u v h1 h0).conv hd (hc.get j u u' h1 hu))

def HT (a:Act):ResultVar→Sem Value
 | .tmp t=>pure (a.tmps.getD t undef)
 | .cell q t=>do loadVar t (← asAddr (a.tmps.getD q undef))
theorem Hb1 {P:Program} {w:World} {β:H4} {L L':Loc} {l:Fr} {a:Act} (h6:Sat w β L) (hf:Jx a w β L l) (hd:sH L L') :
  ∀ {rvs:List ResultVar} {us:List AV},H9d P l L (fun i=>(lk L' i).isSome) rvs us →
  ∃ vs:List Value,(rvs.mapM (HT a)).run P w=.ok vs w/\vs.length=us.length /\
   ∀ (j:Nat) u v,us[j]? = some u→vs[j]? = some v→V w β L' u v
 | [],[],_=>⟨[],by simp,rfl,fun j u v hu=>by simp at hu⟩
 | rv::r,u'::s,⟨⟨u,hu,hc⟩,h⟩=>by
  obtain⟨vs,h1,h2,h3⟩:=Hb1 (P:=P) h6 hf hd (rvs:=r) (us:=s) h
  have key:∃ v,(HT a rv).run P w=.ok v w/\V w β L u v:=by
   cases rv with
   | tmp t=>
    refine⟨_,rfl,?_⟩
    have:=hf.tmp t
    rw [show look l t=u from hu] at this
    exact this
   | cell q T=>
    obtain⟨i,tt,cs,k,e1,e2,e3,e4⟩:=hu
    have hv:=hf.tmp q
    rw [e1] at hv
    obtain⟨b,hb,he⟩:=hv.inv_ptr
    obtain⟨xs,x1,x2,x3⟩:=wU h6 e2 hb
    rcases e4 with ⟨e4,rfl⟩ | ⟨e4,e5⟩
    .refine⟨.agg xs,?_,.agg x2 x3⟩
     have:=RD (w:=w) e4 x1 (x2.trans e3)
     simp only [HT,he,asAddr,Sem.run_bind,Sem.run_pure,Result.andThen_ok]
     exact this
    .have h7:0 < xs.size:=by
      have:=(Pa e5).1
      omega
     refine⟨xs[0],?_,x3 0 u _ e5 (by simp [h7])⟩
     have h5:=gA (P:=P) (T:=T) (b:=b) (o':=0) (v:=xs[0]) e4 (w:=w) (by simp [World.cell?,x1,h7])
     simp only [HT,he,asAddr,Sem.run_bind,Sem.run_pure,Result.andThen_ok]
     simpa [Instr.loadAt,Instr.sureAddr,asAddr] using h5
  obtain⟨v,k1,k2⟩:=key
  refine⟨v::vs,?_,by simp [h2],fun j u0 v0 h0 h4=>?_⟩
  .rw [List.mapM_cons,Sem.run_bind,k1,Result.andThen_ok,Sem.run_bind,h1,Result.andThen_ok]
   rfl
  .cases j with
   | zero=>simp at h0 h4; subst h0 h4; exact k2.convA hd hc
   | succ j=>simp at h0 h4; exact h3 j u0 v0 h0 h4
 | [],_::_,h=>h.elim
 | _::_,[],h=>h.elim

theorem fL {P:Program} {f:FuncId} {fn:Func} {c:Code} {args:List AV} {L0:Loc} {R:AV→Loc→Prop} (base:List Nat) (rvs:List ResultVar) (hf:P.funcs[f]? = some fn) (hb:fn.body=some c) (h6:fn.results=rvs.toArray)
  (h4:∀ id,(lk L0 id).isSome=true→id∈base) (h:JC P ⟨fn.ntmps,base,none⟩ c (.fin (Jaf P base rvs R)) (jP 0 args) L0):Rb P f args L0 R:=
 uR hf hb h4 (fun w0 β0 a w β l L hs hq=>by
  obtain⟨us,L',q1,q2,q3,q4⟩:=hq
  have h0:Fits base l L [] L':=⟨trivial,q1,q2⟩
  have h5:=hs.fits h0
  obtain⟨vs,h1,h2,h3⟩:=Hb1 hs.sat hs.frame h0.drop q3
  have h7:(results fn a.tmps).run P w=.ok (if h:vs.toArray.size=1 then vs.toArray[0] else .tuple vs.toArray) w:=by
   have e:results fn a.tmps=(do let vs ← fn.results.mapM (HT a); pure (if h:vs.size=1 then vs[0] else .tuple vs)):=by
    unfold results
    refine congrArg (fun g=>bind (Array.mapM g fn.results) _) ?_
    funext rv
    cases rv <;> rfl
   rw [e,h6,List.mapM_toArray,Sem.run_bind]
   rw [show (List.toArray <$> List.mapM (HT a) rvs:Sem (Array Value)).run P w=.ok vs.toArray w from by
    rw [map_eq_pure_bind,Sem.run_bind,h1,Result.andThen_ok]; rfl]
   rfl
  refine⟨_,J2f us,L',h7,h5.sat,h5.step,?_,q4⟩
  match us,vs,h2,h3 with
  | [u],[v],_,h3=>simpa [J2f] using h3 0 u v rfl rfl
  | [],[],_,h3=>exact .tup rfl (fun j u v hu=>by simp at hu)
  | u::u2::us,v::v2::vs,h2,h3=>
   have:¬ (v::v2::vs).toArray.size=1:=by simp
   rw [dif_neg this]
   exact .tup (by simpa using h2) (fun j u v hu hv=>h3 j u v hu (by simpa using hv))) h

theorem Gy {P:Program} {f:FuncId} {fn:Func} {c:Code} {args:List AV} {R:AV→Prop} (rvs:List ResultVar) (hf:P.funcs[f]? = some fn) (hb:fn.body=some c) (h0:fn.results=rvs.toArray)
  (h:JC P ⟨fn.ntmps,[],none⟩ c (.fin (Jaf P [] rvs (fun r L'=>L'=[]/\R r))) (jP 0 args) []):Pure P f args R:=fL [] rvs hf hb h0 J30 h
theorem fin1 {P:Program} {t:Tmp} {W:Type} {l:Fr} {L:Loc} (f:W→AV) {a r:W} (h:some a=some r) (hc:Conv (fun i=>(lk [] i).isSome) (look l t) (f a):=by exact .same rfl):Jaf P [] [.tmp t] (fun u L'=>L'=[]/\u=f r) l L:=
 ⟨[f a],[],trivial,rfl,⟨⟨_,rfl,.conv hc⟩,trivial⟩,rfl,congrArg f (Pc h)⟩
theorem fin1l {P:Program} {t:Tmp} {W:Type} {l:Fr} {L:Loc} (f:W→AV) {a r:W} (h:some a=some r) (hc:Conv (fun i=>(lk [] i).isSome) (look l t) (f a):=by exact .list rfl):Jaf P [] [.tmp t] (fun u L'=>L'=[]/\u=f r) l L:=fin1 f h hc
end Go.Proofs.YthkihfoleenlmaaGreat
