/-
 From the reading of an argument as data to the walks' abstra The ends of AJ: Calls that work on some of the caller's local objects,and ma
-/
import Derived.Test.YtibhpogonkdiaaaGreatExt
import Derived.ChangeArms
import Derived.ChangeOld
import Derived.Below
import Derived.JoinedOf
import Derived.JoinedAt
namespace Go.Proofs.YtibhpogonkdiaaaGreat
open Go.RowKit

def Rd (w:World) (S:Nat->Nat->Prop) (us:AG) (cs:AM):Prop:=
 cs.length=us.length∧∀ (j:Nat) u v,us[j]? = some u->cs[j]? = some v->D w S u v

def isAgg (P:Program) (t:TypeId):Bool:=match P.underlying t with
 | some (.struct _)=>true
 | _=>false

def qX (P:Program) (t:TypeId) (us:AG):AV:=bif isAgg P t then .agg us else us.headD .AP

def J73 (P:Program) (ok:TypeId->Bool):List Field->Nat->Nat->Bool
 | [],off,tot=>Nat.beq off tot
 | f::fs,off,tot=>Nat.beq f.offset off&&ok f.type&&J73 P ok fs (off+P.cellsOf f.type) tot

def Ga9 (P:Program):Nat->TypeId->Bool
 | 0,_=>false
 | n+1,t=>match P.underlying t with
  | some .bool=>true
  | some .string=>true
  | some (.int _)=>true
  | some (.slice e)=>Nat.blt 0 (P.cellsOf e)&&Ga9 P n e
  | some (.struct fs)=>J73 P (Ga9 P n) fs.toList 0 (P.cellsOf t)
  | _=>false

def G1f (P:Program) (F:TypeId->AG->Prop):List Field->AG->Prop
 | [],us=>us=[]
 | f::fs,us=>∃ a b,us=a++b∧a.length=P.cellsOf f.type∧F f.type a∧G1f P F fs b

def cH (P:Program) (M:Nat):Nat->TypeId->AG->Prop
 | 0,_,_=>False
 | n+1,t,us=>match P.underlying t with
  | some .bool=>∃ b,us=[.sc (.bool b)]
  | some .string=>∃ s:ByteArray,us=[.sc (.string s)]∧s.size<=maxLen
  | some (.int k)=>∃ z,us=[.sc (.int k z)]∧(Lit.int k z).wf=true
  | some (.slice e)=>∃ xss:List AG,us=[.list (P.cellsOf e) (xss.map (qX P e))]∧xss.length<=M∧∀ xs∈xss,cH P M n e xs
  | some (.struct fs)=>G1f P (cH P M n) fs.toList us
  | _=>False

variable {w:World}
theorem Rd.append {S:Nat->Nat->Prop} {us us':AG} {cs cs':AM} (h:Rd w S us cs) (h':Rd w S us' cs'):Rd w S (us++us') (cs++cs'):=by
 refine⟨by simp [h.1,h'.1],fun j u v hu hv=>?_⟩;by_cases hj:j < us.length
 ·rw [Sh hj] at hu;rw [Sh (by rw [h.1]; exact hj)] at hv;exact h.2 j u v hu hv
 ·rw [Sg (by omega)] at hu;rw [Sg (by rw [h.1]; omega),h.1] at hv;exact h'.2 _ u v hu hv

theorem J3d {P:Program} {ok:TypeId->Bool}:∀ {fs:List Field} {off tot:Nat},J73 P ok fs off tot=true->off<=tot
 | [],_,_,h=>Nat.le_of_eq (S2 h)
 | _::fs,_,_,h=>by
  simp only [J73,Sq] at h;have:=J3d h.2;omega

theorem J48 {P:Program} {w:World} {S:Nat->Nat->Prop} {ok:TypeId->Bool} {F:TypeId->AG->Prop} {cs:AM} :
  ∀ {fs:List Field} {off tot:Nat},J73 P ok fs off tot=true->cs.length=tot ->
   (∀ f∈fs,ok f.type=true->∃ us,F f.type us∧Rd w S us ((cs.drop f.offset).take (P.cellsOf f.type)))->∃ us,G1f P F fs us∧Rd w S us (cs.drop off)
 | [],off,tot,h,hl,_=>by
  have:=S2 h;refine⟨[],rfl,?_,fun j u v hu=>by cases hu⟩;rw [List.length_drop,hl,this]; simp
 | f::fs,off,tot,h,hl,hf=>by
  simp only [J73,Sq] at h;obtain⟨⟨h1,h2⟩,h3⟩:=h;have h1:=S2 h1;obtain⟨us1,f1,r1⟩:=hf f (List.mem_cons_self ..) h2;obtain⟨us2,f2,r2⟩:=J48 h3 hl (fun g hg=>hf g (List.mem_cons_of_mem _ hg));rw [h1] at r1;have h0:=J3d h3;refine⟨us1++us2,⟨us1,us2,rfl,?_,f1,f2⟩,?_⟩
  ·rw [<- r1.1,List.length_take,List.length_drop]; omega
  ·have e:cs.drop off=(cs.drop off).take (P.cellsOf f.type)++cs.drop (off+P.cellsOf f.type):=by
    rw [<- List.drop_drop,List.take_append_drop]
   rw [e];exact r1.append r2

variable {P:Program}
theorem G69 {M n:Nat} {t:TypeId} {us:AG} (h:cH P M n t us):(qX P t us).cells=us:=by
 cases n with
 | zero=>exact h.elim
 | succ n=>
  unfold cH at h;unfold qX isAgg;revert h;split
  ·rintro⟨b,rfl⟩; simp_all [AV.cells]
  ·rintro⟨b,rfl,_⟩; simp_all [AV.cells]
  ·rintro⟨b,rfl,_⟩; simp_all [AV.cells]
  ·rintro⟨xss,rfl,_⟩; simp_all [AV.cells]
  ·intro _; simp_all [AV.cells]
  ·grind

variable {a:Addr} {v:Value}
theorem cell_spot (h:w.cell? a=some v):a.spot=none:=by
 cases hs:a.spot with
 | none=>rfl
 | some s=>
  unfold World.cell? at h;grind

theorem Q09 (h:w.cell? a=some v):a.block < w.heap.size:=by
 unfold World.cell? at h;grind

theorem H78 {α β:Type} {f:α->Option β}:∀ {l:List α} {r:List β},l.mapM f=some r->r.length=l.length∧∀ (i:Nat) x,l[i]? = some x->f x=r[i]?
 | [],r,h=>by
  simp at h; subst h;exact⟨rfl,fun i x hx=>by cases hx⟩
 | x::l,r,h=>by
  rw [List.mapM_cons] at h;cases hx:f x with
  | none=>rw [hx] at h; cases h
  | some y=>
   rw [hx] at h;cases hl:l.mapM f with
   | none=>rw [hl] at h; cases h
   | some r'=>
    rw [hl] at h;cases h;obtain⟨h1,h2⟩:=H78 hl;refine⟨by simp [h1],fun i z hz=>?_⟩;cases i with
    | zero=>simp at hz; subst hz; simpa using hx
    | succ i=>simpa using h2 i z (by simpa using hz)

theorem RM {base:Nat} {n:Nat} {cs:AM} (h:w.cells? base a n=some cs):cs.length=n∧∀ j,j < n->w.cell? (a.add j)=cs[j]? := by
 unfold World.cells? at h;split at h
 ·obtain⟨h1,h2⟩:=H78 h;grind
 ·cases h

theorem H21 {b off:Nat} (i:Nat):Addr.add ⟨b,off,none⟩ i=⟨b,off+i,none⟩:=by
 unfold Addr.add;grind

section
variable {H:Type} {enc:TypeId×Value->H} {P:Program} {w:World} {base:Nat} {spare:Nat->Bool} {held:Bool} {S:Nat->Nat->Prop}

theorem J1a {M n:Nat} {e:TypeId} {a:Addr} {len cap:Nat} (hS:∀ b i,b < w.heap.size->S b i) (hk:0 < P.cellsOf e) (hl:len<=cap) (hm:cap<=maxLen)
  (a0:∀ i,i < len->∃ us cs,cH P M n e us∧Rd w S us cs∧w.cells? base (a.add (i*P.cellsOf e)) (P.cellsOf e)=some cs) :
  ∃ xss:List AG,xss.length=len∧(∀ xs∈xss,cH P M n e xs)∧D w S (.list (P.cellsOf e) (xss.map (qX P e))) (.slice (some a) len cap):=by
 have h9:∀ i,∃ us,i < len->∃ cs,cH P M n e us∧Rd w S us cs∧w.cells? base (a.add (i*P.cellsOf e)) (P.cellsOf e)=some cs:=fun i=>by
  by_cases hi:i < len
  ·obtain⟨us,cs,h⟩:=a0 i hi;exact⟨us,fun _=>⟨cs,h⟩⟩
  ·exact⟨[],fun h=>(hi h).elim⟩
 obtain⟨f,hf⟩:=Classical.skolem.1 h9;refine⟨(List.range len).map f,by simp,?_,?_⟩
 ·intro xs hx;obtain⟨i,hi,rfl⟩:=Su.1 hx;obtain⟨cs,h,_⟩:=hf i (List.mem_range.1 hi);exact h
 cases len with
 | zero=>exact .nil hm
 | succ len=>
  obtain⟨cs0,_,_,a1⟩:=hf 0 (Nat.succ_pos _);obtain⟨l0,g0⟩:=RM a1;have g00:=g0 0 hk;have hx:∃ v,cs0[0]? = some v:=⟨cs0[0],by simp⟩;obtain⟨v0,a2⟩:=hx;rw [a2] at g00;have a3:a.spot=none:=by
   have:=cell_spot g00;unfold Addr.add at this;simpa using this
  obtain⟨b,off,sp⟩:=a;subst a3;have hb:b < w.heap.size:=by
   have:=Q09 g00;simpa [H21] using this
  have h5:∀ x∈((List.range (len+1)).map f).map (qX P e),x.cells.length=P.cellsOf e:=by
   intro x hx;obtain⟨us,hu,rfl⟩:=Su.1 hx;obtain⟨i,hi,rfl⟩:=Su.1 hu;obtain⟨cs,h1,h2,h3⟩:=hf i (List.mem_range.1 hi);rw [G69 h1,<- h2.1,(RM h3).1]
  have h0:(((List.range (len+1)).map f).map (qX P e)).length=len+1:=by simp
  have h4:∀ J,J < (flat (((List.range (len+1)).map f).map (qX P e))).length->∃ u v,(flat (((List.range (len+1)).map f).map (qX P e)))[J]? = some u∧w.cell? ⟨b,off+J,none⟩=some v∧D w S u v:=by
   intro J hJ;rw [Jd h5,h0] at hJ;have hi:J / P.cellsOf e < len+1:=(Nat.div_lt_iff_lt_mul hk).2 hJ;have hj:J % P.cellsOf e < P.cellsOf e:=Nat.mod_lt _ hk;have h6:J / P.cellsOf e*P.cellsOf e+J % P.cellsOf e=J:=by
    rw [Nat.mul_comm]; exact Nat.div_add_mod J _
   obtain⟨cs,h1,h2,h3⟩:=hf _ hi;obtain⟨l1,g1⟩:=RM h3;have hx:(((List.range (len+1)).map f).map (qX P e))[J / P.cellsOf e]? = some (qX P e (f (J / P.cellsOf e))):=by
    rw [Sj,Sj,List.getElem?_range hi]; rfl
   have h7:=H12 h5 hx _ hj;rw [h6,G69 h1] at h7;have a4:(f (J / P.cellsOf e)).length=P.cellsOf e:=by rw [<- h2.1,l1]
   have hu:(f (J / P.cellsOf e))[J % P.cellsOf e]? = some ((f (J / P.cellsOf e))[J % P.cellsOf e]'(by rw [a4]; exact hj)):=by simp
   have hv:cs[J % P.cellsOf e]? = some (cs[J % P.cellsOf e]'(by rw [l1]; exact hj)):=by simp
   refine⟨_,_,h7.trans hu,?_,h2.2 _ _ _ hu hv⟩;have:=g1 _ hj;rw [H21,H21,Nat.add_assoc,h6,hv] at this;exact this
  have hD:=D.list (w:=w) (S:=S) (k:=P.cellsOf e) (b:=b) (off:=off) (cap:=cap) (xs:=((List.range (len+1)).map f).map (qX P e)) (fun J=>(w.cell? ⟨b,off+J,none⟩).getD undef) (by rw [h0]; exact hl) hm h5
   (fun J hJ=>by
    obtain⟨u,v,_,hv,_⟩:=h4 J hJ;exact⟨hS _ _ hb,by rw [hv]; rfl⟩)
   (fun J u hu=>by
    have hJ:J < (flat (((List.range (len+1)).map f).map (qX P e))).length:=(Sa hu).1;obtain⟨u',v,h8,hv,hd⟩:=h4 J hJ;rw [hu] at h8;cases h8;rw [hv]; exact hd)
  rw [h0] at hD;exact hD

structure yQ (H:Type) (M:Nat) (small:DataW H->Prop):Prop where
 slice:∀ elems spare,small (.slice elems spare)->elems.length<=maxLen->elems.length<=M∧∀ e∈elems,small e
 agg:∀ parts,small (.agg parts)->∀ p∈parts,small p
theorem yQ.all {H:Type}:yQ H maxLen (fun _=>True):=⟨fun _ _ _ h=>⟨h,fun _ _=>trivial⟩,fun _ _ _ _=>trivial⟩
theorem uW (hS:∀ b i,b < w.heap.size->S b i) {M:Nat} {small:DataW H->Prop} (h5:yQ H M small):∀ (n:Nat) (t:TypeId) (fuel:Nat) (cs:AM) (x:DataW H×List MemPlace),Ga9 P n t=true ->
  DataW.trod enc P w base spare held fuel t cs=some x->small x.1->∃ us,cH P M n t us∧Rd w S us cs
 | 0,_,_,_,_,h,_,_=>by cases h
 | n+1,t,fuel,cs,x,h,hx,h6=>by
  unfold Ga9 at h;unfold cH;have one:∀ {u:AV} {v:Value},D w S u v->Rd w S [u] [v]:=fun {u v} hd=>⟨rfl,fun j u' v' hu hv=>by
   cases j with
   | zero=>simp at hu hv; subst hu; subst hv; exact hd
   | succ j=>cases hu⟩
  revert h;split
  ·rename_i ht;intro _;obtain⟨b,rfl,_⟩:=DataW.trod_bool ht hx;exact⟨_,⟨b,rfl⟩,one .sc⟩
  ·rename_i ht;intro _;obtain⟨s,rfl,_,hs⟩:=DataW.trod_string ht hx;exact⟨_,⟨s,rfl,hs⟩,one .sc⟩
  ·rename_i k ht;intro _;obtain⟨z,rfl,_,hz⟩:=DataW.trod_int ht hx;exact⟨_,⟨z,rfl,hz⟩,one .sc⟩
  ·rename_i e ht;intro h;rw [Sq] at h;have hk:0 < P.cellsOf e:=Eq.mp Nat.blt_eq h.1;rcases DataW.trod_slice ht hx with ⟨rfl,_⟩ | ⟨a,len,cap,elems,rest,m,_,rfl,h7,hb,hl,hm,h0,a0,_,_⟩
   ·exact⟨_,⟨[],rfl,Nat.zero_le _,fun xs hx=>by cases hx⟩,one (.nil (Nat.zero_le _))⟩
   ·rw [h7] at h6;obtain⟨hM,h4⟩:=h5.slice _ _ h6 (by rw [Ss,h0]; exact Nat.le_trans hl hm);rw [Ss,h0] at hM;obtain⟨xss,h1,h2,h3⟩:=J1a (P:=P) (base:=base) (n:=n) (e:=e) (a:=a) (len:=len) (cap:=cap) hS hk hl hm (fun i hi=>by
     have he:=a0 i hi;rw [Sb (by rw [h0]; exact hi)] at he;obtain⟨cs',hc,a1⟩:=Option.bind_eq_some_iff.1 he;obtain⟨us,hf,hr⟩:=uW hS h5 n e m cs' _ h.2 a1 (h4 _ (Su.2 ⟨_,List.getElem_mem _,rfl⟩));exact⟨us,cs',hf,hr,hc⟩)
    exact⟨_,⟨xss,rfl,by rw [h1]; exact hM,h2⟩,one h3⟩
  ·rename_i fs ht;intro h;obtain⟨xs,m,_,h7,hl,h0,hf⟩:=DataW.trod_struct ht hx;rw [h7] at h6;have h4:=h5.agg _ h6;obtain⟨us,h1,h2⟩:=J48 (w:=w) (S:=S) (F:=cH P M n) h hl (fun f a2 a3=>by
    obtain⟨i,hi⟩:=List.mem_iff_getElem?.1 a2;have h8:fs[i]? = some f:=by simpa using hi
    have:=hf i f h8;have h9:i < xs.length:=by rw [h0]; exact(Pz h8).1
    rw [Sb h9] at this;exact uW hS h5 n f.type m _ _ a3 this (h4 _ (Su.2 ⟨_,List.getElem_mem h9,rfl⟩)))
   exact⟨us,h1,by simpa using h2⟩
  ·intro h; cases h

theorem xE (hS:∀ b i,b < w.heap.size->S b i) {M:Nat} {small:DataW H->Prop} (h3:yQ H M small) {n:Nat} {t:TypeId} {r:Reach} {b0:Nat} {v:Value} {d:DataW H} {ps:List MemPlace} (h4:Ga9 P n t=true)
  (h0:Value.okWide P w r b0 t v) (hd:DataW.Trod enc P w base spare held t v d ps) (h5:small d):∃ us,cH P M n t us∧D w S (qX P t us) v:=by
 obtain⟨fuel,hf⟩:=hd;obtain⟨us,h1,h2⟩:=uW hS h3 n t fuel _ _ h4 hf h5;refine⟨us,h1,?_⟩;have single:∀ {u:AV},us=[u]->isAgg P t=false->v.cells.toList=[v]->D w S (qX P t us) v:=fun {u} hu ha hv=>by
  subst hu;unfold qX;rw [ha];rw [hv] at h2;exact h2.2 0 _ _ rfl rfl
 cases n with
 | zero=>exact h1.elim
 | succ n=>
  unfold cH at h1;revert h1;split
  ·rename_i ht;rintro⟨b,e⟩;obtain⟨b',rfl⟩:=Go.WideShapes.okWide_bool ht h0;exact single e (by simp [isAgg,ht]) (by simp [Value.cells])
  ·rename_i ht;rintro⟨b,e,_⟩;obtain⟨b',rfl⟩:=Go.WideShapes.okWide_string ht h0;exact single e (by simp [isAgg,ht]) (by simp [Value.cells])
  ·rename_i ht;rintro⟨b,e,_⟩;obtain⟨b',rfl⟩:=Go.WideShapes.okWide_int ht h0;exact single e (by simp [isAgg,ht]) (by simp [Value.cells])
  ·rename_i ht;rintro⟨b,e,_⟩;obtain⟨a,l,c,rfl⟩:=Go.WideShapes.okWide_slice ht h0;exact single e (by simp [isAgg,ht]) (by simp [Value.cells])
  ·rename_i fs ht;intro _;obtain⟨cs,rfl,_⟩:=Go.WideShapes.okWide_struct ht h0;unfold qX;rw [show isAgg P t=true by simp [isAgg,ht]];refine .agg ?_ (fun j u v hu hv=>h2.2 j u v hu ?_)
   ·simpa [Value.cells] using h2.1
   ·simpa [Value.cells] using hv
  ·intro h; exact h.elim

end

variable {β:H2}
theorem Step.below {w':World} {β':H2} {L':Loc} (h:Step w β [] w' β' L'):Below w.heap.size w w':=
 ⟨h.os,h.tape,h.output.1,h.size,fun k hk=>(h.far k hk (fun id hi=>by simp [lk] at hi)).1⟩

variable {f:FuncId} {args:AG}
theorem Jfb {R:AV->Prop} (hc:Pure P f args R) {vs:Array Value} (hl:vs.size=args.length)
  (hv:∀ (j:Nat) u v,args[j]? = some u->vs[j]? = some v->D w (J6 w ⟨fun _=>none,fun _ _=>False⟩ []) u v) :
  Calls P f vs w fun e w'=>∃ v r β' ,e=.returned v∧Below w.heap.size w w'∧V w' β' [] r v∧R r:=by
 refine(hc w ⟨fun _=>none,fun _ _=>False⟩ vs ⟨fun b i h=>h.elim,fun id b h=>by simp [lk] at h,fun id b j h=>by simp [lk] at h,fun id id' b h=>by simp [lk] at h,fun id o h=>by simp [lk] at h⟩ hl
  (fun j u v hu h0=>.data (hv j u v hu h0))).mono fun e w' h=>?_
 obtain⟨v,r,β',L',he,h3,h1,h2,rfl,hR⟩:=h;exact⟨v,r,β',he,h1.below,h2,hR⟩

theorem wG:∀ b i,b < w.heap.size->J6 w ⟨fun _=>none,fun _ _=>False⟩ [] b i:=fun _ _ h=>⟨h,fun h=>h,fun id o h=>by simp [lk] at h⟩

section
variable {P:Program} {M n:Nat} {t e:TypeId} {us:AG}
theorem Hf3 (h:cH P M (n+1) t us) (ht:P.underlying t=some .bool):∃ b:Bool,True∧us=[BL b]:=by
 unfold cH at h; rw [ht] at h;grind
theorem Gc0 {k:IntKind} (h:cH P M (n+1) t us) (ht:P.underlying t=some (.int k)):∃ z:Int,(Lit.int k z).wf=true∧us=[.sc (.int k z)]:=by
 unfold cH at h; rw [ht] at h;grind
theorem G48 {α:Type} {av:α->AV} {ok:α->Prop} {k:Nat} (h:cH P M (n+1) t us) (ht:P.underlying t=some (.slice e)) (hk:P.cellsOf e=k)
  (h0:∀ us,cH P M n e us->∃ x,ok x∧qX P e us=av x):∃ xs:List α,((∀ x∈xs,ok x)∧xs.length<=M)∧us=[LS k av xs]:=by
 unfold cH at h; rw [ht] at h;obtain⟨xss,rfl,hl,hx⟩:=h;have key:∀ (l:List AG),(∀ xs∈l,cH P M n e xs)->∃ xs:List α,(∀ x∈xs,ok x)∧xs.length=l.length∧l.map (qX P e)=xs.map av:=by
  intro l
  induction l with
  | nil=>exact fun _=>⟨[],⟨fun x hx=>(Se hx).elim,rfl,rfl⟩⟩
  | cons a l ih=>
   intro hl;obtain⟨x,h1,h2⟩:=h0 a (hl a (List.mem_cons_self ..));obtain⟨xs,h3,h4,h5⟩:=ih (fun y hy=>hl y (List.mem_cons_of_mem _ hy));refine⟨x::xs,fun y hy=>?_,by simp [h4],by simp [h2,h5]⟩;grind
 obtain⟨xs,h1,h2,h3⟩:=key xss hx;grind
theorem HQ {fs:Array Field} (h:cH P M (n+1) t us) (ht:P.underlying t=some (.struct fs)):G1f P (cH P M n) fs.toList us:=by
 unfold cH at h; rw [ht] at h;exact h
theorem Jca {fs:Array Field} (ht:P.underlying t=some (.struct fs)):qX P t us=.agg us:=by
 unfold qX isAgg; rw [ht]; rfl
theorem G6e {u:AV} (ht:isAgg P t=false):qX P t [u]=u:=by
 unfold qX; rw [ht]; rfl
end

theorem u8r {z:Int} (h:(Lit.int .u8 z).wf=true):0<=z∧z<=255:=by
 simp only [Lit.wf,Sq,Sr] at h;exact h

def Q78 (P:Program) (l:Fr) (L:Loc):ResultVar->AV->Prop
 | .tmp t,u=>look l t=u
 | .cell t T,u=>∃ i tt cs k,look l t=.ptr i 0∧lk L i=some (.box tt cs)∧cs.length=k∧((mH P T k=true∧u=.agg cs)∨(Rj P T=true∧cs[0]? = some u))
inductive J53 (ok:Nat->Bool):AV->AV->Prop
 | conv {u u':AV} (h:Conv ok u u'):J53 ok u u'
 | agg {cs cs':AG} (h:vR ok cs cs'):J53 ok (.agg cs) (.agg cs')
def J22 (P:Program) (l:Fr) (L:Loc) (ok:Nat->Bool):List ResultVar->AG->Prop
 | [],[]=>True
 | rv::r,u'::s=>(∃ u,Q78 P l L rv u∧J53 ok u u')∧J22 P l L ok r s
 | _,_=>False
def Jbd:AG->AV
 | [u]=>u
 | us=>.tup us
def Q16 (P:Program) (B:AK) (rvs:List ResultVar) (R:AV->Loc->Prop):Fr->Loc->Prop:=
 fun l L=>∃ us L',gO (fun i=>(lk L' i).isSome) L L'∧allIn L' B=true∧J22 P l L (fun i=>(lk L' i).isSome) rvs us∧R (Jbd us) L'

variable {u:AV} {L:Loc}
theorem V.convA {L':Loc} (hd:zA L L') {u':AV} (h:V w β L u v) (hc:J53 (fun i=>(lk L' i).isSome) u u'):V w β L' u' v:=by
 cases hc with
 | conv hc=>exact h.conv hd hc
 | @agg cs cs' hc=>
  obtain⟨vs,rfl,hl,hv⟩:=h.inv_agg;exact .agg (hl.trans hc.length) (fun j u' v hu h0=>by
   have hj:j < vs.size:=(Pz h0).1;obtain⟨u,h1⟩:∃ u,cs[j]? = some u:=⟨_,Sb (hl ▸ hj)⟩;exact(hv j u v h1 h0).conv hd (hc.get j u u' h1 hu))

def RB (a:Act):ResultVar->Sem Value
 | .tmp t=>pure (a.tmps.getD t undef)
 | .cell q t=>do loadVar t (<- asAddr (a.tmps.getD q undef))
theorem J38 {P:Program} {w:World} {β:H2} {L L':Loc} {l:Fr} {a:Act} (h6:Sat w β L) (hf:Q3 a w β L l) (hd:zA L L') :
  ∀ {rvs:List ResultVar} {us:AG},J22 P l L (fun i=>(lk L' i).isSome) rvs us ->
  ∃ vs:AM,(rvs.mapM (RB a)).run P w=.ok vs w∧vs.length=us.length ∧
   ∀ (j:Nat) u v,us[j]? = some u->vs[j]? = some v->V w β L' u v
 | [],[],_=>⟨[],by simp,rfl,fun j u v hu=>by simp at hu⟩
 | rv::r,u'::s,⟨⟨u,hu,hc⟩,h⟩=>by
  obtain⟨vs,h1,h2,h3⟩:=J38 (P:=P) h6 hf hd (rvs:=r) (us:=s) h;have key:∃ v,(RB a rv).run P w=.ok v w∧V w β L u v:=by
   cases rv with
   | tmp t=>
    refine⟨_,rfl,?_⟩;have:=hf.tmp t;rw [show look l t=u from hu] at this;exact this
   | cell q T=>
    obtain⟨i,tt,cs,k,e1,e2,e3,e4⟩:=hu;have hv:=hf.tmp q;rw [e1] at hv;obtain⟨b,hb,he⟩:=hv.inv_ptr;obtain⟨xs,x1,x2,x3⟩:=xC h6 e2 hb;rcases e4 with ⟨e4,rfl⟩ | ⟨e4,e5⟩
    ·refine⟨.agg xs,?_,.agg x2 x3⟩;have:=ZD (w:=w) e4 x1 (x2.trans e3);simp only [RB,he,asAddr,Sem.run_bind,Sem.run_pure,Result.andThen_ok];exact this
    ·have h7:0 < xs.size:=by
      have:=(Sa e5).1;omega
     refine⟨xs[0],?_,x3 0 u _ e5 (by simp [h7])⟩;have h5:=jC (P:=P) (T:=T) (b:=b) (o':=0) (v:=xs[0]) e4 (w:=w) (by simp [World.cell?,x1,h7]);simp only [RB,he,asAddr,Sem.run_bind,Sem.run_pure,Result.andThen_ok];simpa [Instr.loadAt,Instr.sureAddr,asAddr] using h5
  obtain⟨v,k1,k2⟩:=key;refine⟨v::vs,?_,by simp [h2],fun j u0 v0 h0 h4=>?_⟩
  ·rw [List.mapM_cons,Sem.run_bind,k1,Result.andThen_ok,Sem.run_bind,h1,Result.andThen_ok];rfl
  ·cases j with
   | zero=>simp at h0 h4; subst h0 h4; exact k2.convA hd hc
   | succ j=>simp at h0 h4; exact h3 j u0 v0 h0 h4
 | [],_::_,h=>h.elim
 | _::_,[],h=>h.elim

variable {L0:Loc}
theorem Yc {fn:Func} {c:Code} {R:AV->Loc->Prop} (base:AK) (rvs:List ResultVar) (hf:P.funcs[f]? = some fn) (hb:fn.body=some c) (h6:fn.results=rvs.toArray)
  (h4:∀ id,(lk L0 id).isSome=true->id∈base) (h:JC P ⟨fn.ntmps,base,none⟩ c (.fin (Q16 P base rvs R)) (lQ 0 args) L0):Q4 P f args L0 R:=
 vA hf hb h4 (fun w0 β0 a w β l L hs hq=>by
  obtain⟨us,L',q1,q2,q3,q4⟩:=hq;have h0:Fits base l L [] L':=⟨trivial,q1,q2⟩;have h5:=hs.fits h0;obtain⟨vs,h1,h2,h3⟩:=J38 hs.sat hs.frame h0.drop q3;have h7:(results fn a.tmps).run P w=.ok (if h:vs.toArray.size=1 then vs.toArray[0] else .tuple vs.toArray) w:=by
   have e:results fn a.tmps=(do let vs <- fn.results.mapM (RB a); pure (if h:vs.size=1 then vs[0] else .tuple vs)):=by
    unfold results;refine congrArg (fun g=>bind (Array.mapM g fn.results) _) ?_;funext rv;cases rv <;> rfl
   rw [e,h6,List.mapM_toArray,Sem.run_bind];rw [show (List.toArray <$> List.mapM (RB a) rvs:Sem (Array Value)).run P w=.ok vs.toArray w from by
    rw [map_eq_pure_bind,Sem.run_bind,h1,Result.andThen_ok]; rfl]
   rfl
  refine⟨_,Jbd us,L',h7,h5.sat,h5.step,?_,q4⟩
  match us,vs,h2,h3 with
  | [u],[v],_,h3=>simpa [Jbd] using h3 0 u v rfl rfl
  | [],[],_,h3=>exact .tup rfl (fun j u v hu=>by simp at hu)
  | u::u2::us,v::v2::vs,h2,h3=>
   have:¬ (v::v2::vs).toArray.size=1:=by simp
   rw [dif_neg this];exact .tup (by simpa using h2) (fun j u v hu hv=>h3 j u v hu (by simpa using hv))) h

theorem H8 {fn:Func} {c:Code} {R:AV->Prop} (rvs:List ResultVar) (hf:P.funcs[f]? = some fn) (hb:fn.body=some c) (h0:fn.results=rvs.toArray)
  (h:JC P ⟨fn.ntmps,[],none⟩ c (.fin (Q16 P [] rvs (fun r L'=>L'=[]∧R r))) (lQ 0 args) []):Pure P f args R:=Yc [] rvs hf hb h0 Jbe h
theorem AY {t:Tmp} {α:Type} {l:Fr} (f:α->AV) {a r:α} (h:some a=some r) (hc:Conv (fun i=>(lk [] i).isSome) (look l t) (f a):=by exact .same rfl):Q16 P [] [.tmp t] (fun u L'=>L'=[]∧u=f r) l L:=
 ⟨[f a],[],trivial,rfl,⟨⟨_,rfl,.conv hc⟩,trivial⟩,rfl,congrArg f (Sc h)⟩
theorem fin1l {t:Tmp} {α:Type} {l:Fr} (f:α->AV) {a r:α} (h:some a=some r) (hc:Conv (fun i=>(lk [] i).isSome) (look l t) (f a):=by exact .list rfl):Q16 P [] [.tmp t] (fun u L'=>L'=[]∧u=f r) l L:=AY f h hc

def inL (L:Loc) (i:Nat):Bool:=(lk L i).isSome
def sY (L L0:Loc):Loc:=L.filter fun p=>!inL L0 p.1
theorem J43:∀ (L L0:Loc) (id:Nat),lk (sY L L0) id=if inL L0 id=true then none else lk L id
 | [],L0,id=>by simp [sY,lk]
 | (i,o)::r,L0,id=>by
  have ih:=J43 r L0 id;unfold sY at ih ⊢;rw [List.filter_cons,Gm];by_cases hi:inL L0 i=true
  ·rw [if_neg (by simp [hi]),ih];by_cases e:i=id
   ·subst e; simp [hi]
   ·simp [e]
  ·rw [if_pos (by simpa using hi),Gm,ih];by_cases e:i=id
   ·subst e; simp [hi]
   ·simp [e]
theorem Gd3:∀ (L M:Loc) (id:Nat),lk (L++M) id=if inL L id=true then lk L id else lk M id
 | [],M,id=>by simp [inL,lk]
 | (i,o)::r,M,id=>by
  have ih:=Gd3 r M id;rw [List.cons_append,Gm,Gm,ih];by_cases e:i=id
  ·subst e; simp [inL,Gm]
  ·rw [if_neg e,if_neg e]; simp only [inL,Gm,if_neg e]; rfl
def oL (L L0 L':Loc):Loc:=L'++sY L L0
def qP (β β':H2) (L0 L':Loc):H2:=⟨fun id=>if inL L' id=true∨inL L0 id=true then β'.at_ id else β.at_ id,β.hid⟩

def Jn.refs (ok:Nat->Bool):Jn->Bool
 | .box _ cs=>Qw ok cs
 | .iter m _ _=>m.refs ok
 | _=>true
variable {β0:H2}
theorem V.down (hS:∀ b i,J6 w β L b i->J6 w β0 L0 b i) (hid:∀ id o,lk L0 id=some o->lk L id=some o∧β0.at_ id=β.at_ id) (h:V w β L u v) :
  u.refs (inL L0)=true->V w β0 L0 u v:=by
 have mono:∀ {u v},D w (J6 w β L) u v->D w (J6 w β0 L0) u v:=fun h=>h.mono fun b i hs=>⟨hS b i hs,rfl⟩;have mem:∀ {cs:AG},Qw (inL L0) cs=true->∀ (j:Nat) u,cs[j]? = some u->u.refs (inL L0)=true:=
  fun h j u hu=>aD h u (Sd hu)
 have get:∀ {i o},inL L0 i=true->lk L i=some o->lk L0 i=some o∧β0.at_ i=β.at_ i:=fun hi ho=>by
  obtain⟨o',h5⟩:=Py hi;obtain⟨h1,h2⟩:=hid _ o' h5;rw [ho] at h1; cases h1;exact⟨h5,h2⟩
 induction h with
 | data h=>exact fun _=>.data (mono h)
 | agg hl _ ih=>exact fun hr=>.agg hl fun j u v hu hv=>ih j u v hu hv (mem (by simpa [AV.refs] using hr) j u hu)
 | tup hl _ ih=>exact fun hr=>.tup hl fun j u v hu hv=>ih j u v hu hv (mem (by simpa [AV.refs] using hr) j u hu)
 | fn hl _ ih=>exact fun hr=>.fn hl fun j u v hu hv=>ih j u v hu hv (mem (by simpa [AV.refs] using hr) j u hu)
 | bfn hl _ ih=>exact fun hr=>.bfn hl fun j u v hu hv=>ih j u v hu hv (mem (by simpa [AV.refs] using hr) j u hu)
 | opt _ h0 ih=>exact fun hr=>.opt (fun e=>ih e (by simpa [AV.refs] using hr)) h0
 | ptr hi h=>intro hr; obtain⟨h1,h2⟩:=get (by simpa [AV.refs] using hr) hi; exact .ptr h1 (h2.trans h)
 | ms hi h hn hm=>intro hr; obtain⟨h1,h2⟩:=get (by simpa [AV.refs] using hr) hi; exact .ms h1 (h2.trans h) hn hm
 | mp hi h=>intro hr; obtain⟨h1,h2⟩:=get (by simpa [AV.refs] using hr) hi; exact .mp h1 (h2.trans h)
 | it hi h=>intro hr; obtain⟨h1,h2⟩:=get (by simpa [AV.refs] using hr) hi; exact .it h1 (h2.trans h)
 | vec hp hv=>
  intro hr;obtain⟨t,ver',xs,hi,h3,hx⟩:=hp;obtain⟨h1,h2⟩:=get (by simpa [AV.refs] using hr) hi;exact .vec ⟨t,ver',xs,h1,h3,fun e=>⟨(hx e).1,by rw [h2]; exact(hx e).2⟩⟩ hv
 | BH hp hv=>
  intro hr;obtain⟨t,k,ver',xs,hi,h3,hx⟩:=hp;obtain⟨h1,h2⟩:=get (by simpa [AV.refs] using hr) hi;exact .BH ⟨t,k,ver',xs,h1,h3,fun e=>by rw [h2]; exact hx e⟩ hv
 | vcap hp hv=>
  intro hr;obtain⟨t,ver',xs,hi,h3,hx⟩:=hp;obtain⟨h1,h2⟩:=get (by simpa [AV.refs] using hr) hi;exact .vcap ⟨t,ver',xs,h1,h3,fun e=>by rw [h2]; exact hx e⟩ hv
 | nst vs hi h3 h4 h6 _ hv ih=>
  intro hr;simp only [AV.refs,Sq] at hr;obtain⟨h1,h2⟩:=get hr.1 hi;exact .nst vs h1 h3 (fun e=>by rw [h2]; exact h4 e) (fun e j u x hu hx=>mono (h6 e j u x hu hx)) (fun x e h0 hx=>ih x e h0 hx hr.2) hv
 | nptr b vs hi h3 h4 _ hv ih=>
  intro hr;simp only [AV.refs,Sq] at hr;obtain⟨h1,h2⟩:=get hr.1 hi;exact .nptr b vs h1 h3 (fun e=>by rw [h2]; exact h4 e) (fun x e hx=>ih x e hx hr.2) hv
 | vsl hp hv=>
  intro hr;obtain⟨t,ver',xs,hi,h3,hx⟩:=hp;obtain⟨h1,h2⟩:=get (by simpa [AV.refs] using hr) hi;exact .vsl ⟨t,ver',xs,h1,h3,fun e=>by rw [h2]; exact hx e⟩ hv
 | own hd hp=>
  intro hr;obtain⟨t,ver',hw,hi,h3,hx⟩:=hp;obtain⟨h1,h2⟩:=get (by simpa [AV.refs] using hr) hi;refine .own (mono hd) ⟨t,ver',hw,h1,h3,fun e=>?_⟩;obtain⟨a1,a2,vals,a3,a4⟩:=hx e;refine⟨a1,a2.trans h2.symm,vals,a3,fun j u hu=>?_⟩;obtain⟨x,h7,h8⟩:=a4 j u hu;exact⟨x,h7,mono h8⟩

theorem V.up (hS:∀ b i,J6 w β L b i->J6 w β0 L0 b i) (hid:∀ id o,lk L id=some o->lk L0 id=some o∧β0.at_ id=β.at_ id) (h:V w β L u v):V w β0 L0 u v:=by
 have mono:∀ {u v},D w (J6 w β L) u v->D w (J6 w β0 L0) u v:=fun h=>h.mono fun b i hs=>⟨hS b i hs,rfl⟩
 induction h with
 | data h=>exact .data (mono h)
 | agg hl _ ih=>exact .agg hl ih
 | tup hl _ ih=>exact .tup hl ih
 | fn hl _ ih=>exact .fn hl ih
 | bfn hl _ ih=>exact .bfn hl ih
 | opt _ h0 ih=>exact .opt ih h0
 | ptr hi h=>obtain⟨h1,h2⟩:=hid _ _ hi; exact .ptr h1 (h2.trans h)
 | ms hi h hn hm=>obtain⟨h1,h2⟩:=hid _ _ hi; exact .ms h1 (h2.trans h) hn hm
 | mp hi h=>obtain⟨h1,h2⟩:=hid _ _ hi; exact .mp h1 (h2.trans h)
 | it hi h=>obtain⟨h1,h2⟩:=hid _ _ hi; exact .it h1 (h2.trans h)
 | vec hp hv=>
  obtain⟨t,ver',xs,hi,h3,hx⟩:=hp;obtain⟨h1,h2⟩:=hid _ _ hi;exact .vec ⟨t,ver',xs,h1,h3,fun e=>⟨(hx e).1,by rw [h2]; exact(hx e).2⟩⟩ hv
 | BH hp hv=>
  obtain⟨t,k,ver',xs,hi,h3,hx⟩:=hp;obtain⟨h1,h2⟩:=hid _ _ hi;exact .BH ⟨t,k,ver',xs,h1,h3,fun e=>by rw [h2]; exact hx e⟩ hv
 | vcap hp hv=>
  obtain⟨t,ver',xs,hi,h3,hx⟩:=hp;obtain⟨h1,h2⟩:=hid _ _ hi;exact .vcap ⟨t,ver',xs,h1,h3,fun e=>by rw [h2]; exact hx e⟩ hv
 | nst vs hi h3 h4 h5 _ hv ih=>
  obtain⟨h1,h2⟩:=hid _ _ hi;exact .nst vs h1 h3 (fun e=>by rw [h2]; exact h4 e) (fun e j u x hu hx=>mono (h5 e j u x hu hx)) (fun x e h0 hx=>ih x e h0 hx) hv
 | nptr b vs hi h3 h4 _ hv ih=>
  obtain⟨h1,h2⟩:=hid _ _ hi;exact .nptr b vs h1 h3 (fun e=>by rw [h2]; exact h4 e) (fun x e hx=>ih x e hx) hv
 | vsl hp hv=>
  obtain⟨t,ver',xs,hi,h3,hx⟩:=hp;obtain⟨h1,h2⟩:=hid _ _ hi;exact .vsl ⟨t,ver',xs,h1,h3,fun e=>by rw [h2]; exact hx e⟩ hv
 | own hd hp=>
  obtain⟨t,ver',hw,hi,h3,hx⟩:=hp;obtain⟨h1,h2⟩:=hid _ _ hi;refine .own (mono hd) ⟨t,ver',hw,h1,h3,fun e=>?_⟩;obtain⟨a1,a2,vals,a3,a4⟩:=hx e;refine⟨a1,a2.trans h2.symm,vals,a3,fun j u hu=>?_⟩;obtain⟨x,h6,h7⟩:=a4 j u hu;exact⟨x,h6,mono h7⟩

theorem lA.up (hS:∀ b i,J6 w β L b i->J6 w β0 L0 b i) (hid:∀ id o,lk L id=some o->lk L0 id=some o∧β0.at_ id=β.at_ id) {ob:Option Nat} {o:Jn} (h:lA w β L ob o):lA w β0 L0 ob o:=by
 have mono:∀ {u v},D w (J6 w β L) u v->D w (J6 w β0 L0) u v:=fun h=>h.mono fun b i hs=>⟨hS b i hs,rfl⟩;cases o with
 | box t cs=>
  obtain⟨b,hb,vs,h1,h2,h3⟩:=h;exact⟨b,hb,vs,h1,h2,fun j u v hu hv=>(h3 j u v hu hv).up hS hid⟩
 | spare t k ver hw=>exact h
 | vec t k ver xs=>
  refine⟨h.1,h.2.imp id ?_⟩;grind
 | map t es=>
  obtain⟨b,hb,h⟩:=h;exact⟨b,hb,h.mono rfl mono⟩
 | iter m n seen=>
  obtain⟨b,hb,bm,h1,h3⟩:=h;exact⟨b,hb,bm,h1.up hS hid,h3⟩
 | pin t b cs=>
  obtain⟨hb,vs,h1,h2,h3⟩:=h;exact⟨hb,vs,h1,h2,fun j u v hu hv=>mono (h3 j u v hu hv)⟩

theorem lA.down (hS:∀ b i,J6 w β L b i->J6 w β0 L0 b i) (hid:∀ id o,lk L0 id=some o->lk L id=some o∧β0.at_ id=β.at_ id) {ob:Option Nat} {o:Jn} (h:lA w β L ob o) (hr:o.refs (inL L0)=true):lA w β0 L0 ob o:=by
 have mono:∀ {u v},D w (J6 w β L) u v->D w (J6 w β0 L0) u v:=fun h=>h.mono fun b i hs=>⟨hS b i hs,rfl⟩;cases o with
 | box t cs=>
  obtain⟨b,hb,vs,h1,h2,h3⟩:=h;exact⟨b,hb,vs,h1,h2,fun j u v hu hv=>(h3 j u v hu hv).down hS hid (aD (by simpa [Jn.refs] using hr) u (Sd hu))⟩
 | spare t k ver hw=>exact h
 | vec t k ver xs=>
  refine⟨h.1,h.2.imp id ?_⟩;grind
 | map t es=>
  obtain⟨b,hb,h⟩:=h;exact⟨b,hb,h.mono rfl mono⟩
 | iter m n seen=>
  obtain⟨b,hb,bm,h1,h3⟩:=h;exact⟨b,hb,bm,h1.down hS hid (by simpa [Jn.refs] using hr),h3⟩
 | pin t b cs=>
  obtain⟨hb,vs,h1,h2,h3⟩:=h;exact⟨hb,vs,h1,h2,fun j u v hu hv=>mono (h3 j u v hu hv)⟩

theorem G65 {R:AV->Loc->Prop} (hc:Q4 P f args L0 R) (h8:Sat w β L)
  (a1:∀ id o,lk L0 id=some o->lk L id=some o) (b1:∀ id o,lk L0 id=some o->o.refs (inL L0)=true) {vs:Array Value} (hl:vs.size=args.length)
  (hv:∀ (j:Nat) u v,args[j]? = some u->vs[j]? = some v->V w β L u v∧u.refs (inL L0)=true)
  (a9:∀ r L',R r L'->∀ id,inL L' id=true->inL L0 id=true∨lk L id=none) :
  Calls P f vs w fun e w'=>∃ v r β' L',e=.returned v∧R r L'∧Sat w' (qP β β' L0 L') (oL L L0 L')∧Step w β L w' (qP β β' L0 L') (oL L L0 L')∧V w' (qP β β' L0 L') (oL L L0 L') r v:=by
 let β0:H2:=⟨fun id=>if inL L0 id=true then β.at_ id else none,fun b i=>b < w.heap.size∧¬ J6 w β L b i∧∀ id,inL L0 id=true->β.at_ id≠some b⟩
 have a0:∀ id,inL L0 id=true->∃ o,lk L0 id=some o∧lk L id=some o:=fun id h=>by
  obtain⟨o,ho⟩:=Py h;exact⟨o,ho,a1 id o ho⟩
 have b0:∀ id b,β0.at_ id=some b->inL L0 id=true∧β.at_ id=some b:=fun id b h=>by
  by_cases hi:inL L0 id=true
  ·exact⟨hi,by simpa [β0,hi] using h⟩
  ·simp [β0,hi] at h
 have isL:∀ id,inL L0 id=true->(lk L id).isSome=true:=fun id h=>by
  obtain⟨o,_,ho⟩:=a0 id h;rw [ho]; rfl
 have hS:∀ b i,J6 w β L b i->J6 w β0 L0 b i:=fun b i hs=>⟨hs.lt,fun h=>h.2.1 hs,fun id o ho hb=>hs.kept id o (a1 id o ho) (b0 id b hb).2⟩;have hid:∀ id o,lk L0 id=some o->lk L id=some o∧β0.at_ id=β.at_ id:=fun id o ho=>⟨a1 id o ho,by
  have:inL L0 id=true:=by unfold inL; rw [ho]; rfl
  simp [β0,this]⟩
 have sat0:Sat w β0 L0:=⟨fun b i h=>h.1,fun id b h1 h2=>h8.bnd id b (isL id h1) (b0 id b h2).2,fun id b j h1 h2 h3=>h3.2.2 id h1 (b0 id b h2).2,
  fun id id' b h1 h2 h3 h4=>h8.inj id id' b (isL id h1) (isL id' h2) (b0 id b h3).2 (b0 id' b h4).2,
  fun id o ho=>by
   have:=(h8.obj id o (a1 id o ho)).down hS hid (b1 id o ho);rw [(hid id o ho).2]; exact this⟩
 refine(hc w β0 vs sat0 hl (fun j u v hu a8=>(hv j u v hu a8).1.down hS hid (hv j u v hu a8).2)).mono fun e w' h=>?_;obtain⟨v,r,β',L',he,sat',st,b2,hR⟩:=h;have b3:=a9 r L' hR;have a4:∀ id,lk (oL L L0 L') id=if inL L' id=true then lk L' id else if inL L0 id=true then none else lk L id:=fun id=>by
  unfold oL; rw [Gd3,J43]
 have a5:∀ id,(qP β β' L0 L').at_ id=if inL L' id=true∨inL L0 id=true then β'.at_ id else β.at_ id:=fun id=>rfl;have h9:∀ id o,lk (oL L L0 L') id=some o->inL L' id=false->inL L0 id=false∧lk L id=some o∧(qP β β' L0 L').at_ id=β.at_ id:=fun id o h1 h2=>by
  rw [a4,if_neg (by simp [h2])] at h1;by_cases h3:inL L0 id=true
  ·rw [if_pos h3] at h1; cases h1
  ·rw [if_neg h3] at h1;exact⟨by simpa using h3,h1,by rw [a5,if_neg (by simp [h2,h3])]⟩
 have h7:∀ id o,lk L id=some o->inL L0 id=false->lk (oL L L0 L') id=some o∧(qP β β' L0 L').at_ id=β.at_ id:=fun id o h1 h2=>by
  have h3:inL L' id=false:=by
   cases h3:inL L' id with
   | false=>rfl
   | true=>
    rcases b3 id h3 with h4 | h4
    ·rw [h2] at h4; cases h4
    ·rw [h1] at h4; cases h4
  exact⟨by rw [a4,if_neg (by simp [h3]),if_neg (by simp [h2])]; exact h1,by rw [a5,if_neg (by simp [h2,h3])]⟩
 have h6:∀ id o,lk L' id=some o->lk (oL L L0 L') id=some o∧(qP β β' L0 L').at_ id=β'.at_ id:=fun id o ho=>by
  have:inL L' id=true:=by unfold inL; rw [ho]; rfl
  exact⟨by rw [a4,if_pos this]; exact ho,by rw [a5,if_pos (.inl this)]⟩
 have a6:∀ b i,b < w.heap.size->(β'.hid b i ↔ β0.hid b i):=st.hid
 -- what is not hidden from the call is not hidden from the caller's own callers
 have nothid:∀ b i,¬ β'.hid b i->¬ β.hid b i:=fun b i hn hh=>by
  have hb:=h8.hid b i hh;rw [a6 b i hb] at hn;refine hn ⟨hb,fun hs=>hs.seen hh,fun id h1 h2=>h8.apart id b i (isL id h1) h2 hh⟩
 have farrest:∀ id o b,lk L id=some o->inL L0 id=false->β.at_ id=some b->b < w.heap.size∧(∀ id',inL L0 id'=true->β0.at_ id'≠some b):=fun id o b h1 h2 h3=>by
  refine⟨h8.bnd id b (by rw [h1]; rfl) h3,fun id' h4 h5=>?_⟩;have:=h8.inj id id' b (by rw [h1]; rfl) (isL id' h4) h3 (b0 id' b h5).2;subst this; rw [h2] at h4; cases h4
 have a3:∀ b i,J6 w' β' L' b i->J6 w' (qP β β' L0 L') (oL L L0 L') b i:=fun b i hs=>by
  refine⟨hs.lt,nothid b i hs.seen,fun id o h1 h2=>?_⟩;cases h3:inL L' id with
  | true=>
   obtain⟨o',h0⟩:=Py h3;obtain⟨e1,e2⟩:=h6 id o' h0;rw [h1] at e1; cases e1;exact hs.kept id _ h0 (e2 ▸ h2)
  | false=>
   obtain⟨r1,r2,r3⟩:=h9 id o h1 h3;rw [r3] at h2;obtain⟨f1,f2⟩:=farrest id o b r2 r1 h2;have hn:=hs.seen;rw [a6 b i f1] at hn;have b4:J6 w β L b i:=Classical.byContradiction fun b5=>hn ⟨f1,b5,fun id' h4 h5=>f2 id' h4 (by simp [β0,h4,h5])⟩;exact b4.kept id o r2 h2
 have step:Step w β L w' (qP β β' L0 L') (oL L L0 L'):=by
  refine⟨st.os,st.tape,st.output,st.size,fun _ _ _=>Iff.rfl,fun b i hs=>?_,fun b hb hf=>?_,fun id t cs h1=>?_,fun id t cs h1=>?_,fun id m n es h1=>?_,fun id t k ver xs h1=>?_,fun id t k ver hw h1=>?_⟩
  ·obtain⟨s1,s2⟩:=st.AX b i (hS b i hs);exact⟨a3 b i s1,s2⟩
  ·obtain⟨f1,f2⟩:=st.far b hb (fun id h1 h2=>hf id (isL id h1) (b0 id b h2).2);refine⟨f1,fun id h1 h2=>?_⟩;obtain⟨o,ho⟩:=Py h1;cases h3:inL L' id with
   | true=>
    obtain⟨o',h0⟩:=Py h3;exact f2 id h3 ((h6 id o' h0).2 ▸ h2)
   | false=>
    obtain⟨r1,r2,r3⟩:=h9 id o ho h3;exact hf id (by rw [r2]; rfl) (r3 ▸ h2)
  ·cases h2:inL L0 id with
   | true=>
    obtain⟨o,ho,h0⟩:=a0 id h2;rw [h1] at h0; cases h0;obtain⟨s1,cs',s2⟩:=st.box id t cs ho;exact⟨(h6 id _ s2).2.trans (s1.trans (hid id _ ho).2),cs',(h6 id _ s2).1⟩
   | false=>exact⟨(h7 id _ h1 h2).2,cs,(h7 id _ h1 h2).1⟩
  ·cases h2:inL L0 id with
   | true=>
    obtain⟨o,ho,h0⟩:=a0 id h2;rw [h1] at h0; cases h0;obtain⟨s1,cs',s2⟩:=st.map id t cs ho;exact⟨(h6 id _ s2).2.trans (s1.trans (hid id _ ho).2),cs',(h6 id _ s2).1⟩
   | false=>exact⟨(h7 id _ h1 h2).2,cs,(h7 id _ h1 h2).1⟩
  ·cases h2:inL L0 id with
   | true=>
    obtain⟨o,ho,h0⟩:=a0 id h2;rw [h1] at h0; cases h0;obtain⟨s1,n',cs',s2⟩:=st.iter id m n es ho;exact⟨(h6 id _ s2).2.trans (s1.trans (hid id _ ho).2),n',cs',(h6 id _ s2).1⟩
   | false=>exact⟨(h7 id _ h1 h2).2,n,es,(h7 id _ h1 h2).1⟩
  ·cases h2:inL L0 id with
   | true=>
    obtain⟨o,ho,h0⟩:=a0 id h2;rw [h1] at h0; cases h0;obtain⟨ver',xs',s1,s2,s3⟩:=st.vec id t k ver xs ho;refine⟨ver',xs',(h6 id _ s1).1,s2,fun e=>?_⟩;obtain⟨q1,q2,q3⟩:=s3 e;exact⟨q1,(h6 id _ s1).2.trans (q2.trans (hid id _ ho).2),fun b hb=>q3 b ((hid id _ ho).2.trans hb)⟩
   | false=>
    refine⟨ver,xs,(h7 id _ h1 h2).1,Sf,fun _=>⟨rfl,(h7 id _ h1 h2).2,fun b hb=>?_⟩⟩;obtain⟨f1,f2⟩:=farrest id _ b h1 h2 hb;exact cR (st.far b f1 (fun id' h4=>f2 id' h4)).1
  ·cases h2:inL L0 id with
   | true=>
    obtain⟨o,ho,h0⟩:=a0 id h2;rw [h1] at h0; cases h0;obtain⟨ver',b6,s1,s2,s3⟩:=st.spare id t k ver hw ho;refine⟨ver',b6,(h6 id _ s1).1,s2,fun e=>?_⟩;obtain⟨q1,q2,q3⟩:=s3 e;exact⟨q1,(h6 id _ s1).2.trans (q2.trans (hid id _ ho).2),fun b hb=>q3 b ((hid id _ ho).2.trans hb)⟩
   | false=>
    refine⟨ver,hw,(h7 id _ h1 h2).1,Sf,fun _=>⟨rfl,(h7 id _ h1 h2).2,fun b hb=>?_⟩⟩;obtain⟨f1,f2⟩:=farrest id _ b h1 h2 hb;exact(st.far b f1 (fun id' h4=>f2 id' h4)).1
 refine⟨v,r,β',L',he,hR,?_,step,b2.up a3 h6⟩;refine⟨fun b i h=>S0 (h8.hid b i h) st.size,fun id b h1 h2=>?_,fun id b j h1 h2=>?_,fun id id' b h1 h2 h3 h4=>?_,fun id o ho=>?_⟩
 ·obtain⟨o,ho⟩:=Py h1;cases h3:inL L' id with
  | true=>
   obtain⟨o',h0⟩:=Py h3;exact sat'.bnd id b h3 ((h6 id o' h0).2 ▸ h2)
  | false=>
   obtain⟨r1,r2,r3⟩:=h9 id o ho h3;exact S0 (h8.bnd id b (by rw [r2]; rfl) (r3 ▸ h2)) st.size
 ·obtain⟨o,ho⟩:=Py h1;cases h3:inL L' id with
  | true=>
   obtain⟨o',h0⟩:=Py h3;exact nothid b j (sat'.apart id b j h3 ((h6 id o' h0).2 ▸ h2))
  | false=>
   obtain⟨r1,r2,r3⟩:=h9 id o ho h3;exact h8.apart id b j (by rw [r2]; rfl) (r3 ▸ h2)
 ·have key:∀ id id',inL L' id=true->(qP β β' L0 L').at_ id=some b->(lk (oL L L0 L') id').isSome=true->inL L' id'=false->(qP β β' L0 L').at_ id'=some b->False:=by
   intro id id' h3 h2 b7 b8 b9;obtain⟨o',h0⟩:=Py h3;obtain⟨o2,a2⟩:=Py b7;obtain⟨r1,r2,r3⟩:=h9 id' o2 a2 b8;obtain⟨f1,f2⟩:=farrest id' o2 b r2 r1 (r3 ▸ b9);exact(st.far b f1 (fun i h=>f2 i h)).2 id h3 ((h6 id o' h0).2 ▸ h2)
  cases e1:inL L' id with
  | true=>
   cases e2:inL L' id' with
   | true=>
    obtain⟨o1,a7⟩:=Py e1;obtain⟨o2,a2⟩:=Py e2;exact sat'.inj id id' b e1 e2 ((h6 id o1 a7).2 ▸ h3) ((h6 id' o2 a2).2 ▸ h4)
   | false=>exact(key id id' e1 h3 h2 e2 h4).elim
  | false=>
   cases e2:inL L' id' with
   | true=>exact(key id' id e2 h4 h1 e1 h3).elim
   | false=>
    obtain⟨o1,a7⟩:=Py h1;obtain⟨o2,a2⟩:=Py h2;obtain⟨_,r2,r3⟩:=h9 id o1 a7 e1;obtain⟨_,q2,q3⟩:=h9 id' o2 a2 e2;exact h8.inj id id' b (by rw [r2]; rfl) (by rw [q2]; rfl) (r3 ▸ h3) (q3 ▸ h4)
 ·cases h3:inL L' id with
  | true=>
   obtain⟨o',h0⟩:=Py h3;obtain⟨e1,e2⟩:=h6 id o' h0;rw [ho] at e1; cases e1;rw [e2];exact(sat'.obj id _ h0).up a3 h6
  | false=>
   obtain⟨r1,r2,r3⟩:=h9 id o ho h3;rw [r3];exact(h8.obj id o r2).step step (fun b hb=>by
    obtain⟨f1,f2⟩:=farrest id o b r2 r1 hb;exact(st.far b f1 (fun id' h4=>f2 id' h4)).1)
end Go.Proofs.YtibhpogonkdiaaaGreat
