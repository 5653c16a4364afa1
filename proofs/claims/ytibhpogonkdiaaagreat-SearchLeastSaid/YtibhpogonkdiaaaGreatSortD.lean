/-
 slices.SortFunc in a model. Slices of whole numbers of the call's own,sorted in place by slices.SortFunc of slices (or other cells that refer to memo
-/
import Derived.Test.YtibhpogonkdiaaaGreatSort
import Derived.Shelf.SlSortCmp.Kit1
set_option maxRecDepth 100000
namespace Go.Proofs.YtibhpogonkdiaaaGreat
open Go.RowKit Go.Shelf Go.Sort

open Classical in
noncomputable def zK {α:Type} [Inhabited α] (cmp:α->α->Option Int) (xs:List α):Option (List α):=
 if h:∃ cf:α->α->Int,(∀ x y,cmp x y=some (cf x y))∧SWO (ltOf cf)∧xs.length < 4611686018427387904 then some (aN h.choose xs) else none
variable {α:Type} {r xs:List α} {cmp:α->α->Option Int}
theorem J65 [Inhabited α] (h:zK cmp xs=some r):∃ cf:α->α->Int,(∀ x y,cmp x y=some (cf x y))∧SWO (ltOf cf)∧xs.length < 4611686018427387904∧r=aN cf xs:=by
 unfold zK at h;split at h
 ·grind
 ·cases h
theorem H66 [Inhabited α] (cf:α->α->Int) (hc:∀ x y,cmp x y=some (cf x y)) (hO:SWO (ltOf cf)) (hl:xs.length < 4611686018427387904):zK cmp xs=some (aN cf xs):=by
 have hh:∃ cf:α->α->Int,(∀ x y,cmp x y=some (cf x y))∧SWO (ltOf cf)∧xs.length < 4611686018427387904:=⟨cf,hc,hO,hl⟩;unfold zK;rw [dif_pos hh];have:hh.choose=cf:=by
  grind
 rw [this]

theorem J1f {vs:AM} (h:vs.all Value.oneCell'=true):∀ v∈vs,v.oneCell'=true:=List.all_eq_true.1 h

section ops
variable {P:Program} {o:Oper} {l:Fr} {L L'':Loc}
theorem H29 {F:FuncId} {x y:Operand} {ts:Array TypeId} {k i ver E n:Nat} {g:FuncId} {BA:AG} {α:Type} [Inhabited α] {f:α->AV} {cmp:α->α->Option Int} {xs r:List α} (enc:α->AM) (ho:o.op=.call { callee:=.value (.func F),args:=#[x,y],argTypes:=ts })
  (hs:G20 P F k) (h0:SortNone P F) (hf:Flat f enc) (hk:∀ x,(enc x).length=k) (h1:∀ x,∀ v∈enc x,v.oneCell'=true) (hB:Hh P F=true) (h5:Hh P g=true)
  (hx:ev l x=.vec i ver k n) (hy:ev l y=.fn g BA) (hi:lk L i=some (.vec E k ver (xs.map f))) (hn:n=xs.length) (h3:Qw (fun _=>false) BA=true) (h:zK cmp xs=some r)
  (h4:∀ x y q,cmp x y=some q->Pure P g ([f x,f y]++BA) (·=I64 q)) (hL:(i,.vec E k ver (r.map f))::sY L [(i,.vec E k ver (xs.map f))]=L''):H7 P o l L (Is (.tup []) L''):=by
 obtain⟨cf,hc,hO,hl,rfl⟩:=J65 h;subst hn;have h2:=Hf9 (P:=P) (F:=F) (k:=k) hs h0 enc hf hk h1 cf hO g h5 BA h3 (fun a b=>h4 a b _ (hc a b)) i ver E xs hl;refine mG (xs:=[x,y]) ho h2 hB ⟨.inl hx,?_,.inl hy,?_,trivial⟩ ⟨hi,trivial⟩ ?_ ?_ hL
 ·simp [AV.refs,inL,lk]
 ·exact Jc _ _ h3
 ·simp [closedIn,Jn.refs]
 ·simp [oS,inL,lk]
end ops
set_option linter.unusedVariables false
open Go.RowKit Go.Sort Go.Shelf

def J11 (x:Int):AD->AD
 | []=>[x]
 | y::r=>bif decide (x<=y) then x::y::r else y::J11 x r
def lJ:AD->AD
 | []=>[]
 | x::r=>J11 x (lJ r)
theorem RF (x:Int):∀ l,(J11 x l).Perm (x::l)
 | []=>List.Perm.refl _
 | y::r=>by
  rw [J11];cases decide (x<=y) with
  | true=>exact List.Perm.refl _
  | false=>exact(List.Perm.cons y (RF x r)).trans (List.Perm.swap x y r)
theorem qD:∀ l,(lJ l).Perm l
 | []=>List.Perm.refl _
 | x::r=>(RF x _).trans ((qD r).cons x)
theorem ZQ {x:Int}:∀ {l:AD},l.Pairwise (·<=·)->(J11 x l).Pairwise (·<=·)
 | [],_=>by simp [J11]
 | y::r,h=>by
  rw [J11];rw [List.pairwise_cons] at h;cases hb:decide (x<=y) with
  | true=>
   have h0:=S6 hb;rw [cond_true,List.pairwise_cons];refine⟨fun z hz=>?_,List.pairwise_cons.2 h⟩;rcases Sw.1 hz with rfl | hz
   ·exact h0
   ·have:=h.1 z hz; omega
  | false=>
   have h0:=S7 hb;rw [cond_false,List.pairwise_cons];refine⟨fun z hz=>?_,ZQ h.2⟩;rcases Sw.1 ((RF x r).mem_iff.1 hz) with rfl | hz
   ·omega
   ·exact h.1 z hz
theorem uJ:∀ l,(lJ l).Pairwise (·<=·)
 | []=>List.Pairwise.nil
 | x::r=>ZQ (uJ r)
theorem H67 (xs:AD):(xs.mergeSort fun x y=>decide (x<=y))=lJ xs:=by
 have h1:=List.mergeSort_perm xs (fun x y=>decide (x<=y));have h2:(xs.mergeSort fun x y=>decide (x<=y)).Pairwise (fun a b:Int=>decide (a<=b)=true):=List.pairwise_mergeSort (le:=fun x y:Int=>decide (x<=y)) (fun a b c h g=>by simp at *; omega) (fun a b=>by simp; omega) xs;refine List.Perm.eq_of_pairwise (le:=fun a b:Int=>decide (a<=b)=true) (fun a b _ _ h0 h3=>by simp at *; omega) h2 ((uJ xs).imp fun h=>S8 h) (h1.trans (qD xs).symm)
theorem Gc3 (xs:AD):(lJ xs).length=xs.length:=(qD xs).length_eq
def wI (xs:AD):Option AD:=bif decide (xs.length < 4611686018427387904) then some (lJ xs) else none
theorem Hfc {xs r:AD} (h:wI xs=some r):xs.length < 4611686018427387904∧r=lJ xs:=by
 unfold wI at h;grind

def G7d (P:Program) (F:FuncId):Prop:=
 ∀ (blk off cap:Nat) (zs:AD) (w:World),Holds (Value.int .i64) w blk off zs.toArray->blk < w.heap.size->zs.length < 4611686018427387904 ->
  Calls P F #[.slice (some ⟨blk,off,none⟩) zs.length cap] w fun e w'=>e=.returned (.tuple #[])∧∃ n os,w'=grow (putRow (Value.int .i64) (Sort.ahead w n) blk off (zs.mergeSort fun x y=>decide (x<=y)).toArray) os
def RP (P:Program) (F:FuncId):Prop:=
 ∀ (p:Option Addr) (cap:Nat) (w:World),Calls P F #[.slice p 0 cap] w fun e w'=>e=.returned (.tuple #[])∧w'=w

theorem Gdb (xs:AD):flat (xs.map I64)=xs.map I64:=by
 induction xs with
 | nil=>rfl
 | cons x r ih=>rw [List.map_cons,flat,ih]; rfl

theorem H68 {P:Program} {F:FuncId} (hs:G7d P F) (h0:RP P F) (i ver E:Nat) (xs:AD) (a6:xs.length < 4611686018427387904) :
  Q4 P F [.vec i ver 1 xs.length] [(i,.vec E 1 ver (xs.map I64))] (fun r L'=>r=.tup []∧L'=[(i,.vec E 1 ver ((lJ xs).map I64))]):=by
 intro w β vs h4 hl hv;have hi:lk [(i,Jn.vec E 1 ver (xs.map I64))] i=some (.vec E 1 ver (xs.map I64)):=by simp [lk]
 have a9:vs.size=1:=hl;obtain⟨v0,rfl⟩:∃ v0,vs=#[v0]:=by
  refine⟨vs[0],?_⟩;apply Array.ext
  ·simp [a9]
  ·intro j b9 h7;have:j=0:=by omega
   subst this; rfl
 have b0:=hv 0 _ v0 rfl rfl;obtain⟨-,c0,b1⟩:=fF h4 hi b0;have h5:=Gc3 xs;have h8:∀ y∈(lJ xs).map I64,y.cells.length=1:=fun y hy=>by
  obtain⟨z,_,rfl⟩:=Su.1 hy;rfl
 have h2:∀ L:Loc,L=[(i,Jn.vec E 1 ver ((lJ xs).map I64))]->jM ((i,Jn.vec E 1 ver ((lJ xs).map I64))::[(i,Jn.vec E 1 ver (xs.map I64))]) L:=fun L hL id=>by
  subst hL;rw [Gm,Gm,Gm];by_cases e:i=id
  ·rw [if_pos e,if_pos e]
  ·rw [if_neg e,if_neg e,if_neg e]
 rcases b1 with ⟨rfl,b2,b3⟩ | ⟨b,cap,cur,rfl,hb,q1,q2,q3,q4,q5⟩
 ·refine(h0 none 0 w).mono fun e w' h=>?_;obtain⟨rfl,rfl⟩:=h;have hx:xs=[]:=by simpa using b2
  subst hx;have a1:lJ ([]:AD)=[]:=S1 (by simpa using h5);obtain⟨st,sat⟩:=Rn (w':=w') (t:=E) (k:=1) (AZ:=ver) (xs':=(lJ ([]:AD)).map I64) (ob':=none) h4 (.inr ⟨ver,_,hi,Sf,fun _=>⟨by simp [a1],b3.symm,fun _ _=>rfl⟩⟩)
   rfl rfl ⟨rfl,Sf⟩ (Sf) (fun b hb _=>rfl) (.inl rfl)
  have s2:=sat ⟨h8,.inl ⟨rfl,by simp [a1]⟩⟩;exact⟨_,_,_,_,rfl,s2.BI (h2 _ rfl),st.BI (h2 _ rfl),.tup rfl (fun j u v hu=>by simp at hu),rfl,rfl⟩
 ·have a2:b < w.heap.size:=(Pz q3).1;have a3:(xs.map I64).length=xs.length:=by simp
  rw [a3] at q1;have hH:Holds (Value.int .i64) w b 0 xs.toArray:=by
   intro j hj;have h7:j < xs.length:=by simpa using hj
   have h6:j < cur.size:=by rw [q4]; omega
   have hu:(flat (xs.map I64))[j]? = some (.sc (Value.int .i64 xs[j])):=by
    rw [Gdb,Sj,Sb h7]; rfl
   have hd:=q5 j _ cur[j] hu (by simp [h6]);have he:cur[j]=Value.int .i64 xs[j]:=hd.inv_sc;constructor
   ·simp [World.cell?,q3,h6,he,h7]
   ·simp [World.frozen?,q3]
  have a0:=hs b 0 cap xs w hH a2 a6;rw [a3];refine a0.mono fun e w' h=>?_;obtain⟨rfl,n,os,rfl⟩:=h;rw [H67];obtain⟨d',h9⟩:∃ d':Array Int,d'=(lJ xs).toArray:=⟨_,rfl⟩;have b4:d'.size=xs.length:=by rw [h9]; simp [Gc3]
  have b5:lJ xs=d'.toList:=by rw [h9]
  rw [<- h9];have h3:(grow (putRow (Value.int .i64) (Sort.ahead w n) b 0 d') os).heap[b]? = some (.cells (putCells (Value.int .i64) 0 d' cur) E (0,0)):=by
   unfold grow putRow mapBlock;simp only [Sort.ahead];rw [Array.getElem?_append_left (by simpa using a2),Array.getElem?_modify,if_pos rfl,q3];rfl
  have a4:(putCells (Value.int .i64) 0 d' cur).size=cur.size:=by simp [putCells]
  have a7:∀ j,j < xs.length->(putCells (Value.int .i64) 0 d' cur)[j]? = some (Value.int .i64 d'[j]!):=by
   intro j hj;have h6:j < cur.size:=by rw [q4]; omega
   simp [putCells,h6,b4,hj]
  have f1:(grow (putRow (Value.int .i64) (Sort.ahead w n) b 0 d') os).os=w.os:=rfl;have f2:(grow (putRow (Value.int .i64) (Sort.ahead w n) b 0 d') os).tape=w.tape:=rfl;have f3:(grow (putRow (Value.int .i64) (Sort.ahead w n) b 0 d') os).output=w.output∧w.drawn<=(grow (putRow (Value.int .i64) (Sort.ahead w n) b 0 d') os).drawn:=⟨rfl,Nat.le_add_right _ _⟩;have f4:w.heap.size<=(grow (putRow (Value.int .i64) (Sort.ahead w n) b 0 d') os).heap.size:=by
   rw [size_grow];simp only [putRow,mapBlock,Array.size_modify,Sort.ahead]; omega
  have f5:∀ b',b' < w.heap.size->b≠b'->(grow (putRow (Value.int .i64) (Sort.ahead w n) b 0 d') os).heap[b']? = w.heap[b']? := by
   intro b' h1 a8;unfold grow putRow mapBlock;simp only [Sort.ahead];rw [Array.getElem?_append_left (by simpa using h1),Array.getElem?_modify,if_neg a8]
  clear hH;generalize grow (putRow (Value.int .i64) (Sort.ahead w n) b 0 d') os=W at h3 f1 f2 f3 f4 f5;obtain⟨st,sat⟩:=Rn (w':=W) (t:=E) (k:=1) (AZ:=ver) (xs':=(lJ xs).map I64) (ob':=β.at_ i) h4
   (.inr ⟨ver,_,hi,Sf,fun _=>⟨by rw [Ss,Ss,h5],rfl,fun b' h1=>by
    rw [hb] at h1; cases h1;rw [World.shape?,h3,World.shape?,q3]; simp only [a4]⟩⟩) f1 f2 f3 f4
   (fun b' h1 b6=>f5 b' h1 (fun e=>b6 (by rw [inL,hi]; rfl) (by rw [hb,e])))
   (.inr (.inl ⟨by rw [inL,hi]; rfl,rfl⟩))
  have s2:=sat ⟨h8,.inr ⟨b,hb,_,h3,by rw [a4,q4,Ss,h5]; omega,fun j u v hu a5=>by
   rw [Gdb] at hu;have hj:=(Sa hu).1;rw [Ss,h5] at hj;rw [a7 j hj] at a5;have b7:=Sc a5;subst b7;rw [b5,Sj,Array.getElem?_toList,Array.getElem?_eq_getElem (by omega),Option.map_some] at hu;have b8:=Sc hu;subst b8;rw [getElem!_pos _ j (by omega)];exact .sc⟩⟩
  exact⟨_,_,_,_,rfl,s2.BI (h2 _ rfl),st.BI (h2 _ rfl),.tup rfl (fun j u v hu=>by simp at hu),rfl,rfl⟩

section ops
variable {P:Program} {o:Oper} {l:Fr} {L L'':Loc}
theorem Q1c {F:FuncId} {x:Operand} {ts:Array TypeId} {i ver E n:Nat} {xs r:AD} (ho:o.op=.call { callee:=.value (.func F),args:=#[x],argTypes:=ts })
  (hs:G7d P F) (h0:RP P F) (hB:Hh P F=true)
  (hx:ev l x=.vec i ver 1 n) (hi:lk L i=some (.vec E 1 ver (xs.map I64))) (hn:n=xs.length) (h:wI xs=some r)
  (hL:(i,.vec E 1 ver (r.map I64))::sY L [(i,.vec E 1 ver (xs.map I64))]=L''):H7 P o l L (Is (.tup []) L''):=by
 obtain⟨hl,rfl⟩:=Hfc h;subst hn;have h1:=H68 (P:=P) (F:=F) hs h0 i ver E xs hl;refine mG (xs:=[x]) ho h1 hB ⟨.inl hx,?_,trivial⟩ ⟨hi,trivial⟩ ?_ ?_ hL
 ·simp [AV.refs,inL,lk]
 ·simp [closedIn,Jn.refs]
 ·simp [oS,inL,lk]
end ops
open Go.RowKit Go.Sort Go.Shelf

def iR {α:Type} (cf:α->α->Int) (xs:List α):Prop:=xs.Pairwise fun x y=>ltOf cf y x=false
open Classical in
noncomputable def wJ {α:Type} (cmp:α->α->Option Int) (xs:List α):Option (List α):=
 if h:∃ r,∃ cf:α->α->Int,(∀ x y,cmp x y=some (cf x y))∧SWO (ltOf cf)∧xs.length < 4611686018427387904∧r.Perm xs∧iR cf r∧∀ r',r'.Perm xs->iR cf r'->r'=r then some h.choose else none
theorem Hfd (h:wJ cmp xs=some r):∃ cf:α->α->Int,(∀ x y,cmp x y=some (cf x y))∧SWO (ltOf cf)∧xs.length < 4611686018427387904∧r.Perm xs∧iR cf r∧∀ r',r'.Perm xs->iR cf r'->r'=r:=by
 unfold wJ at h;split at h
 ·grind
 ·cases h
theorem Gc4 (cf:α->α->Int) (hc:∀ x y,cmp x y=some (cf x y)) (hO:SWO (ltOf cf)) (hl:xs.length < 4611686018427387904) (hp:r.Perm xs) (hs:iR cf r) (hu:∀ r',r'.Perm xs->iR cf r'->r'=r):wJ cmp xs=some r:=by
 have hh:∃ r,∃ cf:α->α->Int,(∀ x y,cmp x y=some (cf x y))∧SWO (ltOf cf)∧xs.length < 4611686018427387904∧r.Perm xs∧iR cf r∧∀ r',r'.Perm xs->iR cf r'->r'=r:=⟨r,cf,hc,hO,hl,hp,hs,hu⟩;unfold wJ;rw [dif_pos hh];obtain⟨cf',h1,h2,h3,h4,h5,h6⟩:=hh.choose_spec;have:cf'=cf:=by
  grind
 grind

def G7e (P:Program) (F:FuncId):Prop:=
 ∀ {α:Type} [Inhabited α] (enc:α->Value),OneCell enc->∀ (cf:α->α->Int),SWO (ltOf cf)->∀ (g:Nat) (cb:Array Value) (blk off cap:Nat) (d:Array α) (w:World),
  (∀ args w,(callFunc g args).run P w=.ok (.enter g args) w)->CmpLays1 P g cb enc cf blk off d.size w->Holds enc w blk off d->blk < w.heap.size->d.size < 4611686018427387904 ->
  Calls P F #[.slice (some ⟨blk,off,none⟩) d.size cap,.func (.func g) #[] cb] w fun e w'=>e=.returned (.tuple #[])∧∃ d' n os,PermIn 0 d.size d d'∧SortedIn (ltOf cf) 0 d.size d'∧w'=sortWorld enc w blk off n d' os

theorem Jbb [Inhabited α] {d d':Array α} (h:PermIn 0 d.size d d'):d'.toList.Perm d.toList∧d'.size=d.size:=by
 obtain⟨h1,h2,h3⟩:=h;have e1:d'.extract 0 d.size=d':=by rw [Array.extract_eq_self_of_le (by omega)]
 have e2:d.extract 0 d.size=d:=by rw [Array.extract_eq_self_of_le (by omega)]
 grind
theorem Hf8 [Inhabited α] {cf:α->α->Int} {d:Array α} (h:SortedIn (ltOf cf) 0 d.size d):iR cf d.toList:=by
 refine List.pairwise_iff_getElem.2 fun i j hi hj h0=>?_;have:=h i j (Nat.zero_le _) h0 (by simpa using hj);grind

theorem GS {α:Type} {f:α->AV} (hf:∀ x,(f x).cells=[f x]):∀ xs:List α,flat (xs.map f)=xs.map f
 | []=>rfl
 | x::r=>by rw [List.map_cons,flat,hf,GS hf r]; rfl

set_option maxHeartbeats 1000000 in
theorem H69 {P:Program} {F:FuncId} (hs:G7e P F) (h0:SortNone P F) {f:α->AV} (hf:∀ x,(f x).cells=[f x]) (c0:∀ x,(f x).isCell=true) (c1:∃ x0 v0,v0.oneCell'=true∧∀ (w:World) (S:Nat->Nat->Prop),D w S (f x0) v0) (cf:α->α->Int) (hO:SWO (ltOf cf)) (g:FuncId) (hB:Hh P g=true) (BA:AG) (c2:Qw (fun _=>false) BA=true)
  (b3:∀ x y,Pure P g ([f x,f y]++BA) (·=I64 (cf x y))) (i ver E:Nat) (xs r:List α) (b4:xs.length < 4611686018427387904) (hu:∀ r',r'.Perm xs->iR cf r'->r'=r) :
  Q4 P F [.vec i ver 1 xs.length,.fn g BA] [(i,.vec E 1 ver (xs.map f))] (fun q L'=>q=.tup []∧L'=[(i,.vec E 1 ver (r.map f))]):=by
 intro w β vs a0 hl hv;have hi:lk [(i,Jn.vec E 1 ver (xs.map f))] i=some (.vec E 1 ver (xs.map f)):=by simp [lk]
 have c3:vs.size=2:=hl;obtain⟨v0,v1,rfl⟩:∃ v0 v1,vs=#[v0,v1]:=by
  refine⟨vs[0],vs[1],?_⟩;apply Array.ext
  ·simp [c3]
  ·intro j e0 a3;have:j=0∨j=1:=by omega
   rcases this with rfl | rfl <;> rfl
 have a4:=hv 0 _ v0 rfl rfl;have c4:=hv 1 _ v1 rfl rfl;obtain⟨cb,rfl,c5,c6⟩:=c4.inv_fn;have b5:∀ (j:Nat) u v,BA[j]? = some u->cb[j]? = some v->D w (J6 w β [(i,Jn.vec E 1 ver (xs.map f))]) u v:=fun j u v hu h4=>(c6 j u v hu h4).toD (aD c2 u (Sd hu));obtain⟨-,e2,c7⟩:=fF a0 hi a4;have a5:∀ y∈r.map f,y.cells.length=1:=fun y hy=>by
  obtain⟨z,_,rfl⟩:=Su.1 hy;rw [hf]; rfl
 have h8:∀ L:Loc,L=[(i,Jn.vec E 1 ver (r.map f))]->jM ((i,Jn.vec E 1 ver (r.map f))::[(i,Jn.vec E 1 ver (xs.map f))]) L:=fun L hL id=>by
  subst hL;rw [Gm,Gm,Gm];by_cases e:i=id
  ·rw [if_pos e,if_pos e]
  ·rw [if_neg e,if_neg e,if_neg e]
 rcases c7 with ⟨rfl,c8,a8⟩ | ⟨b,cap,cur,rfl,hb,q1,q2,q3,q4,q5⟩
 ·refine(h0 g cb w).mono fun e w' h=>?_;obtain⟨rfl,n,os,rfl⟩:=h;have hx:xs=[]:=by simpa using c8
  subst hx;have hr:r=[]:=(hu [] (List.Perm.refl _) List.Pairwise.nil).symm;subst hr;obtain⟨st,sat⟩:=Rn (w':=grow (w.drewN n) os) (t:=E) (k:=1) (AZ:=ver) (xs':=([]:List α).map f) (ob':=none) a0 (.inr ⟨ver,_,hi,Sf,fun _=>⟨rfl,a8.symm,fun b hb=>by rw [a8] at hb; cases hb⟩⟩)
   rfl rfl ⟨rfl,by simp [grow,World.drewN]⟩ (by simp [grow,World.drewN]) (fun b hb _=>by simp [grow,World.drewN,Array.getElem?_append_left hb]) (.inl rfl)
  have s2:=sat ⟨a5,.inl ⟨rfl,rfl⟩⟩;exact⟨_,_,_,_,rfl,s2.BI (h8 _ rfl),st.BI (h8 _ rfl),.tup rfl (fun j u v hu=>by simp at hu),rfl,rfl⟩
 ·have a9:b < w.heap.size:=(Pz q3).1;have b0:(xs.map f).length=xs.length:=by simp
  rw [b0] at q1;rw [GS hf] at q5;have h5:∀ j,j < xs.length->j < cur.size:=fun j hj=>by rw [q4]; omega
  have hD:∀ (j:Nat) (hj:j < xs.length),D w (J6 w β [(i,Jn.vec E 1 ver (xs.map f))]) (f xs[j]) (cur[j]'(h5 j hj)):=fun j hj=>q5 j _ _ (by simp [hj]) (by simp [h5 j hj])
  -- the values, with what they are
  let A:Type:={ p:Value×α // p.1.oneCell'=true∧D w (J6 w β [(i,Jn.vec E 1 ver (xs.map f))]) (f p.2) p.1 }
  have mk:∀ (j:Nat) (hj:j < xs.length),(cur[j]'(h5 j hj)).oneCell'=true:=fun j hj=>V.cell (w:=w) (β:=β) (L:=[(i,Jn.vec E 1 ver (xs.map f))]) (.data (hD j hj)) (c0 _);obtain⟨d,hd⟩:∃ d:Array A,d=Array.ofFn (n:=xs.length) fun j=>⟨(cur[j.1]'(h5 j.1 j.2),xs[j.1]),mk j.1 j.2,hD j.1 j.2⟩:=⟨_,rfl⟩;have h6:d.size=xs.length:=by rw [hd]; simp
  have c9:d.toList.map (fun p:A=>p.1.2)=xs:=by
   apply List.ext_getElem
   ·simp [h6]
   ·intro j h1 h2;simp [hd]
  obtain⟨x0,v0,a4,d0⟩:=c1;have:Inhabited A:=⟨⟨(v0,x0),a4,d0 _ _⟩⟩
  let enc:A->Value:=fun p=>p.1.1
  have b6:OneCell enc:=fun p=>p.2.1
  let cfA:A->A->Int:=fun p q=>cf p.1.2 q.1.2
  have d1:SWO (ltOf cfA):=⟨fun x=>hO.irrefl x.1.2,fun x y z=>hO.trans x.1.2 y.1.2 z.1.2,fun x y z=>hO.ntrans x.1.2 y.1.2 z.1.2⟩;have hH:Holds enc w b 0 d:=by
   intro j hj;have a3:j < xs.length:=by rw [<- h6]; exact hj
   have e1:enc d[j]! = cur[j]'(h5 j a3):=by rw [getElem!_pos d j hj]; simp [hd,enc]
   constructor
   ·rw [e1]; simp [World.cell?,q3,h5 j a3]
   ·simp [World.frozen?,q3]
  have eg:∀ args w,(callFunc g args).run P w=.ok (.enter g args) w:=fun args w=>Hh.out hB args w;have hC:CmpLays1 P g cb enc cfA b 0 d.size w:=by
   intro m os dk e3 x y;have h3:∀ b' j,J6 w β [(i,Jn.vec E 1 ver (xs.map f))] b' j->Rq (sortWorld enc w b 0 m dk os) b' j=Rq w b' j∧b' < (sortWorld enc w b 0 m dk os).heap.size:=by
    intro b' j hs;have a6:b'≠b:=fun e=>by
     have:=hs.kept i _ hi (by rw [e]; exact hb);exact this
    constructor
    ·refine Jt (w:=w) ?_;unfold sortWorld;simp only [grow];rw [Array.getElem?_append_left (by simp only [putRow,mapBlock,Array.size_modify,Sort.ahead]; exact hs.lt)];simp only [putRow,mapBlock,Sort.ahead,Array.getElem?_modify,if_neg (Ne.symm a6)]
    ·unfold sortWorld;simp only [size_grow,putRow,mapBlock,Array.size_modify,Sort.ahead];have:=hs.lt; omega
   generalize sortWorld enc w b 0 m dk os=W at h3 ⊢;have b7:(#[enc x,enc y]++cb).size=([f x.1.2,f y.1.2]++BA).length:=by rw [Array.size_append,Sn,c5]; rfl
   have d2:=G53 (w:=W) (b3 x.1.2 y.1.2) b7;refine(d2 (fun j a v ha h4=>?_)).mono fun e w' h=>?_
   ·rcases S4 j 2 with hj | hj
    ·rw [Sh (by simpa using hj)] at ha;rw [Array.getElem?_append_left (by simpa using hj)] at h4;have:j=0∨j=1:=by omega
     rcases this with rfl | rfl
     ·simp at ha h4; subst ha h4; exact x.2.2.mono fun b' j' hs=>⟨(h3 b' j' hs).2,(h3 b' j' hs).1⟩
     ·simp at ha h4; subst ha h4; exact y.2.2.mono fun b' j' hs=>⟨(h3 b' j' hs).2,(h3 b' j' hs).1⟩
    ·rw [Sg (by simpa using hj)] at ha;rw [Array.getElem?_append_right (by simpa using hj)] at h4;exact(b5 (j - 2) a v (by simpa using ha) (by simpa using h4)).mono fun b' j' hs=>⟨(h3 b' j' hs).2,(h3 b' j' hs).1⟩
   ·obtain⟨v,rfl,hd,q,os',rfl⟩:=h;have d3:=hd.inv_sc;subst d3;exact⟨rfl,q,os',rfl⟩
  have a2:=hs enc b6 cfA d1 g cb b 0 cap d w eg hC hH a9 (by rw [h6]; exact b4);rw [h6] at a2;rw [b0];refine a2.mono fun e w' h=>?_;obtain⟨rfl,d',n,os,hp,d4,rfl⟩:=h;have d5:PermIn 0 d.size d d':=by rw [h6]; exact hp
  obtain⟨d6,d7⟩:=Jbb d5;have a1:d'.size=xs.length:=by rw [d7,h6]
  have hr:d'.toList.map (fun p:A=>p.1.2)=r:=by
   refine hu _ ?_ ?_
   ·have:=d6.map (fun p:A=>p.1.2)
    rwa [c9] at this
   ·have:=Hf8 (cf:=cfA) (d:=d') (by rw [a1]; exact d4);unfold iR at this ⊢;exact List.pairwise_map.2 this
  have a7:r.length=xs.length:=by rw [<- hr]; simp [a1]
  have h9:(sortWorld enc w b 0 n d' os).heap[b]? = some (.cells (putCells enc 0 d' cur) E (0,0)):=by
   unfold sortWorld grow putRow mapBlock;simp only [Sort.ahead];rw [Array.getElem?_append_left (by simpa using a9),Array.getElem?_modify,if_pos rfl,q3];rfl
  have b1:(putCells enc 0 d' cur).size=cur.size:=by simp [putCells]
  have b8:∀ j,j < xs.length->(putCells enc 0 d' cur)[j]? = some (enc d'[j]!):=by
   intro j hj;have:=h5 j hj;simp [putCells,this,a1,hj]
  have f1:(sortWorld enc w b 0 n d' os).os=w.os:=rfl;have f2:(sortWorld enc w b 0 n d' os).tape=w.tape:=rfl;have f3:(sortWorld enc w b 0 n d' os).output=w.output∧w.drawn<=(sortWorld enc w b 0 n d' os).drawn:=⟨rfl,Nat.le_add_right _ _⟩;have f4:w.heap.size<=(sortWorld enc w b 0 n d' os).heap.size:=by
   unfold sortWorld;rw [size_grow];simp only [putRow,mapBlock,Array.size_modify,Sort.ahead]; omega
  have f5:∀ b',b' < w.heap.size->b≠b'->(sortWorld enc w b 0 n d' os).heap[b']? = w.heap[b']? := by
   intro b' h7 b9;unfold sortWorld grow putRow mapBlock;simp only [Sort.ahead];rw [Array.getElem?_append_left (by simpa using h7),Array.getElem?_modify,if_neg b9]
  generalize sortWorld enc w b 0 n d' os=W at h9 f1 f2 f3 f4 f5;obtain⟨st,sat⟩:=Rn (w':=W) (t:=E) (k:=1) (AZ:=ver) (xs':=r.map f) (ob':=β.at_ i) a0
   (.inr ⟨ver,_,hi,Sf,fun _=>⟨by rw [Ss,Ss,a7],rfl,fun b' h7=>by
    rw [hb] at h7; cases h7;rw [World.shape?,h9,World.shape?,q3]; simp only [b1]⟩⟩) f1 f2 f3 f4
   (fun b' h7 a6=>f5 b' h7 (fun e=>a6 (by rw [inL,hi]; rfl) (by rw [hb,e])))
   (.inr (.inl ⟨by rw [inL,hi]; rfl,rfl⟩))
  have s2:=sat ⟨a5,.inr ⟨b,hb,_,h9,by rw [b1,q4,Ss,a7]; omega,fun j u v hu h4=>by
   rw [GS hf] at hu;have hj:=(Sa hu).1;rw [Ss,a7] at hj;rw [b8 j hj] at h4;have d8:=Sc h4;subst d8;have b2:j < d'.size:=by omega
   rw [<- hr,Sj,Sj,Array.getElem?_toList,Array.getElem?_eq_getElem b2,Option.map_some,Option.map_some] at hu;have d9:=Sc hu;subst d9;rw [getElem!_pos d' j b2];exact(d'[j]).2.2.mono fun b' j' hs=>st.AX b' j' hs⟩⟩
  exact⟨_,_,_,_,rfl,s2.BI (h8 _ rfl),st.BI (h8 _ rfl),.tup rfl (fun j u v hu=>by simp at hu),rfl,rfl⟩

section ops
variable {P:Program} {o:Oper} {l:Fr} {L L'':Loc}
theorem Q1d {F:FuncId} {x y:Operand} {ts:Array TypeId} {i ver E n:Nat} {g:FuncId} {BA:AG} {α:Type} {f:α->AV} {cmp:α->α->Option Int} {xs r:List α} (ho:o.op=.call { callee:=.value (.func F),args:=#[x,y],argTypes:=ts })
  (hs:G7e P F) (h0:SortNone P F) (hf:∀ x,(f x).cells=[f x]) (h4:∀ x,(f x).isCell=true) (h5:∃ x0 v0,v0.oneCell'=true∧∀ (w:World) (S:Nat->Nat->Prop),D w S (f x0) v0) (hB:Hh P F=true) (h6:Hh P g=true)
  (hx:ev l x=.vec i ver 1 n) (hy:ev l y=.fn g BA) (hi:lk L i=some (.vec E 1 ver (xs.map f))) (hn:n=xs.length) (h2:Qw (fun _=>false) BA=true) (h:wJ cmp xs=some r)
  (h3:∀ x y q,cmp x y=some q->Pure P g ([f x,f y]++BA) (·=I64 q)) (hL:(i,.vec E 1 ver (r.map f))::sY L [(i,.vec E 1 ver (xs.map f))]=L''):H7 P o l L (Is (.tup []) L''):=by
 obtain⟨cf,hc,hO,hl,hp,h7,hu⟩:=Hfd h;subst hn;have h1:=H69 (P:=P) (F:=F) hs h0 hf h4 h5 cf hO g h6 BA h2 (fun a b=>h3 a b _ (hc a b)) i ver E xs r hl hu;refine mG (xs:=[x,y]) ho h1 hB ⟨.inl hx,?_,.inl hy,?_,trivial⟩ ⟨hi,trivial⟩ ?_ ?_ hL
 ·simp [AV.refs,inL,lk]
 ·exact Jc _ _ h2
 ·simp [closedIn,Jn.refs]
 ·simp [oS,inL,lk]
theorem Jc2 {α:Type} (k:Nat) (g:α->AV):∃ (x0:List α) (v0:Value),v0.oneCell'=true∧∀ (w:World) (S:Nat->Nat->Prop),D w S (AV.list k (x0.map g)) v0:=⟨[],.slice none 0 0,rfl,fun _ _=>.nil (Nat.zero_le _)⟩
end ops
end Go.Proofs.YtibhpogonkdiaaaGreat
