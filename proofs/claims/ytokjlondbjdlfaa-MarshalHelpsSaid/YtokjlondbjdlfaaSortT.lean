/-
 A statement whose order is open,in which more than one opera Slices of the call's own,sorted in place by the library. slices.SortFunc in a model. Slices of whole numbers of the call's own,sorted in place by slices.SortFunc of whole numbers,by a comparison that parts
-/
import Derived.Test.YtokjlondbjdlfaaMapM
import Derived.Shelf.SlSortCmp.WholeK
import Derived.Shelf.SlSortCmp.Kit1
namespace Go.Proofs.Ytokjlondbjdlfaa
open Go.RowKit

def G8b (L L':Loc):Prop:=∀ id,lk L id=lk L' id
theorem Sat.locEq {w:World} {β:H2} {L L':Loc} (h:Sat w β L) (e:G8b L L'):Sat w β L':=by
 have hS:∀ b i,J7 w β L b i→J7 w β L' b i:=fun b i hs=>⟨hs.lt,hs.seen,fun id o ho=>hs.kept id o (by rw [e]; exact ho)⟩
 exact⟨h.hid,fun id b h1=>h.bnd id b (by rw [e]; exact h1),fun id b j h1=>h.apart id b j (by rw [e]; exact h1),fun id id' b h1 h2=>h.inj id id' b (by rw [e]; exact h1) (by rw [e]; exact h2),
  fun id o ho=>(h.obj id o (by rw [e]; exact ho)).up hS (fun id o ho=>⟨by rw [← e]; exact ho,rfl⟩)⟩
theorem Step.locEq {w w':World} {β β':H2} {L L1 L':Loc} (h:Step w β L w' β' L1) (e:G8b L1 L'):Step w β L w' β' L' where
 os:=h.os
 tape:=h.tape
 output:=h.output
 size:=h.size
 hid:=h.hid
 stab:=fun b i hs=>by
  obtain⟨h1,h2⟩:=h.stab b i hs
  exact⟨⟨h1.lt,h1.seen,fun id o ho=>h1.kept id o (by rw [e]; exact ho)⟩,h2⟩
 far:=fun b hb hf=>by
  obtain⟨h1,h2⟩:=h.far b hb hf
  exact⟨h1,fun id hid=>h2 id (by rw [e]; exact hid)⟩
 box:=fun id t cs hi=>by obtain⟨h1,cs',h2⟩:=h.box id t cs hi; exact⟨h1,cs',by rw [← e]; exact h2⟩
 map:=fun id t cs hi=>by obtain⟨h1,cs',h2⟩:=h.map id t cs hi; exact⟨h1,cs',by rw [← e]; exact h2⟩
 iter:=fun id m n cs hi=>by obtain⟨h1,n',cs',h2⟩:=h.iter id m n cs hi; exact⟨h1,n',cs',by rw [← e]; exact h2⟩
 vec:=fun id t k ver xs hi=>by obtain⟨v,xs',h1,h2,h3⟩:=h.vec id t k ver xs hi; exact⟨v,xs',by rw [← e]; exact h1,h2,h3⟩
 spare:=fun id t k ver xs hi=>by obtain⟨v,xs',h1,h2,h3⟩:=h.spare id t k ver xs hi; exact⟨v,xs',by rw [← e]; exact h1,h2,h3⟩
theorem V.locEq {w:World} {β:H2} {L L':Loc} {u:AV} {v:Value} (h:V w β L u v) (e:G8b L L'):V w β L' u v:=
 h.up (fun b i hs=>⟨hs.lt,hs.seen,fun id o ho=>hs.kept id o (by rw [e]; exact ho)⟩) (fun id o ho=>⟨by rw [← e]; exact ho,rfl⟩)
def Hb1 (ks:List Nat):Loc→Bool
 | []=>true
 | (i,_)::r=>ks.contains i&&Hb1 ks r
def Rd6 (L L':Loc):List Nat→Prop
 | []=>True
 | k::r=>lk L k=lk L' k∧Rd6 L L' r
theorem Hb0 {ks:List Nat} {id:Nat} (h:id ∉ ks):∀ {L:Loc},Hb1 ks L=true→lk L id=none
 | [],_=>rfl
 | (i,o)::r,hk=>by
  simp only [Hb1,Km] at hk
  rw [Ga,if_neg (fun e=>h (by subst e; simpa using hk.1))]
  exact Hb0 h hk.2
theorem G8b.of {L L':Loc} (ks:List Nat) (h1:Hb1 ks L=true) (h2:Hb1 ks L'=true) (h3:Rd6 L L' ks):G8b L L':=fun id=>by
 by_cases h:id∈ks
 ·clear h1 h2
  induction ks with
  | nil=>cases h
  | cons k r ih=>
   rcases Ks.1 h with e | h
   ·rw [e]; exact h3.1
   ·exact ih h3.2 h
 ·rw [Hb0 h h1,Hb0 h h2]

/-! ### The stages: which of the turning operations are done -/
def J2d (ws:List Nat) (s:List Bool) (i:Nat):List Bool:=(ws.zip s).map fun p=>p.2||p.1==i
def Hda (tb:List (List Bool×Loc)) (s:List Bool):Option Loc:=(tb.find? fun p=>p.1==s).map (·.2)
def G85 (P:Program) (N:Cfg) (ops:Array Oper) (ws:List Nat) (tb:List (List Bool×Loc)) (i:Nat) (o:Oper) (l:Fr) (u:AV) (s:List Bool):Prop:=
 ∃ L L1 L',Hda tb s=some L∧Hda tb (J2d ws s i)=some L'∧G21 P N ops o l L u L1∧G8b L1 L'
theorem G85.ro {P:Program} {N:Cfg} {ops:Array Oper} {ws:List Nat} {tb:List (List Bool×Loc)} {i:Nat} {o:Oper} {l:Fr} {u:AV} {s:List Bool} {L:Loc} (h1:Hda tb s=some L) (h2:Hda tb (J2d ws s i)=some L) (h:G21 P N ops o l L u L):G85 P N ops ws tb i o l u s:=⟨L,L,L,h1,h2,h,fun _=>rfl⟩
theorem G85.w {P:Program} {N:Cfg} {ops:Array Oper} {ws:List Nat} {tb:List (List Bool×Loc)} {i:Nat} {o:Oper} {l:Fr} {u:AV} {s:List Bool} {L L1 L':Loc} (ks:List Nat) (h1:Hda tb s=some L) (h2:Hda tb (J2d ws s i)=some L') (h:G21 P N ops o l L u L1) (k1:Hb1 ks L1=true) (k2:Hb1 ks L'=true) (k3:Rd6 L1 L' ks):G85 P N ops ws tb i o l u s:=⟨L,L1,L',h1,h2,h,G8b.of ks k1 k2 k3⟩

section pre
variable {P:Program} {N:Cfg} {ops:Array Oper} {ws:List Nat} {sts:List (List (List Bool))} {tb:List (List Bool×Loc)} {i:Nat} {o:Oper} {r:List Oper} {l:Fr} {K:Fr→Prop} {u:AV}
end pre

open Go.RowKit Go.Sort

def SortNone (P:Program) (F:FuncId):Prop:=
 ∀ (g:Nat) (cb:Array Value) (w:World),Calls P F #[.slice none 0 0,.func (.func g) #[] cb] w fun e w'=>e=.returned (.tuple #[])∧∃ n os,w'=grow (w.drewN n) os

theorem Qd7 {w w':World} (h1:w'.os=w.os) (h2:w'.tape=w.tape) (h3:w'.output=w.output∧w.drawn≤w'.drawn) (h4:w.heap.size≤w'.heap.size) (h5:∀ b,b < w.heap.size→w'.heap[b]? = w.heap[b]?):∃ q os,w'=grow (w.drewN q) os:=by
 refine⟨w'.drawn - w.drawn,w'.heap.extract w.heap.size w'.heap.size,?_⟩
 obtain⟨hp,tp,dr,os_,out⟩:=w'
 simp only at h1 h2 h3 h4 h5
 subst h1 h2
 obtain⟨rfl,h3⟩:=h3
 unfold grow World.drewN
 simp only [World.mk.injEq,true_and,and_true]
 refine⟨?_,by omega⟩
 apply Array.ext_getElem?
 intro k
 rw [Array.getElem?_append]
 split
 ·rename_i hk; exact h5 k hk
 ·rename_i hk
  rw [Array.getElem?_extract]
  have e:w.heap.size+(k - w.heap.size)=k:=by omega
  split
  ·rw [e]
  ·rename_i h0
   exact Array.getElem?_eq_none (by omega)

theorem J53 {P:Program} {f:FuncId} {args:List AV} {u:AV} (hc:Pure P f args (·=u)) {w:World} {vs:Array Value} (hl:vs.size=args.length) (hv:∀ (j:Nat) a v,args[j]? = some a→vs[j]? = some v→D w (fun b _=>b < w.heap.size) a v) :
  Calls P f vs w fun e w'=>∃ v,e=.returned v∧D w' (fun b _=>b < w'.heap.size) u v∧∃ q os,w'=grow (w.drewN q) os:=by
 have h1:∀ b i:Nat,b < w.heap.size→J7 w ⟨fun _=>none,fun _ _=>False⟩ [] b i:=fun b i hs=>⟨hs,fun h=>h,fun id o h=>by simp [lk] at h⟩
 refine(hc w ⟨fun _=>none,fun _ _=>False⟩ vs ⟨fun b i h=>h.elim,fun id b h=>by simp [lk] at h,fun id b j h=>by simp [lk] at h,fun id id' b h=>by simp [lk] at h,fun id o h=>by simp [lk] at h⟩ hl
  (fun j u v hu h2=>.data ((hv j u v hu h2).mono fun b i hs=>⟨h1 b i hs,rfl⟩))).mono fun e w' h=>?_
 obtain⟨v,r,β',L',he,h4,h0,h3,rfl,rfl⟩:=h
 exact⟨v,he,h3.data_of_nil.mono fun b i hs=>⟨hs.lt,rfl⟩,Qd7 h0.os h0.tape h0.output h0.size (fun b hb=>(h0.far b hb (fun id h=>by simp [lk] at h)).1)⟩

theorem D.inv_sc {w:World} {S:Nat→Nat→Prop} {v x:Value} (h:D w S (.sc v) x):x=v:=by cases h; rfl
set_option maxRecDepth 100000
open Go.RowKit Go.Shelf Go.Sort

section ops
variable {P:Program} {o:Oper} {l:Fr} {L L'':Loc}
end ops
set_option linter.unusedVariables false
open Go.RowKit Go.Sort Go.Shelf

def Q8b (x:Int):List Int→List Int
 | []=>[x]
 | y::r=>bif decide (x≤y) then x::y::r else y::Q8b x r
def G1d:List Int→List Int
 | []=>[]
 | x::r=>Q8b x (G1d r)
theorem Hfd (x:Int):∀ l,(Q8b x l).Perm (x::l)
 | []=>List.Perm.refl _
 | y::r=>by
  rw [Q8b]
  cases decide (x≤y) with
  | true=>exact List.Perm.refl _
  | false=>exact(List.Perm.cons y (Hfd x r)).trans (List.Perm.swap x y r)
theorem G9b:∀ l,(G1d l).Perm l
 | []=>List.Perm.refl _
 | x::r=>(Hfd x _).trans ((G9b r).cons x)
theorem J1e {x:Int}:∀ {l:List Int},l.Pairwise (·≤·)→(Q8b x l).Pairwise (·≤·)
 | [],_=>by simp [Q8b]
 | y::r,h=>by
  rw [Q8b]
  rw [List.pairwise_cons] at h
  cases hb:decide (x≤y) with
  | true=>
   have h0:=Eu hb
   rw [cond_true,List.pairwise_cons]
   refine⟨fun z hz=>?_,List.pairwise_cons.2 h⟩
   rcases Ks.1 hz with rfl | hz
   ·exact h0
   ·have:=h.1 z hz; omega
  | false=>
   have h0:=Ev hb
   rw [cond_false,List.pairwise_cons]
   refine⟨fun z hz=>?_,J1e h.2⟩
   rcases Ks.1 ((Hfd x r).mem_iff.1 hz) with rfl | hz
   ·omega
   ·exact h.1 z hz
theorem H2b:∀ l,(G1d l).Pairwise (·≤·)
 | []=>List.Pairwise.nil
 | x::r=>J1e (H2b r)
theorem Q00 (xs:List Int):(xs.mergeSort fun x y=>decide (x≤y))=G1d xs:=by
 have h1:=List.mergeSort_perm xs (fun x y=>decide (x≤y))
 have h2:(xs.mergeSort fun x y=>decide (x≤y)).Pairwise (fun a b:Int=>decide (a≤b)=true):=List.pairwise_mergeSort (le:=fun x y:Int=>decide (x≤y)) (fun a b c h g=>by simp at *; omega) (fun a b=>by simp; omega) xs
 refine List.Perm.eq_of_pairwise (le:=fun a b:Int=>decide (a≤b)=true) (fun a b _ _ h0 h3=>by simp at *; omega) h2 ((H2b xs).imp fun h=>Ew h) (h1.trans (G9b xs).symm)
theorem G9c (xs:List Int):(G1d xs).length=xs.length:=(G9b xs).length_eq
def J4b (xs:List Int):Option (List Int):=bif decide (xs.length < 4611686018427387904) then some (G1d xs) else none
theorem Q75 {xs r:List Int} (h:J4b xs=some r):xs.length < 4611686018427387904∧r=G1d xs:=by
 unfold J4b at h
 cases hb:decide (xs.length < 4611686018427387904) with
 | true=>rw [hb] at h; exact⟨Eu hb,(K0 h).symm⟩
 | false=>rw [hb] at h; cases h

def J75 (P:Program) (F:FuncId):Prop:=
 ∀ (blk off cap:Nat) (zs:List Int) (w:World),Holds (Value.int .i64) w blk off zs.toArray→blk < w.heap.size→zs.length < 4611686018427387904 →
  Calls P F #[.slice (some ⟨blk,off,none⟩) zs.length cap] w fun e w'=>e=.returned (.tuple #[])∧∃ n os,w'=grow (putRow (Value.int .i64) (Sort.ahead w n) blk off (zs.mergeSort fun x y=>decide (x≤y)).toArray) os
def J01 (P:Program) (F:FuncId):Prop:=
 ∀ (p:Option Addr) (cap:Nat) (w:World),Calls P F #[.slice p 0 cap] w fun e w'=>e=.returned (.tuple #[])∧w'=w

theorem H7f (xs:List Int):flat (xs.map I64)=xs.map I64:=by
 induction xs with
 | nil=>rfl
 | cons x r ih=>rw [List.map_cons,flat,ih]; rfl

theorem Q01 {P:Program} {F:FuncId} (hs:J75 P F) (h0:J01 P F) (i ver E:Nat) (xs:List Int) (a6:xs.length < 4611686018427387904) :
  Q8 P F [.vec i ver 1 xs.length] [(i,.vec E 1 ver (xs.map I64))] (fun r L'=>r=.tup []∧L'=[(i,.vec E 1 ver ((G1d xs).map I64))]):=by
 intro w β vs h4 hl hv
 have hi:lk [(i,J4.vec E 1 ver (xs.map I64))] i=some (.vec E 1 ver (xs.map I64)):=by simp [lk]
 have a9:vs.size=1:=hl
 obtain⟨v0,rfl⟩:∃ v0,vs=#[v0]:=by
  refine⟨vs[0],?_⟩
  apply Array.ext
  ·simp [a9]
  ·intro j b9 h7
   have:j=0:=by omega
   subst this; rfl
 have b0:=hv 0 _ v0 rfl rfl
 obtain⟨-,c0,b1⟩:=G18 h4 hi b0
 have h5:=G9c xs
 have h8:∀ y∈(G1d xs).map I64,y.cells.length=1:=fun y hy=>by
  obtain⟨z,_,rfl⟩:=Kq.1 hy
  rfl
 have h2:∀ L:Loc,L=[(i,J4.vec E 1 ver ((G1d xs).map I64))]→G8b ((i,J4.vec E 1 ver ((G1d xs).map I64))::[(i,J4.vec E 1 ver (xs.map I64))]) L:=fun L hL id=>by
  subst hL
  rw [Ga,Ga,Ga]
  by_cases e:i=id
  ·rw [if_pos e,if_pos e]
  ·rw [if_neg e,if_neg e,if_neg e]
 rcases b1 with ⟨rfl,b2,b3⟩ | ⟨b,cap,cur,rfl,hb,q1,q2,q3,q4,q5⟩
 ·refine(h0 none 0 w).mono fun e w' h=>?_
  obtain⟨rfl,rfl⟩:=h
  have hx:xs=[]:=by simpa using b2
  subst hx
  have a1:G1d ([]:List Int)=[]:=En (by simpa using h5)
  obtain⟨st,sat⟩:=Qb (w':=w') (t:=E) (k:=1) (ver1:=ver) (xs':=(G1d ([]:List Int)).map I64) (ob':=none) h4 (.inr ⟨ver,_,hi,Kc,fun _=>⟨by simp [a1],b3.symm,fun _ _=>rfl⟩⟩)
   rfl rfl ⟨rfl,Kc⟩ (Kc) (fun b hb _=>rfl) (.inl rfl)
  have s2:=sat ⟨h8,.inl ⟨rfl,by simp [a1]⟩⟩
  exact⟨_,_,_,_,rfl,s2.locEq (h2 _ rfl),st.locEq (h2 _ rfl),.tup rfl (fun j u v hu=>by simp at hu),rfl,rfl⟩
 ·have a2:b < w.heap.size:=(Ek q3).1
  have a3:(xs.map I64).length=xs.length:=by simp
  rw [a3] at q1
  have hH:Holds (Value.int .i64) w b 0 xs.toArray:=by
   intro j hj
   have h7:j < xs.length:=by simpa using hj
   have h6:j < cur.size:=by rw [q4]; omega
   have hu:(flat (xs.map I64))[j]? = some (.sc (Value.int .i64 xs[j])):=by
    rw [H7f,Kg,Ez h7]; rfl
   have hd:=q5 j _ cur[j] hu (by simp [h6])
   have he:cur[j]=Value.int .i64 xs[j]:=hd.inv_sc
   constructor
   ·simp [World.cell?,q3,h6,he,h7]
   ·simp [World.frozen?,q3]
  have a0:=hs b 0 cap xs w hH a2 a6
  rw [a3]
  refine a0.mono fun e w' h=>?_
  obtain⟨rfl,n,os,rfl⟩:=h
  rw [Q00]
  obtain⟨d',h9⟩:∃ d':Array Int,d'=(G1d xs).toArray:=⟨_,rfl⟩
  have b4:d'.size=xs.length:=by rw [h9]; simp [G9c]
  have b5:G1d xs=d'.toList:=by rw [h9]
  rw [← h9]
  have h3:(grow (putRow (Value.int .i64) (Sort.ahead w n) b 0 d') os).heap[b]? = some (.cells (putCells (Value.int .i64) 0 d' cur) E (0,0)):=by
   unfold grow putRow mapBlock
   simp only [Sort.ahead]
   rw [Array.getElem?_append_left (by simpa using a2),Array.getElem?_modify,if_pos rfl,q3]
   rfl
  have a4:(putCells (Value.int .i64) 0 d' cur).size=cur.size:=by simp [putCells]
  have a7:∀ j,j < xs.length→(putCells (Value.int .i64) 0 d' cur)[j]? = some (Value.int .i64 d'[j]!):=by
   intro j hj
   have h6:j < cur.size:=by rw [q4]; omega
   simp [putCells,h6,b4,hj]
  have f1:(grow (putRow (Value.int .i64) (Sort.ahead w n) b 0 d') os).os=w.os:=rfl
  have f2:(grow (putRow (Value.int .i64) (Sort.ahead w n) b 0 d') os).tape=w.tape:=rfl
  have f3:(grow (putRow (Value.int .i64) (Sort.ahead w n) b 0 d') os).output=w.output∧w.drawn≤(grow (putRow (Value.int .i64) (Sort.ahead w n) b 0 d') os).drawn:=⟨rfl,Nat.le_add_right _ _⟩
  have f4:w.heap.size≤(grow (putRow (Value.int .i64) (Sort.ahead w n) b 0 d') os).heap.size:=by
   rw [size_grow]
   simp only [putRow,mapBlock,Array.size_modify,Sort.ahead]; omega
  have f5:∀ b',b' < w.heap.size→b≠b'→(grow (putRow (Value.int .i64) (Sort.ahead w n) b 0 d') os).heap[b']? = w.heap[b']? := by
   intro b' h1 a8
   unfold grow putRow mapBlock
   simp only [Sort.ahead]
   rw [Array.getElem?_append_left (by simpa using h1),Array.getElem?_modify,if_neg a8]
  clear hH
  generalize grow (putRow (Value.int .i64) (Sort.ahead w n) b 0 d') os=W at h3 f1 f2 f3 f4 f5
  obtain⟨st,sat⟩:=Qb (w':=W) (t:=E) (k:=1) (ver1:=ver) (xs':=(G1d xs).map I64) (ob':=β.at_ i) h4
   (.inr ⟨ver,_,hi,Kc,fun _=>⟨by rw [Ko,Ko,h5],rfl,fun b' h1=>by
    rw [hb] at h1; cases h1
    rw [World.shape?,h3,World.shape?,q3]; simp only [a4]⟩⟩) f1 f2 f3 f4
   (fun b' h1 b6=>f5 b' h1 (fun e=>b6 (by rw [inL,hi]; rfl) (by rw [hb,e])))
   (.inr (.inl ⟨by rw [inL,hi]; rfl,rfl⟩))
  have s2:=sat ⟨h8,.inr ⟨b,hb,_,h3,by rw [a4,q4,Ko,h5]; omega,fun j u v hu a5=>by
   rw [H7f] at hu
   have hj:=(Ey hu).1
   rw [Ko,h5] at hj
   rw [a7 j hj] at a5
   have b7:=K0 a5
   subst b7
   rw [b5,Kg,Array.getElem?_toList,Array.getElem?_eq_getElem (by omega),Option.map_some] at hu
   have b8:=K0 hu
   subst b8
   rw [getElem!_pos _ j (by omega)]
   exact .sc⟩⟩
  exact⟨_,_,_,_,rfl,s2.locEq (h2 _ rfl),st.locEq (h2 _ rfl),.tup rfl (fun j u v hu=>by simp at hu),rfl,rfl⟩

section ops
variable {P:Program} {o:Oper} {l:Fr} {L L'':Loc}
theorem Qd2 {F:FuncId} {x:Operand} {ts:Array TypeId} {i ver E n:Nat} {xs r:List Int} (ho:o.op=.call { callee:=.value (.func F),args:=#[x],argTypes:=ts })
  (hs:J75 P F) (h0:J01 P F) (hB:Hr P F=true)
  (hx:ev l x=.vec i ver 1 n) (hi:lk L i=some (.vec E 1 ver (xs.map I64))) (hn:n=xs.length) (h:J4b xs=some r)
  (hL:(i,.vec E 1 ver (r.map I64))::Gf4 L [(i,.vec E 1 ver (xs.map I64))]=L''):Gt P o l L (Is (.tup []) L''):=by
 obtain⟨hl,rfl⟩:=Q75 h
 subst hn
 have h1:=Q01 (P:=P) (F:=F) hs h0 i ver E xs hl
 refine Gd0 (xs:=[x]) ho h1 hB ⟨.inl hx,?_,trivial⟩ ⟨hi,trivial⟩ ?_ ?_ hL
 ·simp [AV.refs,inL,lk]
 ·simp [closedIn,J4.refs]
 ·simp [Gb2,inL,lk]
end ops
open Go.RowKit Go.Sort Go.Shelf

def G82 (cf:Int→Int→Int) (xs:List Int):List Int:=xs.mergeSort fun x y=>!(ltOf cf) y x
theorem Ha9 (cf:Int→Int→Int) (xs:List Int):(G82 cf xs).Perm xs:=List.mergeSort_perm _ _
theorem J9d (cf:Int→Int→Int) (xs:List Int):(G82 cf xs).length=xs.length:=(Ha9 cf xs).length_eq
def Parts (cf:Int→Int→Int):Prop:=∀ x y,(ltOf cf) x y=false→(ltOf cf) y x=false→x=y
theorem Jca (cf:Int→Int→Int) (hO:SWO (ltOf cf)) (xs:List Int):(G82 cf xs).Pairwise (fun x y=>ltOf cf y x=false):=by
 have:=List.pairwise_mergeSort (le:=fun x y=>!(ltOf cf) y x) (fun a b c h1 h2=>by
  simp only [Bool.not_eq_true'] at h1 h2 ⊢
  exact hO.ntrans c b a h2 h1) (fun a b=>by
  cases h:ltOf cf b a with
  | false=>rfl
  | true=>
   cases h2:ltOf cf a b with
   | false=>rfl
   | true=>have:=hO.trans a b a h2 h; rw [hO.irrefl] at this; cases this) xs
 exact this.imp fun h=>by simpa using h
open Classical in
noncomputable def H53 (cmp:Int→Int→Option Int) (xs:List Int):Option (List Int):=
 if h:∃ cf:Int→Int→Int,(∀ x y,cmp x y=some (cf x y))∧SWO (ltOf cf)∧Parts cf∧xs.length < 4611686018427387904 then some (G82 h.choose xs) else none
theorem Q74 {cmp:Int→Int→Option Int} {xs r:List Int} (h:H53 cmp xs=some r):∃ cf:Int→Int→Int,(∀ x y,cmp x y=some (cf x y))∧SWO (ltOf cf)∧Parts cf∧xs.length < 4611686018427387904∧r=G82 cf xs:=by
 unfold H53 at h
 split at h
 ·next hh=>exact⟨hh.choose,hh.choose_spec.1,hh.choose_spec.2.1,hh.choose_spec.2.2.1,hh.choose_spec.2.2.2,(K0 h).symm⟩
 ·cases h
theorem Qe1 {cmp:Int→Int→Option Int} (cf:Int→Int→Int) (hc:∀ x y,cmp x y=some (cf x y)) (hO:SWO (ltOf cf)) (hP:Parts cf) {xs:List Int} (hl:xs.length < 4611686018427387904):H53 cmp xs=some (G82 cf xs):=by
 have hh:∃ cf:Int→Int→Int,(∀ x y,cmp x y=some (cf x y))∧SWO (ltOf cf)∧Parts cf∧xs.length < 4611686018427387904:=⟨cf,hc,hO,hP,hl⟩
 unfold H53
 rw [dif_pos hh]
 have:hh.choose=cf:=by
  funext x y
  have h1:=hh.choose_spec.1 x y
  rw [hc x y] at h1
  exact(K0 h1).symm
 rw [this]

def J74 (P:Program) (F:FuncId):Prop:=
 ∀ (cf:Int→Int→Int),SWO (ltOf cf)→Parts cf→∀ (g:Nat) (cb:Array Value) (blk off cap:Nat) (zs:List Int) (w:World),
  (∀ args w,(callFunc g args).run P w=.ok (.enter g args) w)→CmpLays1 P g cb (Value.int .i64) cf blk off zs.toArray.size w→Holds (Value.int .i64) w blk off zs.toArray→blk < w.heap.size→zs.length < 4611686018427387904 →
  Calls P F #[.slice (some ⟨blk,off,none⟩) zs.length cap,.func (.func g) #[] cb] w fun e w'=>e=.returned (.tuple #[])∧∃ n os,w'=grow (putRow (Value.int .i64) (Sort.ahead w n) blk off (G82 cf zs).toArray) os

set_option maxHeartbeats 1000000 in
theorem Jfc {P:Program} {F:FuncId} (hs:J74 P F) (h0:SortNone P F) (cf:Int→Int→Int) (hO:SWO (ltOf cf)) (hP:Parts cf) (g:FuncId) (hB:Hr P g=true) (caps:List AV) (b6:Yd (fun _=>false) caps=true) (h6:∀ x y,Pure P g ([I64 x,I64 y]++caps) (·=I64 (cf x y)))
  (i ver E:Nat) (xs:List Int) (b2:xs.length < 4611686018427387904) :
  Q8 P F [.vec i ver 1 xs.length,.fn g caps] [(i,.vec E 1 ver (xs.map I64))] (fun r L'=>r=.tup []∧L'=[(i,.vec E 1 ver ((G82 cf xs).map I64))]):=by
 intro w β vs h7 hl hv
 have hi:lk [(i,J4.vec E 1 ver (xs.map I64))] i=some (.vec E 1 ver (xs.map I64)):=by simp [lk]
 have b7:vs.size=2:=hl
 obtain⟨v0,v1,rfl⟩:∃ v0 v1,vs=#[v0,v1]:=by
  refine⟨vs[0],vs[1],?_⟩
  apply Array.ext
  ·simp [b7]
  ·intro j c9 a0
   have:j=0∨j=1:=by omega
   rcases this with rfl | rfl <;> rfl
 have b8:=hv 0 _ v0 rfl rfl
 have b9:=hv 1 _ v1 rfl rfl
 obtain⟨cb,rfl,a6,c0⟩:=b9.inv_fn
 have b3:∀ (j:Nat) u v,caps[j]? = some u→cb[j]? = some v→D w (J7 w β [(i,J4.vec E 1 ver (xs.map I64))]) u v:=fun j u v hu h1=>(c0 j u v hu h1).toD (Yk b6 u (Ka hu))
 obtain⟨-,d0,c1⟩:=G18 h7 hi b8
 have h8:=J9d cf xs
 have a1:∀ y∈(G82 cf xs).map I64,y.cells.length=1:=fun y hy=>by
  obtain⟨z,_,rfl⟩:=Kq.1 hy
  rfl
 have h4:∀ L:Loc,L=[(i,J4.vec E 1 ver ((G82 cf xs).map I64))]→G8b ((i,J4.vec E 1 ver ((G82 cf xs).map I64))::[(i,J4.vec E 1 ver (xs.map I64))]) L:=fun L hL id=>by
  subst hL
  rw [Ga,Ga,Ga]
  by_cases e:i=id
  ·rw [if_pos e,if_pos e]
  ·rw [if_neg e,if_neg e,if_neg e]
 rcases c1 with ⟨rfl,c2,a7⟩ | ⟨b,cap,cur,rfl,hb,q1,q2,q3,q4,q5⟩
 ·refine(h0 g cb w).mono fun e w' h=>?_
  obtain⟨rfl,n,os,rfl⟩:=h
  have hx:xs=[]:=by simpa using c2
  subst hx
  have a8:G82 cf ([]:List Int)=[]:=En (by simpa using h8)
  obtain⟨st,sat⟩:=Qb (w':=grow (w.drewN n) os) (t:=E) (k:=1) (ver1:=ver) (xs':=(G82 cf ([]:List Int)).map I64) (ob':=none) h7 (.inr ⟨ver,_,hi,Kc,fun _=>⟨by simp [a8],a7.symm,fun b hb=>by rw [a7] at hb; cases hb⟩⟩)
   rfl rfl ⟨rfl,by simp [grow,World.drewN]⟩ (by simp [grow,World.drewN]) (fun b hb _=>by simp [grow,World.drewN,Array.getElem?_append_left hb]) (.inl rfl)
  have s2:=sat ⟨a1,.inl ⟨rfl,by simp [a8]⟩⟩
  exact⟨_,_,_,_,rfl,s2.locEq (h4 _ rfl),st.locEq (h4 _ rfl),.tup rfl (fun j u v hu=>by simp at hu),rfl,rfl⟩
 ·have a9:b < w.heap.size:=(Ek q3).1
  have b0:(xs.map I64).length=xs.length:=by simp
  rw [b0] at q1
  have hH:Holds (Value.int .i64) w b 0 xs.toArray:=by
   intro j hj
   have a0:j < xs.length:=by simpa using hj
   have h9:j < cur.size:=by rw [q4]; omega
   have hu:(flat (xs.map I64))[j]? = some (.sc (Value.int .i64 xs[j])):=by
    rw [H7f,Kg,Ez a0]; rfl
   have hd:=q5 j _ cur[j] hu (by simp [h9])
   have he:cur[j]=Value.int .i64 xs[j]:=hd.inv_sc
   constructor
   ·simp [World.cell?,q3,h9,he,a0]
   ·simp [World.frozen?,q3]
  have eg:∀ args w,(callFunc g args).run P w=.ok (.enter g args) w:=fun args w=>Hr.out hB args w
  have hC:CmpLays1 P g cb (Value.int .i64) cf b 0 xs.toArray.size w:=by
   intro m os dk d1 x y
   have h2:∀ b' j,J7 w β [(i,J4.vec E 1 ver (xs.map I64))] b' j→Zg (sortWorld (Value.int .i64) w b 0 m dk os) b' j=Zg w b' j∧b' < (sortWorld (Value.int .i64) w b 0 m dk os).heap.size:=by
    intro b' j hs
    have a2:b'≠b:=fun e=>by
     have:=hs.kept i _ hi (by rw [e]; exact hb)
     exact this
    constructor
    ·refine J6 (w:=w) ?_
     unfold sortWorld
     simp only [grow]
     rw [Array.getElem?_append_left (by simp only [putRow,mapBlock,Array.size_modify,Sort.ahead]; exact hs.lt)]
     simp only [putRow,mapBlock,Sort.ahead,Array.getElem?_modify,if_neg (Ne.symm a2)]
    ·unfold sortWorld
     simp only [size_grow,putRow,mapBlock,Array.size_modify,Sort.ahead]
     have:=hs.lt; omega
   generalize sortWorld (Value.int .i64) w b 0 m dk os=W at h2 ⊢
   have a3:(#[Value.int .i64 x,Value.int .i64 y]++cb).size=([I64 x,I64 y]++caps).length:=by rw [Array.size_append,Kj,a6]; rfl
   have c3:=J53 (w:=W) (h6 x y) a3
   clear h6 hs a3 hH q5 a6
   refine(c3 (fun j a v ha h1=>?_)).mono fun e w' h=>?_
   ·rcases Er j 2 with hj | hj
    ·rw [Ke (by simpa using hj)] at ha
     rw [Array.getElem?_append_left (by simpa using hj)] at h1
     have:j=0∨j=1:=by omega
     rcases this with rfl | rfl
     ·simp at ha h1; subst ha h1; exact .sc
     ·simp at ha h1; subst ha h1; exact .sc
    ·rw [Kd (by simpa using hj)] at ha
     rw [Array.getElem?_append_right (by simpa using hj)] at h1
     exact(b3 (j - 2) a v (by simpa using ha) (by simpa using h1)).mono fun b' j' hs=>⟨(h2 b' j' hs).2,(h2 b' j' hs).1⟩
   ·obtain⟨v,rfl,hd,q,os',rfl⟩:=h
    have c4:=hd.inv_sc
    subst c4
    exact⟨rfl,q,os',rfl⟩
  have a5:=hs cf hO hP g cb b 0 cap xs w eg hC hH a9 b2
  rw [b0]
  refine a5.mono fun e w' h=>?_
  obtain⟨rfl,n,os,rfl⟩:=h
  obtain⟨d',a4⟩:∃ d':Array Int,d'=(G82 cf xs).toArray:=⟨_,rfl⟩
  have c5:d'.size=xs.length:=by rw [a4]; simp [J9d]
  have c6:G82 cf xs=d'.toList:=by rw [a4]
  rw [← a4]
  have h5:(grow (putRow (Value.int .i64) (Sort.ahead w n) b 0 d') os).heap[b]? = some (.cells (putCells (Value.int .i64) 0 d' cur) E (0,0)):=by
   unfold grow putRow mapBlock
   simp only [Sort.ahead]
   rw [Array.getElem?_append_left (by simpa using a9),Array.getElem?_modify,if_pos rfl,q3]
   rfl
  have b1:(putCells (Value.int .i64) 0 d' cur).size=cur.size:=by simp [putCells]
  have b4:∀ j,j < xs.length→(putCells (Value.int .i64) 0 d' cur)[j]? = some (Value.int .i64 d'[j]!):=by
   intro j hj
   have h9:j < cur.size:=by rw [q4]; omega
   simp [putCells,h9,c5,hj]
  have f1:(grow (putRow (Value.int .i64) (Sort.ahead w n) b 0 d') os).os=w.os:=rfl
  have f2:(grow (putRow (Value.int .i64) (Sort.ahead w n) b 0 d') os).tape=w.tape:=rfl
  have f3:(grow (putRow (Value.int .i64) (Sort.ahead w n) b 0 d') os).output=w.output∧w.drawn≤(grow (putRow (Value.int .i64) (Sort.ahead w n) b 0 d') os).drawn:=⟨rfl,Nat.le_add_right _ _⟩
  have f4:w.heap.size≤(grow (putRow (Value.int .i64) (Sort.ahead w n) b 0 d') os).heap.size:=by
   rw [size_grow]
   simp only [putRow,mapBlock,Array.size_modify,Sort.ahead]; omega
  have f5:∀ b',b' < w.heap.size→b≠b'→(grow (putRow (Value.int .i64) (Sort.ahead w n) b 0 d') os).heap[b']? = w.heap[b']? := by
   intro b' h3 b5
   unfold grow putRow mapBlock
   simp only [Sort.ahead]
   rw [Array.getElem?_append_left (by simpa using h3),Array.getElem?_modify,if_neg b5]
  clear hH hC h6
  generalize grow (putRow (Value.int .i64) (Sort.ahead w n) b 0 d') os=W at h5 f1 f2 f3 f4 f5
  obtain⟨st,sat⟩:=Qb (w':=W) (t:=E) (k:=1) (ver1:=ver) (xs':=(G82 cf xs).map I64) (ob':=β.at_ i) h7
   (.inr ⟨ver,_,hi,Kc,fun _=>⟨by rw [Ko,Ko,h8],rfl,fun b' h3=>by
    rw [hb] at h3; cases h3
    rw [World.shape?,h5,World.shape?,q3]; simp only [b1]⟩⟩) f1 f2 f3 f4
   (fun b' h3 a2=>f5 b' h3 (fun e=>a2 (by rw [inL,hi]; rfl) (by rw [hb,e])))
   (.inr (.inl ⟨by rw [inL,hi]; rfl,rfl⟩))
  have s2:=sat ⟨a1,.inr ⟨b,hb,_,h5,by rw [b1,q4,Ko,h8]; omega,fun j u v hu h1=>by
   rw [H7f] at hu
   have hj:=(Ey hu).1
   rw [Ko,h8] at hj
   rw [b4 j hj] at h1
   have c7:=K0 h1
   subst c7
   rw [c6,Kg,Array.getElem?_toList,Array.getElem?_eq_getElem (by omega),Option.map_some] at hu
   have c8:=K0 hu
   subst c8
   rw [getElem!_pos _ j (by omega)]
   exact .sc⟩⟩
  exact⟨_,_,_,_,rfl,s2.locEq (h4 _ rfl),st.locEq (h4 _ rfl),.tup rfl (fun j u v hu=>by simp at hu),rfl,rfl⟩

section ops
variable {P:Program} {o:Oper} {l:Fr} {L L'':Loc}
theorem R93 {F:FuncId} {x y:Operand} {ts:Array TypeId} {i ver E n:Nat} {g:FuncId} {caps:List AV} {cmp:Int→Int→Option Int} {xs r:List Int} (ho:o.op=.call { callee:=.value (.func F),args:=#[x,y],argTypes:=ts })
  (hs:J74 P F) (h0:SortNone P F) (hB:Hr P F=true) (h4:Hr P g=true)
  (hx:ev l x=.vec i ver 1 n) (hy:ev l y=.fn g caps) (hi:lk L i=some (.vec E 1 ver (xs.map I64))) (hn:n=xs.length) (h2:Yd (fun _=>false) caps=true) (h:H53 cmp xs=some r)
  (h3:∀ x y q,cmp x y=some q→Pure P g ([I64 x,I64 y]++caps) (·=I64 q)) (hL:(i,.vec E 1 ver (r.map I64))::Gf4 L [(i,.vec E 1 ver (xs.map I64))]=L''):Gt P o l L (Is (.tup []) L''):=by
 obtain⟨cf,hc,hO,hP,hl,rfl⟩:=Q74 h
 subst hn
 have h1:=Jfc (P:=P) (F:=F) hs h0 cf hO hP g h4 caps h2 (fun a b=>h3 a b _ (hc a b)) i ver E xs hl
 refine Gd0 (xs:=[x,y]) ho h1 hB ⟨.inl hx,?_,.inl hy,?_,trivial⟩ ⟨hi,trivial⟩ ?_ ?_ hL
 ·simp [AV.refs,inL,lk]
 ·exact Z2 _ _ h2
 ·simp [closedIn,J4.refs]
 ·simp [Gb2,inL,lk]
end ops
end Go.Proofs.Ytokjlondbjdlfaa
