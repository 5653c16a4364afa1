/-
 A statement whose order is open,in which more than one operation turns the local memory without an order between them (two variables that are made). Slices of the call's own,sorted in place by the library. slices.SortFunc in a model. Slices of whole numbers of the call's own,sorted in place by the library.
-/
import Derived.Test.YtecjdioomlhhiaaGreatMapM
import Derived.Shelf.SlSortCmp.WholeK
namespace Go.Proofs.YtecjdioomlhhiaaGreat
open Go.RowKit

def H49 (L L':Loc):Prop:=∀ id,lk L id=lk L' id
theorem Sat.locEq {w:World} {β:H5} {L L':Loc} (h:Sat w β L) (e:H49 L L'):Sat w β L':=by
 have hS:∀ b i,Jy w β L b i→Jy w β L' b i:=fun b i hs=>⟨hs.lt,hs.seen,fun id o ho=>hs.kept id o (by rw [e]; exact ho)⟩
 exact⟨h.hid,fun id b h1=>h.bnd id b (by rw [e]; exact h1),fun id b j h1=>h.apart id b j (by rw [e]; exact h1),fun id id' b h1 h2=>h.inj id id' b (by rw [e]; exact h1) (by rw [e]; exact h2),
  fun id o ho=>(h.obj id o (by rw [e]; exact ho)).up hS (fun id o ho=>⟨by rw [← e]; exact ho,rfl⟩)⟩
theorem Step.locEq {w w':World} {β β':H5} {L L1 L':Loc} (h:Step w β L w' β' L1) (e:H49 L1 L'):Step w β L w' β' L' where
 os:=h.os
 tape:=h.tape
 output:=h.output
 size:=h.size
 hid:=h.hid
 stab:=fun b i hs=>by
  obtain⟨h1,h2⟩:=h.stab b i hs
  exact⟨⟨h1.lt,h1.seen,fun id o ho=>h1.kept id o (by rw [e]; exact ho)⟩,h2⟩
 far:=fun b hb hf=>by
  obtain⟨h1,h2⟩:=h.far b hb hf
  exact⟨h1,fun id hid=>h2 id (by rw [e]; exact hid)⟩
 box:=fun id t cs hi=>by obtain⟨h1,cs',h2⟩:=h.box id t cs hi; exact⟨h1,cs',by rw [← e]; exact h2⟩
 map:=fun id t cs hi=>by obtain⟨h1,cs',h2⟩:=h.map id t cs hi; exact⟨h1,cs',by rw [← e]; exact h2⟩
 iter:=fun id m n cs hi=>by obtain⟨h1,n',cs',h2⟩:=h.iter id m n cs hi; exact⟨h1,n',cs',by rw [← e]; exact h2⟩
 vec:=fun id t k ver xs hi=>by obtain⟨v,xs',h1,h2,h3⟩:=h.vec id t k ver xs hi; exact⟨v,xs',by rw [← e]; exact h1,h2,h3⟩
 spare:=fun id t k ver xs hi=>by obtain⟨v,xs',h1,h2,h3⟩:=h.spare id t k ver xs hi; exact⟨v,xs',by rw [← e]; exact h1,h2,h3⟩
theorem V.locEq {w:World} {β:H5} {L L':Loc} {u:AV} {v:Value} (h:V w β L u v) (e:H49 L L'):V w β L' u v:=
 h.up (fun b i hs=>⟨hs.lt,hs.seen,fun id o ho=>hs.kept id o (by rw [e]; exact ho)⟩) (fun id o ho=>⟨by rw [← e]; exact ho,rfl⟩)
theorem G9b.locEq {P:Program} {N:Cfg} {ops:Array Oper} {o:Oper} {l:Fr} {L L1 L':Loc} {u:AV} (h:G9b P N ops o l L u L1) (e:H49 L1 L'):G9b P N ops o l L u L':=
 fun a w β K Q h1 h2 h3 h4=>h a w β K Q h1 h2 h3 (fun v w' β' k1 k2 k3=>h4 v w' β' (k1.locEq e) (k2.locEq e) (k3.locEq e))
def J2d (ks:List Nat):Loc→Bool
 | []=>true
 | (i,_)::r=>ks.contains i&&J2d ks r
def Y33 (L L':Loc):List Nat→Prop
 | []=>True
 | k::r=>lk L k=lk L' k∧Y33 L L' r
theorem J2b {ks:List Nat} {id:Nat} (h:id ∉ ks):∀ {L:Loc},J2d ks L=true→lk L id=none
 | [],_=>rfl
 | (i,o)::r,hk=>by
  simp only [J2d,Bool.and_eq_true] at hk
  rw [Gr,if_neg (fun e=>h (by subst e; simpa using hk.1))]
  exact J2b h hk.2
theorem H49.of {L L':Loc} (ks:List Nat) (h1:J2d ks L=true) (h2:J2d ks L'=true) (h3:Y33 L L' ks):H49 L L':=fun id=>by
 by_cases h:id∈ks
 ·clear h1 h2
  induction ks with
  | nil=>cases h
  | cons k r ih=>
   rcases List.mem_cons.1 h with e | h
   ·rw [e]; exact h3.1
   ·exact ih h3.2 h
 ·rw [J2b h h1,J2b h h2]

/-! ### The stages: which of the turning operations are done -/
def Jae (ws:List Nat) (s:List Bool) (i:Nat):List Bool:=(ws.zip s).map fun p=>p.2||p.1==i
def Ja5 (tb:List (List Bool×Loc)) (s:List Bool):Option Loc:=(tb.find? fun p=>p.1==s).map (·.2)
def H1c (P:Program) (N:Cfg) (ops:Array Oper) (ws:List Nat) (tb:List (List Bool×Loc)) (i:Nat) (o:Oper) (l:Fr) (u:AV) (s:List Bool):Prop:=
 ∃ L L1 L',Ja5 tb s=some L∧Ja5 tb (Jae ws s i)=some L'∧G9b P N ops o l L u L1∧H49 L1 L'
theorem H1c.ro {P:Program} {N:Cfg} {ops:Array Oper} {ws:List Nat} {tb:List (List Bool×Loc)} {i:Nat} {o:Oper} {l:Fr} {u:AV} {s:List Bool} {L:Loc} (h1:Ja5 tb s=some L) (h2:Ja5 tb (Jae ws s i)=some L) (h:G9b P N ops o l L u L):H1c P N ops ws tb i o l u s:=⟨L,L,L,h1,h2,h,fun _=>rfl⟩
theorem H1c.w {P:Program} {N:Cfg} {ops:Array Oper} {ws:List Nat} {tb:List (List Bool×Loc)} {i:Nat} {o:Oper} {l:Fr} {u:AV} {s:List Bool} {L L1 L':Loc} (ks:List Nat) (h1:Ja5 tb s=some L) (h2:Ja5 tb (Jae ws s i)=some L') (h:G9b P N ops o l L u L1) (k1:J2d ks L1=true) (k2:J2d ks L'=true) (k3:Y33 L1 L' ks):H1c P N ops ws tb i o l u s:=⟨L,L1,L',h1,h2,h,H49.of ks k1 k2 k3⟩

section pre
variable {P:Program} {N:Cfg} {ops:Array Oper} {ws:List Nat} {sts:List (List (List Bool))} {tb:List (List Bool×Loc)} {i:Nat} {o:Oper} {r:List Oper} {l:Fr} {K:Fr→Prop} {u:AV}
end pre

end Go.Proofs.YtecjdioomlhhiaaGreat
namespace Go.Proofs.YtecjdioomlhhiaaGreat
open Go.RowKit Go.Sort

def SortNone (P:Program) (F:FuncId):Prop:=
 ∀ (g:Nat) (cb:Array Value) (w:World),Calls P F #[.slice none 0 0,.func (.func g) #[] cb] w fun e w'=>e=.returned (.tuple #[])∧∃ n os,w'=grow (w.drewN n) os

theorem D.inv_sc {w:World} {S:Nat→Nat→Prop} {v x:Value} (h:D w S (.sc v) x):x=v:=by cases h; rfl
end Go.Proofs.YtecjdioomlhhiaaGreat
set_option maxRecDepth 100000
namespace Go.Proofs.YtecjdioomlhhiaaGreat
open Go.RowKit Go.Shelf Go.Sort

section ops
variable {P:Program} {o:Oper} {l:Fr} {L L'':Loc}
end ops
end Go.Proofs.YtecjdioomlhhiaaGreat
set_option linter.unusedVariables false
set_option maxRecDepth 100000
namespace Go.Proofs.YtecjdioomlhhiaaGreat
open Go.RowKit Go.Sort Go.Shelf

def R3f (x:Int):List Int→List Int
 | []=>[x]
 | y::r=>bif decide (x≤y) then x::y::r else y::R3f x r
def Ga3:List Int→List Int
 | []=>[]
 | x::r=>R3f x (Ga3 r)
theorem J68 (x:Int):∀ l,(R3f x l).Perm (x::l)
 | []=>List.Perm.refl _
 | y::r=>by
  rw [R3f]
  cases decide (x≤y) with
  | true=>exact List.Perm.refl _
  | false=>exact(List.Perm.cons y (J68 x r)).trans (List.Perm.swap x y r)
theorem Gef:∀ l,(Ga3 l).Perm l
 | []=>List.Perm.refl _
 | x::r=>(J68 x _).trans ((Gef r).cons x)
theorem J92 {x:Int}:∀ {l:List Int},l.Pairwise (·≤·)→(R3f x l).Pairwise (·≤·)
 | [],_=>by simp [R3f]
 | y::r,h=>by
  rw [R3f]
  rw [List.pairwise_cons] at h
  cases hb:decide (x≤y) with
  | true=>
   have hxy:=of_decide_eq_true hb
   rw [cond_true,List.pairwise_cons]
   refine⟨fun z hz=>?_,List.pairwise_cons.2 h⟩
   rcases List.mem_cons.1 hz with rfl | hz
   ·exact hxy
   ·have:=h.1 z hz; omega
  | false=>
   have hxy:=of_decide_eq_false hb
   rw [cond_false,List.pairwise_cons]
   refine⟨fun z hz=>?_,J92 h.2⟩
   rcases List.mem_cons.1 ((J68 x r).mem_iff.1 hz) with rfl | hz
   ·omega
   ·exact h.1 z hz
theorem Gd9:∀ l,(Ga3 l).Pairwise (·≤·)
 | []=>List.Pairwise.nil
 | x::r=>J92 (Gd9 r)
theorem Qc4 (xs:List Int):(xs.mergeSort fun x y=>decide (x≤y))=Ga3 xs:=by
 have h1:=List.mergeSort_perm xs (fun x y=>decide (x≤y))
 have h2:(xs.mergeSort fun x y=>decide (x≤y)).Pairwise (fun a b:Int=>decide (a≤b)=true):=List.pairwise_mergeSort (le:=fun x y:Int=>decide (x≤y)) (fun a b c h g=>by simp at *; omega) (fun a b=>by simp; omega) xs
 refine List.Perm.eq_of_pairwise (le:=fun a b:Int=>decide (a≤b)=true) (fun a b _ _ hab hba=>by simp at *; omega) h2 ((Gd9 xs).imp fun h=>decide_eq_true h) (h1.trans (Gef xs).symm)
theorem Q49 (xs:List Int):(Ga3 xs).length=xs.length:=(Gef xs).length_eq
def H74 (xs:List Int):Option (List Int):=bif decide (xs.length < 4611686018427387904) then some (Ga3 xs) else none
theorem Je6 {xs r:List Int} (h:H74 xs=some r):xs.length < 4611686018427387904∧r=Ga3 xs:=by
 unfold H74 at h
 cases hb:decide (xs.length < 4611686018427387904) with
 | true=>rw [hb] at h; exact⟨of_decide_eq_true hb,(Option.some.inj h).symm⟩
 | false=>rw [hb] at h; cases h

def Q0e (P:Program) (F:FuncId):Prop:=
 ∀ (blk off cap:Nat) (zs:List Int) (w:World),Holds (Value.int .i64) w blk off zs.toArray→blk < w.heap.size→zs.length < 4611686018427387904 →
  Calls P F #[.slice (some ⟨blk,off,none⟩) zs.length cap] w fun e w'=>e=.returned (.tuple #[])∧∃ n os,w'=grow (putRow (Value.int .i64) (Sort.ahead w n) blk off (zs.mergeSort fun x y=>decide (x≤y)).toArray) os
def J6b (P:Program) (F:FuncId):Prop:=
 ∀ (p:Option Addr) (cap:Nat) (w:World),Calls P F #[.slice p 0 cap] w fun e w'=>e=.returned (.tuple #[])∧w'=w

theorem Q5f (xs:List Int):flat (xs.map I64)=xs.map I64:=by
 induction xs with
 | nil=>rfl
 | cons x r ih=>rw [List.map_cons,flat,ih]; rfl

theorem Qc5 {P:Program} {F:FuncId} (hs:Q0e P F) (h0:J6b P F) (i ver E:Nat) (xs:List Int) (hlen:xs.length < 4611686018427387904) :
  Qb P F [.vec i ver 1 xs.length] [(i,.vec E 1 ver (xs.map I64))] (fun r L'=>r=.tup []∧L'=[(i,.vec E 1 ver ((Ga3 xs).map I64))]):=by
 intro w β vs hsat hl hv
 have hi:lk [(i,Jg.vec E 1 ver (xs.map I64))] i=some (.vec E 1 ver (xs.map I64)):=by simp [lk]
 have hsz:vs.size=1:=hl
 obtain⟨v0,rfl⟩:∃ v0,vs=#[v0]:=by
  refine⟨vs[0],?_⟩
  apply Array.ext
  ·simp [hsz]
  ·intro j hj1 hj2
   have:j=0:=by omega
   subst this; rfl
 have hv0:=hv 0 _ v0 rfl rfl
 obtain⟨-,hxk,hst⟩:=Gb8 hsat hi hv0
 have hlz:=Q49 xs
 have hxk':∀ y∈(Ga3 xs).map I64,y.cells.length=1:=fun y hy=>by
  obtain⟨z,_,rfl⟩:=List.mem_map.1 hy
  rfl
 have hnil:∀ L:Loc,L=[(i,Jg.vec E 1 ver ((Ga3 xs).map I64))]→H49 ((i,Jg.vec E 1 ver ((Ga3 xs).map I64))::[(i,Jg.vec E 1 ver (xs.map I64))]) L:=fun L hL id=>by
  subst hL
  rw [Gr,Gr,Gr]
  by_cases e:i=id
  ·rw [if_pos e,if_pos e]
  ·rw [if_neg e,if_neg e,if_neg e]
 rcases hst with ⟨rfl,hx0,hb0⟩ | ⟨b,cap,cur,rfl,hb,q1,q2,q3,q4,q5⟩
 ·refine(h0 none 0 w).mono fun e w' h=>?_
  obtain⟨rfl,rfl⟩:=h
  have hx:xs=[]:=by simpa using hx0
  subst hx
  have hsb:Ga3 ([]:List Int)=[]:=List.eq_nil_of_length_eq_zero (by simpa using hlz)
  obtain⟨st,sat⟩:=Z6 (w':=w') (t:=E) (k:=1) (ver1:=ver) (xs':=(Ga3 ([]:List Int)).map I64) (ob':=none) hsat (.inr ⟨ver,_,hi,Nat.le_refl _,fun _=>⟨by simp [hsb],hb0.symm,fun _ _=>rfl⟩⟩)
   rfl rfl ⟨rfl,Nat.le_refl _⟩ (Nat.le_refl _) (fun b hb _=>rfl) (.inl rfl)
  have s2:=sat ⟨hxk',.inl ⟨rfl,by simp [hsb]⟩⟩
  exact⟨_,_,_,_,rfl,s2.locEq (hnil _ rfl),st.locEq (hnil _ rfl),.tup rfl (fun j u v hu=>by simp at hu),rfl,rfl⟩
 ·have hbs:b < w.heap.size:=(Array.getElem?_eq_some_iff.1 q3).1
  have hxl:(xs.map I64).length=xs.length:=by simp
  rw [hxl] at q1
  have hH:Holds (Value.int .i64) w b 0 xs.toArray:=by
   intro j hj
   have hj2:j < xs.length:=by simpa using hj
   have hjc:j < cur.size:=by rw [q4]; omega
   have hu:(flat (xs.map I64))[j]? = some (.sc (Value.int .i64 xs[j])):=by
    rw [Q5f,List.getElem?_map,List.getElem?_eq_getElem hj2]; rfl
   have hd:=q5 j _ cur[j] hu (by simp [hjc])
   have he:cur[j]=Value.int .i64 xs[j]:=hd.inv_sc
   constructor
   ·simp [World.cell?,q3,hjc,he,hj2]
   ·simp [World.frozen?,q3]
  have hcall:=hs b 0 cap xs w hH hbs hlen
  rw [hxl]
  refine hcall.mono fun e w' h=>?_
  obtain⟨rfl,n,os,rfl⟩:=h
  rw [Qc4]
  obtain⟨d',hd'⟩:∃ d':Array Int,d'=(Ga3 xs).toArray:=⟨_,rfl⟩
  have hds:d'.size=xs.length:=by rw [hd']; simp [Q49]
  have hsd:Ga3 xs=d'.toList:=by rw [hd']
  rw [← hd']
  have hheap:(grow (putRow (Value.int .i64) (Sort.ahead w n) b 0 d') os).heap[b]? = some (.cells (putCells (Value.int .i64) 0 d' cur) E (0,0)):=by
   unfold grow putRow mapBlock
   simp only [Sort.ahead]
   rw [Array.getElem?_append_left (by simpa using hbs),Array.getElem?_modify,if_pos rfl,q3]
   rfl
  have hcs:(putCells (Value.int .i64) 0 d' cur).size=cur.size:=by simp [putCells]
  have hcv':∀ j,j < xs.length→(putCells (Value.int .i64) 0 d' cur)[j]? = some (Value.int .i64 d'[j]!):=by
   intro j hj
   have hjc:j < cur.size:=by rw [q4]; omega
   simp [putCells,hjc,hds,hj]
  have f1:(grow (putRow (Value.int .i64) (Sort.ahead w n) b 0 d') os).os=w.os:=rfl
  have f2:(grow (putRow (Value.int .i64) (Sort.ahead w n) b 0 d') os).tape=w.tape:=rfl
  have f3:(grow (putRow (Value.int .i64) (Sort.ahead w n) b 0 d') os).output=w.output∧w.drawn≤(grow (putRow (Value.int .i64) (Sort.ahead w n) b 0 d') os).drawn:=⟨rfl,Nat.le_add_right _ _⟩
  have f4:w.heap.size≤(grow (putRow (Value.int .i64) (Sort.ahead w n) b 0 d') os).heap.size:=by
   rw [size_grow]
   simp only [putRow,mapBlock,Array.size_modify,Sort.ahead]; omega
  have f5:∀ b',b' < w.heap.size→b≠b'→(grow (putRow (Value.int .i64) (Sort.ahead w n) b 0 d') os).heap[b']? = w.heap[b']? := by
   intro b' hb' hne'
   unfold grow putRow mapBlock
   simp only [Sort.ahead]
   rw [Array.getElem?_append_left (by simpa using hb'),Array.getElem?_modify,if_neg hne']
  clear hH
  generalize grow (putRow (Value.int .i64) (Sort.ahead w n) b 0 d') os=W at hheap f1 f2 f3 f4 f5
  obtain⟨st,sat⟩:=Z6 (w':=W) (t:=E) (k:=1) (ver1:=ver) (xs':=(Ga3 xs).map I64) (ob':=β.at_ i) hsat
   (.inr ⟨ver,_,hi,Nat.le_refl _,fun _=>⟨by rw [List.length_map,List.length_map,hlz],rfl,fun b' hb'=>by
    rw [hb] at hb'; cases hb'
    rw [World.shape?,hheap,World.shape?,q3]; simp only [hcs]⟩⟩) f1 f2 f3 f4
   (fun b' hb' hne=>f5 b' hb' (fun e=>hne (by rw [inL,hi]; rfl) (by rw [hb,e])))
   (.inr (.inl ⟨by rw [inL,hi]; rfl,rfl⟩))
  have s2:=sat ⟨hxk',.inr ⟨b,hb,_,hheap,by rw [hcs,q4,List.length_map,hlz]; omega,fun j u v hu hv'=>by
   rw [Q5f] at hu
   have hj:=(List.getElem?_eq_some_iff.1 hu).1
   rw [List.length_map,hlz] at hj
   rw [hcv' j hj] at hv'
   have hv2:=Option.some.inj hv'
   subst hv2
   rw [hsd,List.getElem?_map,Array.getElem?_toList,Array.getElem?_eq_getElem (by omega),Option.map_some] at hu
   have hu2:=Option.some.inj hu
   subst hu2
   rw [getElem!_pos _ j (by omega)]
   exact .sc⟩⟩
  exact⟨_,_,_,_,rfl,s2.locEq (hnil _ rfl),st.locEq (hnil _ rfl),.tup rfl (fun j u v hu=>by simp at hu),rfl,rfl⟩

section ops
variable {P:Program} {o:Oper} {l:Fr} {L L'':Loc}
theorem Y13 {F:FuncId} {x:Operand} {ts:Array TypeId} {i ver E n:Nat} {xs r:List Int} (ho:o.op=.call { callee:=.value (.func F),args:=#[x],argTypes:=ts })
  (hs:Q0e P F) (h0:J6b P F) (hB:H7 P F=true)
  (hx:ev l x=.vec i ver 1 n) (hi:lk L i=some (.vec E 1 ver (xs.map I64))) (hn:n=xs.length) (h:H74 xs=some r)
  (hL:(i,.vec E 1 ver (r.map I64))::Hc1 L [(i,.vec E 1 ver (xs.map I64))]=L''):H1 P o l L (Is (.tup []) L''):=by
 obtain⟨hl,rfl⟩:=Je6 h
 subst hn
 have hcall:=Qc5 (P:=P) (F:=F) hs h0 i ver E xs hl
 refine Gb7 (xs:=[x]) ho hcall hB ⟨.inl hx,?_,trivial⟩ ⟨hi,trivial⟩ ?_ ?_ hL
 ·simp [AV.refs,inL,lk]
 ·simp [closedIn,Jg.refs]
 ·simp [H32,inL,lk]
end ops
end Go.Proofs.YtecjdioomlhhiaaGreat
