/-
 Slices of whole numbers of the call's own,sorted in place by the library.
-/
import Derived.Test.YtapmanciffiibaaGreatSortM
set_option linter.unusedVariables false
set_option linter.unusedSimpArgs false
set_option linter.unnecessarySimpa false
set_option maxRecDepth 100000
namespace Go.Proofs.YtapmanciffiibaaGreat
open Go.RowKit Go.Sort Go.Shelf

def insI (x:Int):List Int→List Int
 | []=>[x]
 | y::r=>bif decide (x≤y) then x::y::r else y::insI x r
def G19:List Int→List Int
 | []=>[]
 | x::r=>insI x (G19 r)
theorem H8a (x:Int):∀ l,(insI x l).Perm (x::l)
 | []=>List.Perm.refl _
 | y::r=>by
  rw [insI]
  cases decide (x≤y) with
  | true=>exact List.Perm.refl _
  | false=>exact(List.Perm.cons y (H8a x r)).trans (List.Perm.swap x y r)
theorem G4c:∀ l,(G19 l).Perm l
 | []=>List.Perm.refl _
 | x::r=>(H8a x _).trans ((G4c r).cons x)
theorem Ha8 {x:Int}:∀ {l:List Int},l.Pairwise (·≤·)→(insI x l).Pairwise (·≤·)
 | [],_=>by simp [insI]
 | y::r,h=>by
  rw [insI]
  rw [List.pairwise_cons] at h
  cases hb:decide (x≤y) with
  | true=>
   have hxy:=of_decide_eq_true hb
   rw [cond_true,List.pairwise_cons]
   refine⟨fun z hz=>?_,List.pairwise_cons.2 h⟩
   rcases List.mem_cons.1 hz with rfl | hz
   ·exact hxy
   ·have:=h.1 z hz; omega
  | false=>
   have hxy:=of_decide_eq_false hb
   rw [cond_false,List.pairwise_cons]
   refine⟨fun z hz=>?_,Ha8 h.2⟩
   rcases List.mem_cons.1 ((H8a x r).mem_iff.1 hz) with rfl | hz
   ·omega
   ·exact h.1 z hz
theorem G37:∀ l,(G19 l).Pairwise (·≤·)
 | []=>List.Pairwise.nil
 | x::r=>Ha8 (G37 r)
theorem sortI_merge (xs:List Int):(xs.mergeSort fun x y=>decide (x≤y))=G19 xs:=by
 have h1:=List.mergeSort_perm xs (fun x y=>decide (x≤y))
 have h2:(xs.mergeSort fun x y=>decide (x≤y)).Pairwise (fun a b:Int=>decide (a≤b)=true):=List.pairwise_mergeSort (le:=fun x y:Int=>decide (x≤y)) (fun a b c h g=>by simp at *; omega) (fun a b=>by simp; omega) xs
 refine List.Perm.eq_of_pairwise (le:=fun a b:Int=>decide (a≤b)=true) (fun a b _ _ hab hba=>by simp at *; omega) h2 ((G37 xs).imp fun h=>decide_eq_true h) (h1.trans (G4c xs).symm)
theorem sortI_len (xs:List Int):(G19 xs).length=xs.length:=(G4c xs).length_eq
def Gb6 (xs:List Int):Option (List Int):=bif decide (xs.length < 4611686018427387904) then some (G19 xs) else none
theorem Hef {xs r:List Int} (h:Gb6 xs=some r):xs.length < 4611686018427387904∧r=G19 xs:=by
 unfold Gb6 at h
 cases hb:decide (xs.length < 4611686018427387904) with
 | true=>rw [hb] at h; exact⟨of_decide_eq_true hb,(Option.some.inj h).symm⟩
 | false=>rw [hb] at h; cases h

def J10 (P:Program) (F:FuncId):Prop:=
 ∀ (blk off cap:Nat) (zs:List Int) (w:World),Holds (Value.int .i64) w blk off zs.toArray→blk < w.heap.size→zs.length < 4611686018427387904 →
  Calls P F #[.slice (some ⟨blk,off,none⟩) zs.length cap] w fun e w'=>e=.returned (.tuple #[])∧∃ n os,w'=grow (putRow (Value.int .i64) (Sort.ahead w n) blk off (zs.mergeSort fun x y=>decide (x≤y)).toArray) os
def H8f (P:Program) (F:FuncId):Prop:=
 ∀ (p:Option Addr) (cap:Nat) (w:World),Calls P F #[.slice p 0 cap] w fun e w'=>e=.returned (.tuple #[])∧w'=w

theorem flat_ints (xs:List Int):flat (xs.map G0)=xs.map G0:=by
 induction xs with
 | nil=>rfl
 | cons x r ih=>rw [List.map_cons,flat,ih]; rfl

theorem sortI_calls {P:Program} {F:FuncId} (hs:J10 P F) (h0:H8f P F) (i ver E:Nat) (xs:List Int) (hlen:xs.length < 4611686018427387904) :
  Q1 P F [.vec i ver 1 xs.length] [(i,.vec E 1 ver (xs.map G0))] (fun r L'=>r=.tup []∧L'=[(i,.vec E 1 ver ((G19 xs).map G0))]):=by
 intro w β vs hsat hl hv
 have hi:lk [(i,Hk.vec E 1 ver (xs.map G0))] i=some (.vec E 1 ver (xs.map G0)):=by simp [lk]
 have hsz:vs.size=1:=hl
 obtain⟨v0,rfl⟩:∃ v0,vs=#[v0]:=by
  refine⟨vs[0],?_⟩
  apply Array.ext
  ·simp [hsz]
  ·intro j hj1 hj2
   have:j=0:=by omega
   subst this; rfl
 have hv0:=hv 0 _ v0 rfl rfl
 obtain⟨-,hxk,hst⟩:=G22 hsat hi hv0
 have hlz:=sortI_len xs
 have hxk':∀ y∈(G19 xs).map G0,y.cells.length=1:=fun y hy=>by
  obtain⟨z,_,rfl⟩:=List.mem_map.1 hy
  rfl
 have hnil:∀ L:Loc,L=[(i,Hk.vec E 1 ver ((G19 xs).map G0))]→G9f ((i,Hk.vec E 1 ver ((G19 xs).map G0))::[(i,Hk.vec E 1 ver (xs.map G0))]) L:=fun L hL id=>by
  subst hL
  rw [Gb,Gb,Gb]
  by_cases e:i=id
  ·rw [if_pos e,if_pos e]
  ·rw [if_neg e,if_neg e,if_neg e]
 rcases hst with ⟨rfl,hx0,hb0⟩ | ⟨b,cap,cur,rfl,hb,q1,q2,q3,q4,q5⟩
 ·refine(h0 none 0 w).mono fun e w' h=>?_
  obtain⟨rfl,rfl⟩:=h
  have hx:xs=[]:=by simpa using hx0
  subst hx
  have hsb:G19 ([]:List Int)=[]:=List.eq_nil_of_length_eq_zero (by simpa using hlz)
  obtain⟨st,sat⟩:=Qi (w':=w') (t:=E) (k:=1) (ver1:=ver) (xs':=(G19 ([]:List Int)).map G0) (ob':=none) hsat (.inr ⟨ver,_,hi,Nat.le_refl _,fun _=>⟨by simp [hsb],hb0.symm,fun _ _=>rfl⟩⟩)
   rfl rfl ⟨rfl,Nat.le_refl _⟩ (Nat.le_refl _) (fun b hb _=>rfl) (.inl rfl)
  have s2:=sat ⟨hxk',.inl ⟨rfl,by simp [hsb]⟩⟩
  exact⟨_,_,_,_,rfl,s2.locEq (hnil _ rfl),st.locEq (hnil _ rfl),.tup rfl (fun j u v hu=>by simp at hu),rfl,rfl⟩
 ·have hbs:b < w.heap.size:=(Array.getElem?_eq_some_iff.1 q3).1
  have hxl:(xs.map G0).length=xs.length:=by simp
  rw [hxl] at q1
  have hH:Holds (Value.int .i64) w b 0 xs.toArray:=by
   intro j hj
   have hj2:j < xs.length:=by simpa using hj
   have hjc:j < cur.size:=by rw [q4]; omega
   have hu:(flat (xs.map G0))[j]? = some (.sc (Value.int .i64 xs[j])):=by
    rw [flat_ints,List.getElem?_map,List.getElem?_eq_getElem hj2]; rfl
   have hd:=q5 j _ cur[j] hu (by simp [hjc])
   have he:cur[j]=Value.int .i64 xs[j]:=hd.inv_sc
   constructor
   ·simp [World.cell?,q3,hjc,he,hj2]
   ·simp [World.frozen?,q3]
  have hcall:=hs b 0 cap xs w hH hbs hlen
  rw [hxl]
  refine hcall.mono fun e w' h=>?_
  obtain⟨rfl,n,os,rfl⟩:=h
  rw [sortI_merge]
  obtain⟨d',hd'⟩:∃ d':Array Int,d'=(G19 xs).toArray:=⟨_,rfl⟩
  have hds:d'.size=xs.length:=by rw [hd']; simp [sortI_len]
  have hsd:G19 xs=d'.toList:=by rw [hd']
  rw [← hd']
  have hheap:(grow (putRow (Value.int .i64) (Sort.ahead w n) b 0 d') os).heap[b]? = some (.cells (putCells (Value.int .i64) 0 d' cur) E (0,0)):=by
   unfold grow putRow mapBlock
   simp only [Sort.ahead]
   rw [Array.getElem?_append_left (by simpa using hbs),Array.getElem?_modify,if_pos rfl,q3]
   rfl
  have hcs:(putCells (Value.int .i64) 0 d' cur).size=cur.size:=by simp [putCells]
  have hcv':∀ j,j < xs.length→(putCells (Value.int .i64) 0 d' cur)[j]? = some (Value.int .i64 d'[j]!):=by
   intro j hj
   have hjc:j < cur.size:=by rw [q4]; omega
   simp [putCells,hjc,hds,hj]
  have f1:(grow (putRow (Value.int .i64) (Sort.ahead w n) b 0 d') os).os=w.os:=rfl
  have f2:(grow (putRow (Value.int .i64) (Sort.ahead w n) b 0 d') os).tape=w.tape:=rfl
  have f3:(grow (putRow (Value.int .i64) (Sort.ahead w n) b 0 d') os).output=w.output∧w.drawn≤(grow (putRow (Value.int .i64) (Sort.ahead w n) b 0 d') os).drawn:=⟨rfl,Nat.le_add_right _ _⟩
  have f4:w.heap.size≤(grow (putRow (Value.int .i64) (Sort.ahead w n) b 0 d') os).heap.size:=by
   rw [size_grow]
   simp only [putRow,mapBlock,Array.size_modify,Sort.ahead]; omega
  have f5:∀ b',b' < w.heap.size→b≠b'→(grow (putRow (Value.int .i64) (Sort.ahead w n) b 0 d') os).heap[b']? = w.heap[b']? := by
   intro b' hb' hne'
   unfold grow putRow mapBlock
   simp only [Sort.ahead]
   rw [Array.getElem?_append_left (by simpa using hb'),Array.getElem?_modify,if_neg hne']
  clear hH
  generalize grow (putRow (Value.int .i64) (Sort.ahead w n) b 0 d') os=W at hheap f1 f2 f3 f4 f5
  obtain⟨st,sat⟩:=Qi (w':=W) (t:=E) (k:=1) (ver1:=ver) (xs':=(G19 xs).map G0) (ob':=β.at_ i) hsat
   (.inr ⟨ver,_,hi,Nat.le_refl _,fun _=>⟨by rw [List.length_map,List.length_map,hlz],rfl,fun b' hb'=>by
    rw [hb] at hb'; cases hb'
    rw [World.shape?,hheap,World.shape?,q3]; simp only [hcs]⟩⟩) f1 f2 f3 f4
   (fun b' hb' hne=>f5 b' hb' (fun e=>hne (by rw [Re,hi]; rfl) (by rw [hb,e])))
   (.inr (.inl ⟨by rw [Re,hi]; rfl,rfl⟩))
  have s2:=sat ⟨hxk',.inr ⟨b,hb,_,hheap,by rw [hcs,q4,List.length_map,hlz]; omega,fun j u v hu hv'=>by
   rw [flat_ints] at hu
   have hj:=(List.getElem?_eq_some_iff.1 hu).1
   rw [List.length_map,hlz] at hj
   rw [hcv' j hj] at hv'
   have hv2:=Option.some.inj hv'
   subst hv2
   rw [hsd,List.getElem?_map,Array.getElem?_toList,Array.getElem?_eq_getElem (by omega),Option.map_some] at hu
   have hu2:=Option.some.inj hu
   subst hu2
   rw [getElem!_pos _ j (by omega)]
   exact .sc⟩⟩
  exact⟨_,_,_,_,rfl,s2.locEq (hnil _ rfl),st.locEq (hnil _ rfl),.tup rfl (fun j u v hu=>by simp at hu),rfl,rfl⟩

section ops
variable {P:Program} {o:Oper} {l:Fr} {L L'':Loc}
theorem A_sortI {F:FuncId} {x:Operand} {ts:Array TypeId} {i ver E n:Nat} {xs r:List Int} (ho:o.op=.call { callee:=.value (.func F),args:=#[x],argTypes:=ts })
  (hs:J10 P F) (h0:H8f P F) (hB:Hc P F=true)
  (hx:ev l x=.vec i ver 1 n) (hi:lk L i=some (.vec E 1 ver (xs.map G0))) (hn:n=xs.length) (h:Gb6 xs=some r)
  (hL:(i,.vec E 1 ver (r.map G0))::Ge8 L [(i,.vec E 1 ver (xs.map G0))]=L''):Gn P o l L (Is (.tup []) L''):=by
 obtain⟨hl,rfl⟩:=Hef h
 subst hn
 have hcall:=sortI_calls (P:=P) (F:=F) hs h0 i ver E xs hl
 refine Gb4 (xs:=[x]) ho hcall hB ⟨.inl hx,?_,trivial⟩ ⟨hi,trivial⟩ ?_ ?_ hL
 ·simp [AV.refs,Re,lk]
 ·simp [closedIn,Hk.refs]
 ·simp [G92,Re,lk]
end ops
end Go.Proofs.YtapmanciffiibaaGreat
