/-
 Slices of the call's own,sorted in place by the library. slices.SortFunc in a model. Slices of whole numbers of the call's own,sorted in place by
-/
import Derived.Test.YthkihfoleenlmaaGreatDraw2
import Derived.Shelf.SlSortCmp.WholeK
namespace Go.Proofs.YthkihfoleenlmaaGreat
open Go.RowKit Go.Sort

def SortNone (P:Program) (F:FuncId):Prop:=
 ∀ (g:Nat) (cb:Array Value) (w:World),Calls P F #[.slice none 0 0,.func (.func g) #[] cb] w fun e w'=>e=.returned (.tuple #[])/\∃ n os,w'=grow (w.drewN n) os

theorem D.inv_sc {w:World} {S:Nat→Nat→Prop} {v x:Value} (h:D w S (.sc v) x):x=v:=by cases h; rfl
set_option maxRecDepth 100000
open Go.RowKit Go.Shelf Go.Sort

section ops
variable {P:Program} {o:Oper} {l:Fr} {L L'':Loc}
end ops
set_option linter.unusedVariables false
open Go.RowKit Go.Sort Go.Shelf

def H8e (x:Int):List Int→List Int
 | []=>[x]
 | y::r=>bif decide (x≤y) then x::y::r else y::H8e x r
def lC:List Int→List Int
 | []=>[]
 | x::r=>H8e x (lC r)
theorem JD (x:Int):∀ l,(H8e x l).Perm (x::l)
 | []=>List.Perm.refl _
 | y::r=>by
  rw [H8e]
  cases decide (x≤y) with
  | true=>exact List.Perm.refl _
  | false=>exact(List.Perm.cons y (JD x r)).trans (List.Perm.swap x y r)
theorem uD:∀ l,(lC l).Perm l
 | []=>List.Perm.refl _
 | x::r=>(JD x _).trans ((uD r).cons x)
theorem RP {x:Int}:∀ {l:List Int},l.Pairwise (·≤·)→(H8e x l).Pairwise (·≤·)
 | [],_=>by simp [H8e]
 | y::r,h=>by
  rw [H8e]
  rw [List.pairwise_cons] at h
  cases hb:decide (x≤y) with
  | true=>
   have h0:=P6 hb
   rw [cond_true,List.pairwise_cons]
   refine⟨fun z hz=>?_,List.pairwise_cons.2 h⟩
   rcases Pv.1 hz with rfl | hz
   .exact h0
   .have:=h.1 z hz; omega
  | false=>
   have h0:=P7 hb
   rw [cond_false,List.pairwise_cons]
   refine⟨fun z hz=>?_,RP h.2⟩
   rcases Pv.1 ((JD x r).mem_iff.1 hz) with rfl | hz
   .omega
   .exact h.1 z hz
theorem uC:∀ l,(lC l).Pairwise (·≤·)
 | []=>List.Pairwise.nil
 | x::r=>RP (uC r)
theorem H0a (xs:List Int):(xs.mergeSort fun x y=>decide (x≤y))=lC xs:=by
 have h1:=List.mergeSort_perm xs (fun x y=>decide (x≤y))
 have h2:(xs.mergeSort fun x y=>decide (x≤y)).Pairwise (fun a b:Int=>decide (a≤b)=true):=List.pairwise_mergeSort (le:=fun x y:Int=>decide (x≤y)) (fun a b c h g=>by simp at *; omega) (fun a b=>by simp; omega) xs
 refine List.Perm.eq_of_pairwise (le:=fun a b:Int=>decide (a≤b)=true) (fun a b _ _ h0 h3=>by simp at *; omega) h2 ((uC xs).imp fun h=>P8 h) (h1.trans (uD xs).symm)
theorem G79 (xs:List Int):(lC xs).length=xs.length:=(uD xs).length_eq
def HR (xs:List Int):Option (List Int):=bif decide (xs.length < 4611686018427387904) then some (lC xs) else none
theorem H7e {xs r:List Int} (h:HR xs=some r):xs.length < 4611686018427387904/\r=lC xs:=by
 unfold HR at h
 cases hb:decide (xs.length < 4611686018427387904) with
 | true=>rw [hb] at h; exact⟨P6 hb,(Pc h).symm⟩
 | false=>rw [hb] at h; cases h

def G2c (P:Program) (F:FuncId):Prop:=
 ∀ (blk off cap:Nat) (zs:List Int) (w:World),Holds (Value.int .i64) w blk off zs.toArray→blk < w.heap.size→zs.length < 4611686018427387904 →
  Calls P F #[.slice (some ⟨blk,off,none⟩) zs.length cap] w fun e w'=>e=.returned (.tuple #[])/\∃ n os,w'=grow (putRow (Value.int .i64) (Sort.ahead w n) blk off (zs.mergeSort fun x y=>decide (x≤y)).toArray) os
def JK (P:Program) (F:FuncId):Prop:=
 ∀ (p:Option Addr) (cap:Nat) (w:World),Calls P F #[.slice p 0 cap] w fun e w'=>e=.returned (.tuple #[])/\w'=w

theorem G8b (xs:List Int):flat (xs.map I64)=xs.map I64:=by
 induction xs with
 | nil=>rfl
 | cons x r ih=>rw [List.map_cons,flat,ih]; rfl

theorem H0b {P:Program} {F:FuncId} (hs:G2c P F) (h0:JK P F) (i ver E:Nat) (xs:List Int) (a6:xs.length < 4611686018427387904) :
  Rb P F [.vec i ver 1 xs.length] [(i,.vec E 1 ver (xs.map I64))] (fun r L'=>r=.tup []/\L'=[(i,.vec E 1 ver ((lC xs).map I64))]):=by
 intro w β vs h4 hl hv
 have hi:lk [(i,Jn.vec E 1 ver (xs.map I64))] i=some (.vec E 1 ver (xs.map I64)):=by simp [lk]
 have a9:vs.size=1:=hl
 obtain⟨v0,rfl⟩:∃ v0,vs=#[v0]:=by
  refine⟨vs[0],?_⟩
  apply Array.ext
  .simp [a9]
  .intro j b9 h7
   have:j=0:=by omega
   subst this; rfl
 have b0:=hv 0 _ v0 rfl rfl
 obtain⟨-,c0,b1⟩:=iL h4 hi b0
 have h5:=G79 xs
 have h8:∀ y∈(lC xs).map I64,y.cells.length=1:=fun y hy=>by
  obtain⟨z,_,rfl⟩:=Pt.1 hy
  rfl
 have h2:∀ L:Loc,L=[(i,Jn.vec E 1 ver ((lC xs).map I64))]→kH ((i,Jn.vec E 1 ver ((lC xs).map I64))::[(i,Jn.vec E 1 ver (xs.map I64))]) L:=fun L hL id=>by
  subst hL
  rw [Gm,Gm,Gm]
  by_cases e:i=id
  .rw [if_pos e,if_pos e]
  .rw [if_neg e,if_neg e,if_neg e]
 rcases b1 with ⟨rfl,b2,b3⟩ | ⟨b,cap,cur,rfl,hb,q1,q2,q3,q4,q5⟩
 .refine(h0 none 0 w).mono fun e w' h=>?_
  obtain⟨rfl,rfl⟩:=h
  have hx:xs=[]:=by simpa using b2
  subst hx
  have a1:lC ([]:List Int)=[]:=P1 (by simpa using h5)
  obtain⟨st,sat⟩:=aK (w':=w') (t:=E) (k:=1) (ver1:=ver) (xs':=(lC ([]:List Int)).map I64) (ob':=none) h4 (.inr ⟨ver,_,hi,Pf,fun _=>⟨by simp [a1],b3.symm,fun _ _=>rfl⟩⟩)
   rfl rfl ⟨rfl,Pf⟩ (Pf) (fun b hb _=>rfl) (.inl rfl)
  have s2:=sat ⟨h8,.inl ⟨rfl,by simp [a1]⟩⟩
  exact⟨_,_,_,_,rfl,s2.locEq (h2 _ rfl),st.locEq (h2 _ rfl),.tup rfl (fun j u v hu=>by simp at hu),rfl,rfl⟩
 .have a2:b < w.heap.size:=(Nz q3).1
  have a3:(xs.map I64).length=xs.length:=by simp
  rw [a3] at q1
  have hH:Holds (Value.int .i64) w b 0 xs.toArray:=by
   intro j hj
   have h7:j < xs.length:=by simpa using hj
   have h6:j < cur.size:=by rw [q4]; omega
   have hu:(flat (xs.map I64))[j]? = some (.sc (Value.int .i64 xs[j])):=by
    rw [G8b,Pj,Pb h7]; rfl
   have hd:=q5 j _ cur[j] hu (by simp [h6])
   have he:cur[j]=Value.int .i64 xs[j]:=hd.inv_sc
   constructor
   .simp [World.cell?,q3,h6,he,h7]
   .simp [World.frozen?,q3]
  have a0:=hs b 0 cap xs w hH a2 a6
  rw [a3]
  refine a0.mono fun e w' h=>?_
  obtain⟨rfl,n,os,rfl⟩:=h
  rw [H0a]
  obtain⟨d',h9⟩:∃ d':Array Int,d'=(lC xs).toArray:=⟨_,rfl⟩
  have b4:d'.size=xs.length:=by rw [h9]; simp [G79]
  have b5:lC xs=d'.toList:=by rw [h9]
  rw [← h9]
  have h3:(grow (putRow (Value.int .i64) (Sort.ahead w n) b 0 d') os).heap[b]? = some (.cells (putCells (Value.int .i64) 0 d' cur) E (0,0)):=by
   unfold grow putRow mapBlock
   simp only [Sort.ahead]
   rw [Array.getElem?_append_left (by simpa using a2),Array.getElem?_modify,if_pos rfl,q3]
   rfl
  have a4:(putCells (Value.int .i64) 0 d' cur).size=cur.size:=by simp [putCells]
  have a7:∀ j,j < xs.length→(putCells (Value.int .i64) 0 d' cur)[j]? = some (Value.int .i64 d'[j]!):=by
   intro j hj
   have h6:j < cur.size:=by rw [q4]; omega
   simp [putCells,h6,b4,hj]
  have f1:(grow (putRow (Value.int .i64) (Sort.ahead w n) b 0 d') os).os=w.os:=rfl
  have f2:(grow (putRow (Value.int .i64) (Sort.ahead w n) b 0 d') os).tape=w.tape:=rfl
  have f3:(grow (putRow (Value.int .i64) (Sort.ahead w n) b 0 d') os).output=w.output/\w.drawn≤(grow (putRow (Value.int .i64) (Sort.ahead w n) b 0 d') os).drawn:=⟨rfl,Nat.le_add_right _ _⟩
  have f4:w.heap.size≤(grow (putRow (Value.int .i64) (Sort.ahead w n) b 0 d') os).heap.size:=by
   rw [size_grow]
   simp only [putRow,mapBlock,Array.size_modify,Sort.ahead]; omega
  have f5:∀ b',b' < w.heap.size→b≠b'→(grow (putRow (Value.int .i64) (Sort.ahead w n) b 0 d') os).heap[b']? = w.heap[b']? := by
   intro b' h1 a8
   unfold grow putRow mapBlock
   simp only [Sort.ahead]
   rw [Array.getElem?_append_left (by simpa using h1),Array.getElem?_modify,if_neg a8]
  clear hH
  generalize grow (putRow (Value.int .i64) (Sort.ahead w n) b 0 d') os=W at h3 f1 f2 f3 f4 f5
  obtain⟨st,sat⟩:=aK (w':=W) (t:=E) (k:=1) (ver1:=ver) (xs':=(lC xs).map I64) (ob':=β.at_ i) h4
   (.inr ⟨ver,_,hi,Pf,fun _=>⟨by rw [Pr,Pr,h5],rfl,fun b' h1=>by
    rw [hb] at h1; cases h1
    rw [World.shape?,h3,World.shape?,q3]; simp only [a4]⟩⟩) f1 f2 f3 f4
   (fun b' h1 b6=>f5 b' h1 (fun e=>b6 (by rw [inL,hi]; rfl) (by rw [hb,e])))
   (.inr (.inl ⟨by rw [inL,hi]; rfl,rfl⟩))
  have s2:=sat ⟨h8,.inr ⟨b,hb,_,h3,by rw [a4,q4,Pr,h5]; omega,fun j u v hu a5=>by
   rw [G8b] at hu
   have hj:=(Pa hu).1
   rw [Pr,h5] at hj
   rw [a7 j hj] at a5
   have b7:=Pc a5
   subst b7
   rw [b5,Pj,Array.getElem?_toList,Array.getElem?_eq_getElem (by omega),Option.map_some] at hu
   have b8:=Pc hu
   subst b8
   rw [getElem!_pos _ j (by omega)]
   exact .sc⟩⟩
  exact⟨_,_,_,_,rfl,s2.locEq (h2 _ rfl),st.locEq (h2 _ rfl),.tup rfl (fun j u v hu=>by simp at hu),rfl,rfl⟩

section ops
variable {P:Program} {o:Oper} {l:Fr} {L L'':Loc}
theorem Hd3 {F:FuncId} {x:Operand} {ts:Array TypeId} {i ver E n:Nat} {xs r:List Int} (ho:o.op=.call { callee:=.value (.func F),args:=#[x],argTypes:=ts })
  (hs:G2c P F) (h0:JK P F) (hB:H7 P F=true)
  (hx:ev l x=.vec i ver 1 n) (hi:lk L i=some (.vec E 1 ver (xs.map I64))) (hn:n=xs.length) (h:HR xs=some r)
  (hL:(i,.vec E 1 ver (r.map I64))::qY L [(i,.vec E 1 ver (xs.map I64))]=L''):H2 P o l L (Is (.tup []) L''):=by
 obtain⟨hl,rfl⟩:=H7e h
 subst hn
 have h1:=H0b (P:=P) (F:=F) hs h0 i ver E xs hl
 refine YX (xs:=[x]) ho h1 hB ⟨.inl hx,?_,trivial⟩ ⟨hi,trivial⟩ ?_ ?_ hL
 .simp [AV.refs,inL,lk]
 .simp [closedIn,Jn.refs]
 .simp [nH,inL,lk]
end ops
end Go.Proofs.YthkihfoleenlmaaGreat
