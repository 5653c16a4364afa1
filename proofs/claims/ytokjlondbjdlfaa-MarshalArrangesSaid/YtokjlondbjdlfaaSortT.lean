/-
 Slices of the call's own,sorted in place by the library. slices.SortFunc in a model. Slices of whole numbers of the call's own,sorted in place by slices.SortFunc of whole numbers,by a comparison that parts
-/
import Derived.Test.YtokjlondbjdlfaaDraw2
import Derived.Shelf.SlSortCmp.WholeK
import Derived.Shelf.SlSortCmp.Kit1
namespace Go.Proofs.Ytokjlondbjdlfaa
open Go.RowKit Go.Sort

def SortNone (P:Program) (F:FuncId):Prop:=
 ∀ (g:Nat) (cb:Array Value) (w:World),Calls P F #[.slice none 0 0,.func (.func g) #[] cb] w fun e w'=>e=.returned (.tuple #[])∧∃ n os,w'=grow (w.drewN n) os

theorem Q57 {w w':World} (h1:w'.os=w.os) (h2:w'.tape=w.tape) (h3:w'.output=w.output∧w.drawn≤w'.drawn) (h4:w.heap.size≤w'.heap.size) (h5:∀ b,b < w.heap.size→w'.heap[b]? = w.heap[b]?):∃ q os,w'=grow (w.drewN q) os:=by
 refine⟨w'.drawn - w.drawn,w'.heap.extract w.heap.size w'.heap.size,?_⟩
 obtain⟨hp,tp,dr,os_,out⟩:=w'
 simp only at h1 h2 h3 h4 h5
 subst h1 h2
 obtain⟨rfl,h3⟩:=h3
 unfold grow World.drewN
 simp only [World.mk.injEq,true_and,and_true]
 refine⟨?_,by omega⟩
 apply Array.ext_getElem?
 intro k
 rw [Array.getElem?_append]
 split
 ·rename_i hk; exact h5 k hk
 ·rename_i hk
  rw [Array.getElem?_extract]
  have e:w.heap.size+(k - w.heap.size)=k:=by omega
  split
  ·rw [e]
  ·rename_i h0
   exact Array.getElem?_eq_none (by omega)

theorem Hfe {P:Program} {f:FuncId} {args:List AV} {u:AV} (hc:Pure P f args (·=u)) {w:World} {vs:Array Value} (hl:vs.size=args.length) (hv:∀ (j:Nat) a v,args[j]? = some a→vs[j]? = some v→D w (fun b _=>b < w.heap.size) a v) :
  Calls P f vs w fun e w'=>∃ v,e=.returned v∧D w' (fun b _=>b < w'.heap.size) u v∧∃ q os,w'=grow (w.drewN q) os:=by
 have h1:∀ b i:Nat,b < w.heap.size→J1 w ⟨fun _=>none,fun _ _=>False⟩ [] b i:=fun b i hs=>⟨hs,fun h=>h,fun id o h=>by simp [lk] at h⟩
 refine(hc w ⟨fun _=>none,fun _ _=>False⟩ vs ⟨fun b i h=>h.elim,fun id b h=>by simp [lk] at h,fun id b j h=>by simp [lk] at h,fun id id' b h=>by simp [lk] at h,fun id o h=>by simp [lk] at h⟩ hl
  (fun j u v hu h2=>.data ((hv j u v hu h2).mono fun b i hs=>⟨h1 b i hs,rfl⟩))).mono fun e w' h=>?_
 obtain⟨v,r,β',L',he,h4,h0,h3,rfl,rfl⟩:=h
 exact⟨v,he,h3.data_of_nil.mono fun b i hs=>⟨hs.lt,rfl⟩,Q57 h0.os h0.tape h0.output h0.size (fun b hb=>(h0.far b hb (fun id h=>by simp [lk] at h)).1)⟩

theorem D.inv_sc {w:World} {S:Nat→Nat→Prop} {v x:Value} (h:D w S (.sc v) x):x=v:=by cases h; rfl
set_option maxRecDepth 100000
open Go.RowKit Go.Shelf Go.Sort

section ops
variable {P:Program} {o:Oper} {l:Fr} {L L'':Loc}
end ops
set_option linter.unusedVariables false
open Go.RowKit Go.Sort Go.Shelf

def Q0f (x:Int):List Int→List Int
 | []=>[x]
 | y::r=>bif decide (x≤y) then x::y::r else y::Q0f x r
def Zy:List Int→List Int
 | []=>[]
 | x::r=>Q0f x (Zy r)
theorem Hac (x:Int):∀ l,(Q0f x l).Perm (x::l)
 | []=>List.Perm.refl _
 | y::r=>by
  rw [Q0f]
  cases decide (x≤y) with
  | true=>exact List.Perm.refl _
  | false=>exact(List.Perm.cons y (Hac x r)).trans (List.Perm.swap x y r)
theorem G6f:∀ l,(Zy l).Perm l
 | []=>List.Perm.refl _
 | x::r=>(Hac x _).trans ((G6f r).cons x)
theorem Hcc {x:Int}:∀ {l:List Int},l.Pairwise (·≤·)→(Q0f x l).Pairwise (·≤·)
 | [],_=>by simp [Q0f]
 | y::r,h=>by
  rw [Q0f]
  rw [List.pairwise_cons] at h
  cases hb:decide (x≤y) with
  | true=>
   have h0:=Er hb
   rw [cond_true,List.pairwise_cons]
   refine⟨fun z hz=>?_,List.pairwise_cons.2 h⟩
   rcases Kq.1 hz with rfl | hz
   ·exact h0
   ·have:=h.1 z hz; omega
  | false=>
   have h0:=Es hb
   rw [cond_false,List.pairwise_cons]
   refine⟨fun z hz=>?_,Hcc h.2⟩
   rcases Kq.1 ((Hac x r).mem_iff.1 hz) with rfl | hz
   ·omega
   ·exact h.1 z hz
theorem Gf0:∀ l,(Zy l).Pairwise (·≤·)
 | []=>List.Pairwise.nil
 | x::r=>Hcc (Gf0 r)
theorem J94 (xs:List Int):(xs.mergeSort fun x y=>decide (x≤y))=Zy xs:=by
 have h1:=List.mergeSort_perm xs (fun x y=>decide (x≤y))
 have h2:(xs.mergeSort fun x y=>decide (x≤y)).Pairwise (fun a b:Int=>decide (a≤b)=true):=List.pairwise_mergeSort (le:=fun x y:Int=>decide (x≤y)) (fun a b c h g=>by simp at *; omega) (fun a b=>by simp; omega) xs
 refine List.Perm.eq_of_pairwise (le:=fun a b:Int=>decide (a≤b)=true) (fun a b _ _ h0 h3=>by simp at *; omega) h2 ((Gf0 xs).imp fun h=>Eu h) (h1.trans (G6f xs).symm)
theorem G9b (xs:List Int):(Zy xs).length=xs.length:=(G6f xs).length_eq
def Hf6 (xs:List Int):Option (List Int):=bif decide (xs.length < 4611686018427387904) then some (Zy xs) else none
theorem Jfa {xs r:List Int} (h:Hf6 xs=some r):xs.length < 4611686018427387904∧r=Zy xs:=by
 unfold Hf6 at h
 cases hb:decide (xs.length < 4611686018427387904) with
 | true=>rw [hb] at h; exact⟨Er hb,(Ey h).symm⟩
 | false=>rw [hb] at h; cases h

def J1f (P:Program) (F:FuncId):Prop:=
 ∀ (blk off cap:Nat) (zs:List Int) (w:World),Holds (Value.int .i64) w blk off zs.toArray→blk < w.heap.size→zs.length < 4611686018427387904 →
  Calls P F #[.slice (some ⟨blk,off,none⟩) zs.length cap] w fun e w'=>e=.returned (.tuple #[])∧∃ n os,w'=grow (putRow (Value.int .i64) (Sort.ahead w n) blk off (zs.mergeSort fun x y=>decide (x≤y)).toArray) os
def Hb3 (P:Program) (F:FuncId):Prop:=
 ∀ (p:Option Addr) (cap:Nat) (w:World),Calls P F #[.slice p 0 cap] w fun e w'=>e=.returned (.tuple #[])∧w'=w

theorem H38 (xs:List Int):flat (xs.map I64)=xs.map I64:=by
 induction xs with
 | nil=>rfl
 | cons x r ih=>rw [List.map_cons,flat,ih]; rfl

theorem J95 {P:Program} {F:FuncId} (hs:J1f P F) (h0:Hb3 P F) (i ver E:Nat) (xs:List Int) (a6:xs.length < 4611686018427387904) :
  Jx P F [.vec i ver 1 xs.length] [(i,.vec E 1 ver (xs.map I64))] (fun r L'=>r=.tup []∧L'=[(i,.vec E 1 ver ((Zy xs).map I64))]):=by
 intro w β vs h4 hl hv
 have hi:lk [(i,Hx.vec E 1 ver (xs.map I64))] i=some (.vec E 1 ver (xs.map I64)):=by simp [lk]
 have a9:vs.size=1:=hl
 obtain⟨v0,rfl⟩:∃ v0,vs=#[v0]:=by
  refine⟨vs[0],?_⟩
  apply Array.ext
  ·simp [a9]
  ·intro j b9 h7
   have:j=0:=by omega
   subst this; rfl
 have b0:=hv 0 _ v0 rfl rfl
 obtain⟨-,c0,b1⟩:=Zr h4 hi b0
 have h5:=G9b xs
 have h8:∀ y∈(Zy xs).map I64,y.cells.length=1:=fun y hy=>by
  obtain⟨z,_,rfl⟩:=Ko.1 hy
  rfl
 have h2:∀ L:Loc,L=[(i,Hx.vec E 1 ver ((Zy xs).map I64))]→Gaf ((i,Hx.vec E 1 ver ((Zy xs).map I64))::[(i,Hx.vec E 1 ver (xs.map I64))]) L:=fun L hL id=>by
  subst hL
  rw [G9,G9,G9]
  by_cases e:i=id
  ·rw [if_pos e,if_pos e]
  ·rw [if_neg e,if_neg e,if_neg e]
 rcases b1 with ⟨rfl,b2,b3⟩ | ⟨b,cap,cur,rfl,hb,q1,q2,q3,q4,q5⟩
 ·refine(h0 none 0 w).mono fun e w' h=>?_
  obtain⟨rfl,rfl⟩:=h
  have hx:xs=[]:=by simpa using b2
  subst hx
  have a1:Zy ([]:List Int)=[]:=Ek (by simpa using h5)
  obtain⟨st,sat⟩:=Jz (w':=w') (t:=E) (k:=1) (ver1:=ver) (xs':=(Zy ([]:List Int)).map I64) (ob':=none) h4 (.inr ⟨ver,_,hi,Ka,fun _=>⟨by simp [a1],b3.symm,fun _ _=>rfl⟩⟩)
   rfl rfl ⟨rfl,Ka⟩ (Ka) (fun b hb _=>rfl) (.inl rfl)
  have s2:=sat ⟨h8,.inl ⟨rfl,by simp [a1]⟩⟩
  exact⟨_,_,_,_,rfl,s2.locEq (h2 _ rfl),st.locEq (h2 _ rfl),.tup rfl (fun j u v hu=>by simp at hu),rfl,rfl⟩
 ·have a2:b < w.heap.size:=(Ei q3).1
  have a3:(xs.map I64).length=xs.length:=by simp
  rw [a3] at q1
  have hH:Holds (Value.int .i64) w b 0 xs.toArray:=by
   intro j hj
   have h7:j < xs.length:=by simpa using hj
   have h6:j < cur.size:=by rw [q4]; omega
   have hu:(flat (xs.map I64))[j]? = some (.sc (Value.int .i64 xs[j])):=by
    rw [H38,Ke,Ex h7]; rfl
   have hd:=q5 j _ cur[j] hu (by simp [h6])
   have he:cur[j]=Value.int .i64 xs[j]:=hd.inv_sc
   constructor
   ·simp [World.cell?,q3,h6,he,h7]
   ·simp [World.frozen?,q3]
  have a0:=hs b 0 cap xs w hH a2 a6
  rw [a3]
  refine a0.mono fun e w' h=>?_
  obtain⟨rfl,n,os,rfl⟩:=h
  rw [J94]
  obtain⟨d',h9⟩:∃ d':Array Int,d'=(Zy xs).toArray:=⟨_,rfl⟩
  have b4:d'.size=xs.length:=by rw [h9]; simp [G9b]
  have b5:Zy xs=d'.toList:=by rw [h9]
  rw [← h9]
  have h3:(grow (putRow (Value.int .i64) (Sort.ahead w n) b 0 d') os).heap[b]? = some (.cells (putCells (Value.int .i64) 0 d' cur) E (0,0)):=by
   unfold grow putRow mapBlock
   simp only [Sort.ahead]
   rw [Array.getElem?_append_left (by simpa using a2),Array.getElem?_modify,if_pos rfl,q3]
   rfl
  have a4:(putCells (Value.int .i64) 0 d' cur).size=cur.size:=by simp [putCells]
  have a7:∀ j,j < xs.length→(putCells (Value.int .i64) 0 d' cur)[j]? = some (Value.int .i64 d'[j]!):=by
   intro j hj
   have h6:j < cur.size:=by rw [q4]; omega
   simp [putCells,h6,b4,hj]
  have f1:(grow (putRow (Value.int .i64) (Sort.ahead w n) b 0 d') os).os=w.os:=rfl
  have f2:(grow (putRow (Value.int .i64) (Sort.ahead w n) b 0 d') os).tape=w.tape:=rfl
  have f3:(grow (putRow (Value.int .i64) (Sort.ahead w n) b 0 d') os).output=w.output∧w.drawn≤(grow (putRow (Value.int .i64) (Sort.ahead w n) b 0 d') os).drawn:=⟨rfl,Nat.le_add_right _ _⟩
  have f4:w.heap.size≤(grow (putRow (Value.int .i64) (Sort.ahead w n) b 0 d') os).heap.size:=by
   rw [size_grow]
   simp only [putRow,mapBlock,Array.size_modify,Sort.ahead]; omega
  have f5:∀ b',b' < w.heap.size→b≠b'→(grow (putRow (Value.int .i64) (Sort.ahead w n) b 0 d') os).heap[b']? = w.heap[b']? := by
   intro b' h1 a8
   unfold grow putRow mapBlock
   simp only [Sort.ahead]
   rw [Array.getElem?_append_left (by simpa using h1),Array.getElem?_modify,if_neg a8]
  clear hH
  generalize grow (putRow (Value.int .i64) (Sort.ahead w n) b 0 d') os=W at h3 f1 f2 f3 f4 f5
  obtain⟨st,sat⟩:=Jz (w':=W) (t:=E) (k:=1) (ver1:=ver) (xs':=(Zy xs).map I64) (ob':=β.at_ i) h4
   (.inr ⟨ver,_,hi,Ka,fun _=>⟨by rw [Km,Km,h5],rfl,fun b' h1=>by
    rw [hb] at h1; cases h1
    rw [World.shape?,h3,World.shape?,q3]; simp only [a4]⟩⟩) f1 f2 f3 f4
   (fun b' h1 b6=>f5 b' h1 (fun e=>b6 (by rw [inL,hi]; rfl) (by rw [hb,e])))
   (.inr (.inl ⟨by rw [inL,hi]; rfl,rfl⟩))
  have s2:=sat ⟨h8,.inr ⟨b,hb,_,h3,by rw [a4,q4,Km,h5]; omega,fun j u v hu a5=>by
   rw [H38] at hu
   have hj:=(Ew hu).1
   rw [Km,h5] at hj
   rw [a7 j hj] at a5
   have b7:=Ey a5
   subst b7
   rw [b5,Ke,Array.getElem?_toList,Array.getElem?_eq_getElem (by omega),Option.map_some] at hu
   have b8:=Ey hu
   subst b8
   rw [getElem!_pos _ j (by omega)]
   exact .sc⟩⟩
  exact⟨_,_,_,_,rfl,s2.locEq (h2 _ rfl),st.locEq (h2 _ rfl),.tup rfl (fun j u v hu=>by simp at hu),rfl,rfl⟩

section ops
variable {P:Program} {o:Oper} {l:Fr} {L L'':Loc}
theorem Q52 {F:FuncId} {x:Operand} {ts:Array TypeId} {i ver E n:Nat} {xs r:List Int} (ho:o.op=.call { callee:=.value (.func F),args:=#[x],argTypes:=ts })
  (hs:J1f P F) (h0:Hb3 P F) (hB:Hj P F=true)
  (hx:ev l x=.vec i ver 1 n) (hi:lk L i=some (.vec E 1 ver (xs.map I64))) (hn:n=xs.length) (h:Hf6 xs=some r)
  (hL:(i,.vec E 1 ver (r.map I64))::Gbf L [(i,.vec E 1 ver (xs.map I64))]=L''):Gj P o l L (Is (.tup []) L''):=by
 obtain⟨hl,rfl⟩:=Jfa h
 subst hn
 have h1:=J95 (P:=P) (F:=F) hs h0 i ver E xs hl
 refine H9c (xs:=[x]) ho h1 hB ⟨.inl hx,?_,trivial⟩ ⟨hi,trivial⟩ ?_ ?_ hL
 ·simp [AV.refs,inL,lk]
 ·simp [closedIn,Hx.refs]
 ·simp [G82,inL,lk]
end ops
open Go.RowKit Go.Sort Go.Shelf

def G57 (cf:Int→Int→Int) (xs:List Int):List Int:=xs.mergeSort fun x y=>!(ltOf cf) y x
theorem H57 (cf:Int→Int→Int) (xs:List Int):(G57 cf xs).Perm xs:=List.mergeSort_perm _ _
theorem J41 (cf:Int→Int→Int) (xs:List Int):(G57 cf xs).length=xs.length:=(H57 cf xs).length_eq
def Parts (cf:Int→Int→Int):Prop:=∀ x y,(ltOf cf) x y=false→(ltOf cf) y x=false→x=y
theorem J66 (cf:Int→Int→Int) (hO:SWO (ltOf cf)) (xs:List Int):(G57 cf xs).Pairwise (fun x y=>ltOf cf y x=false):=by
 have:=List.pairwise_mergeSort (le:=fun x y=>!(ltOf cf) y x) (fun a b c h1 h2=>by
  simp only [Bool.not_eq_true'] at h1 h2 ⊢
  exact hO.ntrans c b a h2 h1) (fun a b=>by
  cases h:ltOf cf b a with
  | false=>rfl
  | true=>
   cases h2:ltOf cf a b with
   | false=>rfl
   | true=>have:=hO.trans a b a h2 h; rw [hO.irrefl] at this; cases this) xs
 exact this.imp fun h=>by simpa using h
open Classical in
noncomputable def H15 (cmp:Int→Int→Option Int) (xs:List Int):Option (List Int):=
 if h:∃ cf:Int→Int→Int,(∀ x y,cmp x y=some (cf x y))∧SWO (ltOf cf)∧Parts cf∧xs.length < 4611686018427387904 then some (G57 h.choose xs) else none
theorem Jf9 {cmp:Int→Int→Option Int} {xs r:List Int} (h:H15 cmp xs=some r):∃ cf:Int→Int→Int,(∀ x y,cmp x y=some (cf x y))∧SWO (ltOf cf)∧Parts cf∧xs.length < 4611686018427387904∧r=G57 cf xs:=by
 unfold H15 at h
 split at h
 ·next hh=>exact⟨hh.choose,hh.choose_spec.1,hh.choose_spec.2.1,hh.choose_spec.2.2.1,hh.choose_spec.2.2.2,(Ey h).symm⟩
 ·cases h
theorem Q60 {cmp:Int→Int→Option Int} (cf:Int→Int→Int) (hc:∀ x y,cmp x y=some (cf x y)) (hO:SWO (ltOf cf)) (hP:Parts cf) {xs:List Int} (hl:xs.length < 4611686018427387904):H15 cmp xs=some (G57 cf xs):=by
 have hh:∃ cf:Int→Int→Int,(∀ x y,cmp x y=some (cf x y))∧SWO (ltOf cf)∧Parts cf∧xs.length < 4611686018427387904:=⟨cf,hc,hO,hP,hl⟩
 unfold H15
 rw [dif_pos hh]
 have:hh.choose=cf:=by
  funext x y
  have h1:=hh.choose_spec.1 x y
  rw [hc x y] at h1
  exact(Ey h1).symm
 rw [this]

def J1e (P:Program) (F:FuncId):Prop:=
 ∀ (cf:Int→Int→Int),SWO (ltOf cf)→Parts cf→∀ (g:Nat) (cb:Array Value) (blk off cap:Nat) (zs:List Int) (w:World),
  (∀ args w,(callFunc g args).run P w=.ok (.enter g args) w)→CmpLays1 P g cb (Value.int .i64) cf blk off zs.toArray.size w→Holds (Value.int .i64) w blk off zs.toArray→blk < w.heap.size→zs.length < 4611686018427387904 →
  Calls P F #[.slice (some ⟨blk,off,none⟩) zs.length cap,.func (.func g) #[] cb] w fun e w'=>e=.returned (.tuple #[])∧∃ n os,w'=grow (putRow (Value.int .i64) (Sort.ahead w n) blk off (G57 cf zs).toArray) os

set_option maxHeartbeats 1000000 in
theorem J90 {P:Program} {F:FuncId} (hs:J1e P F) (h0:SortNone P F) (cf:Int→Int→Int) (hO:SWO (ltOf cf)) (hP:Parts cf) (g:FuncId) (hB:Hj P g=true) (caps:List AV) (b6:Y5 (fun _=>false) caps=true) (h6:∀ x y,Pure P g ([I64 x,I64 y]++caps) (·=I64 (cf x y)))
  (i ver E:Nat) (xs:List Int) (b2:xs.length < 4611686018427387904) :
  Jx P F [.vec i ver 1 xs.length,.fn g caps] [(i,.vec E 1 ver (xs.map I64))] (fun r L'=>r=.tup []∧L'=[(i,.vec E 1 ver ((G57 cf xs).map I64))]):=by
 intro w β vs h7 hl hv
 have hi:lk [(i,Hx.vec E 1 ver (xs.map I64))] i=some (.vec E 1 ver (xs.map I64)):=by simp [lk]
 have b7:vs.size=2:=hl
 obtain⟨v0,v1,rfl⟩:∃ v0 v1,vs=#[v0,v1]:=by
  refine⟨vs[0],vs[1],?_⟩
  apply Array.ext
  ·simp [b7]
  ·intro j c9 a0
   have:j=0∨j=1:=by omega
   rcases this with rfl | rfl <;> rfl
 have b8:=hv 0 _ v0 rfl rfl
 have b9:=hv 1 _ v1 rfl rfl
 obtain⟨cb,rfl,a6,c0⟩:=b9.inv_fn
 have b3:∀ (j:Nat) u v,caps[j]? = some u→cb[j]? = some v→D w (J1 w β [(i,Hx.vec E 1 ver (xs.map I64))]) u v:=fun j u v hu h1=>(c0 j u v hu h1).toD (Ry b6 u (Ez hu))
 obtain⟨-,d0,c1⟩:=Zr h7 hi b8
 have h8:=J41 cf xs
 have a1:∀ y∈(G57 cf xs).map I64,y.cells.length=1:=fun y hy=>by
  obtain⟨z,_,rfl⟩:=Ko.1 hy
  rfl
 have h4:∀ L:Loc,L=[(i,Hx.vec E 1 ver ((G57 cf xs).map I64))]→Gaf ((i,Hx.vec E 1 ver ((G57 cf xs).map I64))::[(i,Hx.vec E 1 ver (xs.map I64))]) L:=fun L hL id=>by
  subst hL
  rw [G9,G9,G9]
  by_cases e:i=id
  ·rw [if_pos e,if_pos e]
  ·rw [if_neg e,if_neg e,if_neg e]
 rcases c1 with ⟨rfl,c2,a7⟩ | ⟨b,cap,cur,rfl,hb,q1,q2,q3,q4,q5⟩
 ·refine(h0 g cb w).mono fun e w' h=>?_
  obtain⟨rfl,n,os,rfl⟩:=h
  have hx:xs=[]:=by simpa using c2
  subst hx
  have a8:G57 cf ([]:List Int)=[]:=Ek (by simpa using h8)
  obtain⟨st,sat⟩:=Jz (w':=grow (w.drewN n) os) (t:=E) (k:=1) (ver1:=ver) (xs':=(G57 cf ([]:List Int)).map I64) (ob':=none) h7 (.inr ⟨ver,_,hi,Ka,fun _=>⟨by simp [a8],a7.symm,fun b hb=>by rw [a7] at hb; cases hb⟩⟩)
   rfl rfl ⟨rfl,by simp [grow,World.drewN]⟩ (by simp [grow,World.drewN]) (fun b hb _=>by simp [grow,World.drewN,Array.getElem?_append_left hb]) (.inl rfl)
  have s2:=sat ⟨a1,.inl ⟨rfl,by simp [a8]⟩⟩
  exact⟨_,_,_,_,rfl,s2.locEq (h4 _ rfl),st.locEq (h4 _ rfl),.tup rfl (fun j u v hu=>by simp at hu),rfl,rfl⟩
 ·have a9:b < w.heap.size:=(Ei q3).1
  have b0:(xs.map I64).length=xs.length:=by simp
  rw [b0] at q1
  have hH:Holds (Value.int .i64) w b 0 xs.toArray:=by
   intro j hj
   have a0:j < xs.length:=by simpa using hj
   have h9:j < cur.size:=by rw [q4]; omega
   have hu:(flat (xs.map I64))[j]? = some (.sc (Value.int .i64 xs[j])):=by
    rw [H38,Ke,Ex a0]; rfl
   have hd:=q5 j _ cur[j] hu (by simp [h9])
   have he:cur[j]=Value.int .i64 xs[j]:=hd.inv_sc
   constructor
   ·simp [World.cell?,q3,h9,he,a0]
   ·simp [World.frozen?,q3]
  have eg:∀ args w,(callFunc g args).run P w=.ok (.enter g args) w:=fun args w=>Hj.out hB args w
  have hC:CmpLays1 P g cb (Value.int .i64) cf b 0 xs.toArray.size w:=by
   intro m os dk d1 x y
   have h2:∀ b' j,J1 w β [(i,Hx.vec E 1 ver (xs.map I64))] b' j→Yj (sortWorld (Value.int .i64) w b 0 m dk os) b' j=Yj w b' j∧b' < (sortWorld (Value.int .i64) w b 0 m dk os).heap.size:=by
    intro b' j hs
    have a2:b'≠b:=fun e=>by
     have:=hs.kept i _ hi (by rw [e]; exact hb)
     exact this
    constructor
    ·refine Hy (w:=w) ?_
     unfold sortWorld
     simp only [grow]
     rw [Array.getElem?_append_left (by simp only [putRow,mapBlock,Array.size_modify,Sort.ahead]; exact hs.lt)]
     simp only [putRow,mapBlock,Sort.ahead,Array.getElem?_modify,if_neg (Ne.symm a2)]
    ·unfold sortWorld
     simp only [size_grow,putRow,mapBlock,Array.size_modify,Sort.ahead]
     have:=hs.lt; omega
   generalize sortWorld (Value.int .i64) w b 0 m dk os=W at h2 ⊢
   have a3:(#[Value.int .i64 x,Value.int .i64 y]++cb).size=([I64 x,I64 y]++caps).length:=by rw [Array.size_append,Kh,a6]; rfl
   have c3:=Hfe (w:=W) (h6 x y) a3
   clear h6 hs a3 hH q5 a6
   refine(c3 (fun j a v ha h1=>?_)).mono fun e w' h=>?_
   ·rcases Eo j 2 with hj | hj
    ·rw [Kc (by simpa using hj)] at ha
     rw [Array.getElem?_append_left (by simpa using hj)] at h1
     have:j=0∨j=1:=by omega
     rcases this with rfl | rfl
     ·simp at ha h1; subst ha h1; exact .sc
     ·simp at ha h1; subst ha h1; exact .sc
    ·rw [Kb (by simpa using hj)] at ha
     rw [Array.getElem?_append_right (by simpa using hj)] at h1
     exact(b3 (j - 2) a v (by simpa using ha) (by simpa using h1)).mono fun b' j' hs=>⟨(h2 b' j' hs).2,(h2 b' j' hs).1⟩
   ·obtain⟨v,rfl,hd,q,os',rfl⟩:=h
    have c4:=hd.inv_sc
    subst c4
    exact⟨rfl,q,os',rfl⟩
  have a5:=hs cf hO hP g cb b 0 cap xs w eg hC hH a9 b2
  rw [b0]
  refine a5.mono fun e w' h=>?_
  obtain⟨rfl,n,os,rfl⟩:=h
  obtain⟨d',a4⟩:∃ d':Array Int,d'=(G57 cf xs).toArray:=⟨_,rfl⟩
  have c5:d'.size=xs.length:=by rw [a4]; simp [J41]
  have c6:G57 cf xs=d'.toList:=by rw [a4]
  rw [← a4]
  have h5:(grow (putRow (Value.int .i64) (Sort.ahead w n) b 0 d') os).heap[b]? = some (.cells (putCells (Value.int .i64) 0 d' cur) E (0,0)):=by
   unfold grow putRow mapBlock
   simp only [Sort.ahead]
   rw [Array.getElem?_append_left (by simpa using a9),Array.getElem?_modify,if_pos rfl,q3]
   rfl
  have b1:(putCells (Value.int .i64) 0 d' cur).size=cur.size:=by simp [putCells]
  have b4:∀ j,j < xs.length→(putCells (Value.int .i64) 0 d' cur)[j]? = some (Value.int .i64 d'[j]!):=by
   intro j hj
   have h9:j < cur.size:=by rw [q4]; omega
   simp [putCells,h9,c5,hj]
  have f1:(grow (putRow (Value.int .i64) (Sort.ahead w n) b 0 d') os).os=w.os:=rfl
  have f2:(grow (putRow (Value.int .i64) (Sort.ahead w n) b 0 d') os).tape=w.tape:=rfl
  have f3:(grow (putRow (Value.int .i64) (Sort.ahead w n) b 0 d') os).output=w.output∧w.drawn≤(grow (putRow (Value.int .i64) (Sort.ahead w n) b 0 d') os).drawn:=⟨rfl,Nat.le_add_right _ _⟩
  have f4:w.heap.size≤(grow (putRow (Value.int .i64) (Sort.ahead w n) b 0 d') os).heap.size:=by
   rw [size_grow]
   simp only [putRow,mapBlock,Array.size_modify,Sort.ahead]; omega
  have f5:∀ b',b' < w.heap.size→b≠b'→(grow (putRow (Value.int .i64) (Sort.ahead w n) b 0 d') os).heap[b']? = w.heap[b']? := by
   intro b' h3 b5
   unfold grow putRow mapBlock
   simp only [Sort.ahead]
   rw [Array.getElem?_append_left (by simpa using h3),Array.getElem?_modify,if_neg b5]
  clear hH hC h6
  generalize grow (putRow (Value.int .i64) (Sort.ahead w n) b 0 d') os=W at h5 f1 f2 f3 f4 f5
  obtain⟨st,sat⟩:=Jz (w':=W) (t:=E) (k:=1) (ver1:=ver) (xs':=(G57 cf xs).map I64) (ob':=β.at_ i) h7
   (.inr ⟨ver,_,hi,Ka,fun _=>⟨by rw [Km,Km,h8],rfl,fun b' h3=>by
    rw [hb] at h3; cases h3
    rw [World.shape?,h5,World.shape?,q3]; simp only [b1]⟩⟩) f1 f2 f3 f4
   (fun b' h3 a2=>f5 b' h3 (fun e=>a2 (by rw [inL,hi]; rfl) (by rw [hb,e])))
   (.inr (.inl ⟨by rw [inL,hi]; rfl,rfl⟩))
  have s2:=sat ⟨a1,.inr ⟨b,hb,_,h5,by rw [b1,q4,Km,h8]; omega,fun j u v hu h1=>by
   rw [H38] at hu
   have hj:=(Ew hu).1
   rw [Km,h8] at hj
   rw [b4 j hj] at h1
   have c7:=Ey h1
   subst c7
   rw [c6,Ke,Array.getElem?_toList,Array.getElem?_eq_getElem (by omega),Option.map_some] at hu
   have c8:=Ey hu
   subst c8
   rw [getElem!_pos _ j (by omega)]
   exact .sc⟩⟩
  exact⟨_,_,_,_,rfl,s2.locEq (h4 _ rfl),st.locEq (h4 _ rfl),.tup rfl (fun j u v hu=>by simp at hu),rfl,rfl⟩

section ops
variable {P:Program} {o:Oper} {l:Fr} {L L'':Loc}
theorem Qf9 {F:FuncId} {x y:Operand} {ts:Array TypeId} {i ver E n:Nat} {g:FuncId} {caps:List AV} {cmp:Int→Int→Option Int} {xs r:List Int} (ho:o.op=.call { callee:=.value (.func F),args:=#[x,y],argTypes:=ts })
  (hs:J1e P F) (h0:SortNone P F) (hB:Hj P F=true) (h4:Hj P g=true)
  (hx:ev l x=.vec i ver 1 n) (hy:ev l y=.fn g caps) (hi:lk L i=some (.vec E 1 ver (xs.map I64))) (hn:n=xs.length) (h2:Y5 (fun _=>false) caps=true) (h:H15 cmp xs=some r)
  (h3:∀ x y q,cmp x y=some q→Pure P g ([I64 x,I64 y]++caps) (·=I64 q)) (hL:(i,.vec E 1 ver (r.map I64))::Gbf L [(i,.vec E 1 ver (xs.map I64))]=L''):Gj P o l L (Is (.tup []) L''):=by
 obtain⟨cf,hc,hO,hP,hl,rfl⟩:=Jf9 h
 subst hn
 have h1:=J90 (P:=P) (F:=F) hs h0 cf hO hP g h4 caps h2 (fun a b=>h3 a b _ (hc a b)) i ver E xs hl
 refine H9c (xs:=[x,y]) ho h1 hB ⟨.inl hx,?_,.inl hy,?_,trivial⟩ ⟨hi,trivial⟩ ?_ ?_ hL
 ·simp [AV.refs,inL,lk]
 ·exact G72 _ _ h2
 ·simp [closedIn,Hx.refs]
 ·simp [G82,inL,lk]
end ops
end Go.Proofs.Ytokjlondbjdlfaa
