/-
 Is a slice nil: Appending to a part from the front of a slice of the call's A slice of slices of the call's own,whose last slice still g Drawn orders whose last operation,behind all the others,is g The typed steps of slices of slices whose last slice grows. Slices with known cells behind them: What slices.Insert and slices.Delete do to a slice of the ca Fresh results that bear a slice which may be written in plac A slice that is laid out in the text,and is written later: Iterators:
-/
import Derived.Test.YtibhpogonkdiaaaGreatLit0
import Derived.Lib.Overlaps
import Derived.Lib.AppendZerosOnto
set_option linter.unusedVariables false
set_option linter.unusedSimpArgs false
set_option linter.unnecessarySimpa false
namespace Go.Proofs.YtibhpogonkdiaaaGreat
open Go.RowKit

theorem R2f {P:Program} {T E k:Nat} (hT:sliceB P T E k=true) (a:Option Addr) (n c:Nat) (w:World):(Op.equal T (.slice a n c) (.slice none 0 0)).run P w=.ok a.isNone w:=by
 have h:=(sliceB.out hT).1
 unfold Op.equal
 generalize hd:Op.maxDepth=d
 obtain⟨d,rfl⟩:∃ m,d=m+1:=⟨Op.maxDepth - 1,by rw [← hd]; rfl⟩
 clear hd
 cases a with
 | none=>rw [Op.equalIn]; simp [underlying,h]
 | some a=>rw [Op.equalIn]; simp [underlying,h]

def Ra7 {α β:Type} [DecidableEq β] (xs:List α) (k:Bool→Option β):Option β:=
 match xs with
 | []=>if k true=k false then k false else none
 | _=>k false
theorem Q60 {α β γ:Type} [DecidableEq β] {xs:List α} {k:Bool→Option β} {r:β} {f:α→γ} (h:Ra7 xs k=some r) (b:Bool) (hb:b=true→xs.map f=[]):k b=some r:=by
 cases xs with
 | nil=>
  have h:(if k true=k false then k false else none)=some r:=h
  by_cases e:k true=k false
  ·rw [if_pos e] at h
   cases b with
   | true=>rw [e]; exact h
   | false=>exact h
  ·rw [if_neg e] at h; cases h
 | cons x l=>
  cases b with
  | true=>have:=hb rfl; cases this
  | false=>exact h
section
variable {P:Program} {o:Oper} {l:Fr} {L:Loc}
theorem R1b {x:Operand} {T T' E k k':Nat} {xs:List AV} (hT:sliceB P T E k'=true) (ho:o.op=.binOp .eql T x (.const (.slice none 0 0)) T') (hx:Jv (ev l x)=some (k,xs)):Gw P o l L (fun u L'=>∃ b:Bool,(b=true→xs=[])∧u=BL b∧L'=L):=by
 intro a w β K Q h0 hf hK
 have hd:=(hf.ev x).Jv hx
 have key:∀ ao n c,a.eval x=.slice ao n c→(execOp a.eval o).run P w=.ok (.value (.bool ao.isNone)) w:=fun ao n c e=>by
  have e2:a.eval (.const (.slice none 0 0))=.slice none 0 0:=rfl
  simp [execOp,ho,eqGuard,binOp,e,e2,R2f hT]
 generalize hv:a.eval x=v at hd
 cases hd with
 | nil h=>
  rename_i cap ao
  unfold Oper.wp
  rw [key _ _ _ hv]
  exact hK _ _ _ _ _ ⟨ao.isNone,fun _=>rfl,rfl,rfl⟩ h0 (Step.refl _ _ _) .sc
 | list vals h1 hm hk hS h=>
  unfold Oper.wp
  rw [key _ _ _ hv]
  exact hK _ _ _ _ _ ⟨false,fun e=>(by cases e),rfl,rfl⟩ h0 (Step.refl _ _ _) .sc
theorem Rc1 (i E k:Nat) {x:Operand} {ver:Nat} {xs:List AV} (ho:o.op=.assign x) (hx:ev l x=.sc (.slice none 0 0)) (hi:lk L i=some (.vec E k ver xs)):Gw P o l L (Is (.vec i (ver+1) k 0) ((i,.vec E k (ver+1) [])::L)):=by
 intro a w β K Q h0 hf hK
 have hv:=hf.ev x
 rw [hx] at hv
 have hr:(execOp a.eval o).run P w=.ok (.value (.slice none 0 0)) w:=by simp [execOp,ho,hv.inv_sc]
 unfold Oper.wp
 rw [hr]
 obtain⟨st,sat⟩:=Qj (w':=w) (t:=E) (k:=k) (ver1:=ver+1) (xs':=[]) (ob':=none) h0 (.inr ⟨ver,xs,hi,by omega,fun e=>by omega⟩) rfl rfl ⟨rfl,M3⟩ (M3) (fun _ _ _=>rfl) (.inl rfl)
 exact hK _ _ _ w _ ⟨rfl,rfl⟩ (sat ⟨by simp,.inl ⟨rfl,rfl⟩⟩) st (.vec ⟨E,ver+1,[],by rw [Gb,if_pos rfl],M3,fun _=>⟨rfl,.inl ⟨rfl,rfl,by simp [upP]⟩⟩⟩ rfl)
theorem Rc4 (i E k:Nat) {T ver:Nat} {xs:List AV} (ho:o.op=.buildSlice T 0 #[]) (hi:lk L i=some (.vec E k ver xs)) (hT:sliceB P T E k=true):Gw P o l L (Is (.vec i (ver+1) k 0) ((i,.vec E k (ver+1) [])::L)):=by
 intro a w β K Q h1 hf hK
 unfold Oper.wp
 rw [J77 (E:=E) (k:=k) ho hT]
 have h0:w.heap.size < (w.alloc (.cells #[] E)).heap.size:=by simp
 obtain⟨st,sat⟩:=Qj (w':=w.alloc (.cells #[] E)) (t:=E) (k:=k) (ver1:=ver+1) (xs':=[]) (ob':=some w.heap.size) h1 (.inr ⟨ver,xs,hi,by omega,fun e=>by omega⟩) rfl rfl ⟨rfl,M3⟩ (Nat.le_of_lt h0) (fun b hb _=>Je w _ hb) (.inr (.inr ⟨_,rfl,M3,h0⟩))
 have hn:=heap_alloc_new w (.cells #[] E)
 exact hK _ _ _ _ _ ⟨rfl,rfl⟩ (sat ⟨by simp,.inr ⟨_,rfl,#[],hn,by simp,fun j u v hu=>by simp [flat] at hu⟩⟩) st (.vec ⟨E,ver+1,[],by rw [Gb,if_pos rfl],M3,fun _=>⟨rfl,.inr ⟨w.heap.size,0,rfl,by simp [upP],M3,Nat.zero_le _,by simp only [World.shape?,hn,Option.bind_some]; simp⟩⟩⟩ rfl)
end

section
variable {P:Program} {o:Oper} {l:Fr} {L:Loc}
theorem Hcb {T E k:Nat} (hT:sliceB P T E k=true) {ty:Nat} (w:World) (a s:Option Addr) (m cap q cap2:Nat) (cs:List Value) (h0:m+q≤cap) (hs:s=none→q=0) (h4:cs.length=q*k) (h5:∀ (ad:Addr) (j:Nat) u,s=some ad→cs[j]? = some u→w.cell? (ad.add j)=some u) :
  (Builtin.append_ #[T,T] ty #[.slice a m cap,.slice s q cap2]).run P w=(match a with | some ad=>((storeCells (ad.add (m*k)) cs).run P w).andThen fun _ w=>.ok (.slice a (m+q) cap) w | none=>.ok (.slice a (m+q) cap) w):=by
 obtain⟨h1,h2⟩:=sliceB.out hT
 have h3:=Jp h2 w
 cases s with
 | none=>
  have hq:=hs rfl
  subst hq
  have:cs=[]:=Kp (by rw [h4]; simp)
  subst this
  have h6:m≤cap:=by omega
  cases a <;> simp [Builtin.append_,run_underlying h1,Builtin.lenOf,Builtin.firstCells,h3,storeCells,Result.andThen,h6]
 | some ad=>
  have hl:=run_loadCells_list (P:=P) w ad cs (fun j v h=>h5 ad j v rfl h)
  rw [h4] at hl
  cases a with
  | none=>simp [Builtin.append_,run_underlying h1,Builtin.lenOf,Builtin.firstCells,h3,hl,h0]
  | some a2=>simp [Builtin.append_,run_underlying h1,Builtin.lenOf,Builtin.firstCells,h3,hl,h0]
theorem Qf4 {d x:Operand} {T E k i ver m:Nat} {xs ys:List AV} (ho:o.op=.call { callee:=.builtin .append,args:=#[d,x],argTypes:=#[T,T] }) (hT:sliceB P T E k=true) (hd:ev l d=.vsl i ver k 0 m) (hi:lk L i=some (.vec E k ver xs)) (hs:H6d L k (ev l x) ys) (hc:∀ y∈ys,y.flatOk=true) (h4:m+ys.length≤xs.length) (a4:Nat.blt 0 k=true) :
  Gw P o l L (Is (.vsl i ver k 0 (m+ys.length)) ((i,.vec E k ver (xs.take m++ys++xs.drop (m+ys.length)))::L)):=by
 intro a w β K Q h0 hf hK
 have h6:=hf.ev d
 rw [hd] at h6
 have a5:=h6.inv_vsl0 hi
 obtain⟨h9,asx,cap2,cs,a0,a7,h1,h5,a8⟩:=hs.reads h0 (hf.ev x)
 have b5:(xs.take m++ys++xs.drop (m+ys.length)).length=xs.length:=by
  simp only [Ma,List.length_take,List.length_drop]; omega
 have h7:=h0.obj i _ hi
 rcases a5 with ⟨e1,e2,e3⟩ | ⟨b,cap,e1,e2,e3,e4,e5⟩
 ·-- nil: nothing there, nothing to append
  have a9:xs=[]:=by
   rcases h7.2 with ⟨_,h⟩ | ⟨b,h,_⟩
   ·exact h
   ·rw [show β.at_ i=β i from rfl] at e3; rw [e3] at h; cases h
  subst a9
  subst e2
  have b0:ys=[]:=by simpa using h4
  subst b0
  have hr:=Hcb (P:=P) hT (ty:=o.type) w none asx 0 0 0 cap2 cs (by omega) (fun _=>rfl) (by simpa using h1) h5
  have h8:(execOp a.eval o).run P w=.ok (.value (.slice none 0 0)) w:=by
   simp [execOp,ho,resolve,invoke,builtin,e1,a0,hr]
  unfold Oper.wp
  rw [h8]
  have hq:G6f L ((i,J8.vec E k ver [])::L):=fun id=>by
   rw [Gb]
   by_cases e:i=id
   ·subst e; rw [if_pos rfl,hi]
   ·rw [if_neg e]
  exact hK _ _ _ w β ⟨rfl,rfl⟩ (h0.locEq hq) ((Step.refl w β L).locEq hq) (.vsl ⟨E,ver,[],by rw [Gb,if_pos rfl]; rfl,M3,fun _=>⟨by simp,⟨none,0,rfl,by simp,Nat.zero_le _,.inl rfl⟩,fun _=>.inl ⟨rfl,rfl,e3⟩⟩⟩ rfl)
 ·have b1:0 < k:=by simpa [Nat.blt_eq] using a4
  have hb:β.at_ i=some b:=e2
  have b3:xs.length≤cap:=by
   rcases h7.2 with ⟨_,hx⟩ | ⟨b',h,vs,h2,h3,_⟩
   ·subst hx; simp
   ·rw [show β i=some b from e2] at h
    cases h
    have hs:vs.size=cap*k:=by
     have:=e5
     simp [World.shape?,h2] at this
     exact this
    rw [hs] at h3
    exact Nat.le_of_mul_le_mul_right h3 b1
  have hr:=Hcb (P:=P) hT (ty:=o.type) w (some ⟨b,0,none⟩) asx m cap ys.length cap2 cs (by omega) (fun e=>by rw [a7 e]; rfl) h1 h5
  have h8:(execOp a.eval o).run P w=((Builtin.append_ #[T,T] o.type #[.slice (some ⟨b,0,none⟩) m cap,.slice asx ys.length cap2]).run P w).andThen fun v w=>.ok (.value v) w:=by
   simp [execOp,ho,resolve,invoke,builtin,e1,a0]
   try rfl
  have hV:V w β L (.vsl i ver k 0 (m+ys.length)) (.slice (some ⟨b,0,none⟩) (m+ys.length) cap):=
   .vsl ⟨E,ver,xs,hi,M3,fun _=>⟨by omega,⟨_,cap,rfl,by omega,e4,.inr ⟨b,e2,by simp⟩⟩,fun _=>.inr ⟨b,cap,rfl,e2,by omega,e4,e5⟩⟩⟩ rfl
  obtain⟨q1,vs,q2,q3,q4⟩:=Ga4 h0 hi hb
  have b4:m*k+ys.length*k≤xs.length*k:=by rw [← Nat.add_mul]; exact Nat.mul_le_mul_right _ h4
  have a1:∀ (j:Nat) u x,(flat ys)[j]? = some u→cs[j]? = some x→D w (Hn w β L) u x:=fun j u x hu hx=>a8 j u x hu hx
  have b2:∀ v∈cs,v.oneCell'=true:=fun v hv=>by
   obtain⟨j,hj⟩:=List.mem_iff_getElem?.1 hv
   have a2:=(Ky hj).1
   rw [h1] at a2
   have hu:(flat ys)[j]? = some ((flat ys)[j]'(by rw [Hu h9]; exact a2)):=Kz _
   exact(V.data (a1 j _ v hu hj)).cell (H1f hc (M1 hu))
  have a3:=run_storeCells_at P b (m*k) E cs 0 vs w q2 (by rw [h1]; omega) b2
  simp only [Nat.add_zero] at a3
  obtain⟨st,sat⟩:=Hee (off:=m) (zs:=ys) (cs:=cs) h0 hi hb q2 h9 (by rw [h1]) h4 a1
  unfold Oper.wp
  rw [h8,hr]
  have a6:(⟨b,0,none⟩:Addr).add (m*k)=⟨b,m*k,none⟩:=by simp [Addr.add_lit]
  simp only [a6,a3,Result.andThen]
  exact hK _ _ _ _ _ ⟨rfl,rfl⟩ sat st (hV.step st)
end
set_option linter.unusedVariables false

section moves
variable {w w':World} {β:Gr} {L:Loc} {i t k ver1 hw1:Nat}
end moves

section ops
variable {P:Program} {N:Cfg} {Q:Post} {o:Oper} {ops:Array Oper} {rest:List Oper} {l:Fr} {L:Loc}

end ops

section freeze
variable {P:Program} {N:Cfg} {Q:Post} {l l':Fr} {L L':Loc}

end freeze

/-! ### Typed -/
section typed
variable {α:Type}
end typed
set_option linter.unusedVariables false

section sound
variable {P:Program} {N:Cfg} {ops:List Oper} {ws los his:List Nat} {Ls:List Loc} {l0:Fr} {val:Nat→AV}

end sound
set_option linter.unusedVariables false

section typed
variable {P:Program} {N:Cfg} {Q:Post} {o:Oper} {ops:Array Oper} {rest:List Oper} {l:Fr} {L:Loc} {α:Type}

end typed
set_option linter.unusedVariables false

inductive Cv:AV→AV→Prop
 | same {u:AV}:Cv u u
 | agg {cs ds:List AV} (hl:ds.length=cs.length) (h:∀ (j:Nat) u u',cs[j]? = some u→ds[j]? = some u'→Cv u u'):Cv (.agg cs) (.agg ds)
 | list {k:Nat} {xs ys:List AV} (hl:ys.length=xs.length) (hk:∀ (j:Nat) x y,xs[j]? = some x→ys[j]? = some y→y.cells.length=x.cells.length) (h:∀ (j:Nat) u u',(flat xs)[j]? = some u→(flat ys)[j]? = some u'→Cv u u'):Cv (.list k xs) (.list k ys)
 | lst {k:Nat} {xs ys zs:List AV} (h:Cv (.list k xs) (.list k ys)):Cv (.lst k xs zs) (.list k ys)
 | tail {k:Nat} {xs ys:List AV} (h:Cv (.list k xs) (.list k ys)):Cv (.list k xs) (.lst k ys [])
def CvL:List AV→List AV→Prop
 | [],[]=>True
 | u::r,u'::r'=>Cv u u'∧CvL r r'
 | _,_=>False
theorem CvL.len:∀ {cs ds:List AV},CvL cs ds→ds.length=cs.length
 | [],[],_=>rfl
 | _::_,_::_,h=>by rw [M6,M6,CvL.len h.2]
 | [],_::_,h=>h.elim
 | _::_,[],h=>h.elim
section typed
variable {α β:Type} {f:α→AV} {g:β→AV} {k:Nat}
abbrev Ln (α:Type):=List α×List α
abbrev LT {α:Type} (k:Nat) (f:α→AV) (e:Ln α):AV:=.lst k (e.1.map f) (e.2.map f)
end typed

section ops
variable {P:Program} {N:Cfg} {o:Oper} {l:Fr} {L L':Loc} {u u':AV} {α:Type}
theorem D.cut {w:World} {S:Nat→Nat→Prop} {k n:Nat} {xs:List AV} {a:Option Addr} {len cap:Nat} (h:D w S (.list k xs) (.slice a len cap)) (hn:n≤xs.length) :
  D w S (.lst k (xs.take n) (xs.drop n)) (.slice (if cap=0 then a else a.map (·.add (0*k))) n cap):=by
 cases h with
 | nil h=>
  have:n=0:=by simpa using hn
  subst this
  simp only [List.take_nil,List.drop_nil]
  exact .lnil h
 | @list _ b off _ _ vals h0 hm hk hS h=>
  have e:(if cap=0 then some (⟨b,off,none⟩:Addr) else (some (⟨b,off,none⟩:Addr)).map (·.add (0*k)))=some ⟨b,off,none⟩:=by
   split <;> simp [Addr.add_lit]
  rw [e]
  have hl:(xs.take n).length=n:=by rw [List.length_take]; omega
  have:=D.lst (w:=w) (S:=S) (k:=k) (b:=b) (off:=off) (cap:=cap) (xs:=xs.take n) (ys:=xs.drop n) vals (by rw [← Ma,List.take_append_drop]; exact h0) hm (by rw [List.take_append_drop]; exact hk) (by rw [List.take_append_drop]; exact hS) (by rw [List.take_append_drop]; exact h)
  rwa [hl] at this
end ops

theorem Ge4 {P:Program} {T E k:Nat} (hT:sliceB P T E k=true) (a:Option Addr) (len cap m n:Nat) (lo hi:Option Value) (w:World) (h0:m≤n) (hn:n≤cap)
  (h4:(lo=none∧m=0)∨∃ kd,lo=some (.int kd m)) (h5:(hi=none∧n=len)∨∃ kd,hi=some (.int kd n)) :
  (Instr.sliceAt T (.slice a len cap) lo hi none).run P w=.ok (.slice (if cap=m then a else a.map (·.add (m*k))) (n - m) (cap - m)) w:=by
 obtain⟨h1,h2⟩:=sliceB.out hT
 have h3:=Jp h2 w
 have hb:∀ (kd:IntKind) (i:Nat) (y:Nat) (c:BoundsCode),i≤y→(Instr.sliceBound (.int kd (i:Int)) y c).run P w=.ok i w:=fun kd i y c hi=>by
  have:(0:Int)≤i∧(i:Int)≤y:=⟨by omega,by omega⟩
  simp [Instr.sliceBound,asIntOf,this]
 have hs:(Instr.sliceBounds true len cap lo hi none).run P w=.ok (m,n,cap) w:=by
  rcases h4 with ⟨rfl,rfl⟩ | ⟨kd,rfl⟩ <;> rcases h5 with ⟨rfl,rfl⟩ | ⟨kd',rfl⟩
  ·simp [Instr.sliceBounds]
  ·simp [Instr.sliceBounds,hb _ n cap _ (by omega)]
  ·simp [Instr.sliceBounds,hb _ m n _ h0]
  ·simp [Instr.sliceBounds,hb _ m n _ h0,hb _ n cap _ (by omega)]
 simp [Instr.sliceAt,Instr.slice,run_underlying h1,hs,h3]
theorem Qd2 {P:Program} {T E k:Nat} (hT:sliceB P T E k=true) (a:Option Addr) (len cap m n x:Nat) (k1 k2 k3:IntKind) (w:World) (h0:m≤n) (hn:n≤x) (hx:x≤cap) :
  ∃ v,(Instr.sliceAt T (.slice a len cap) (some (.int k1 m)) (some (.int k2 n)) (some (.int k3 x))).run P w=.ok v w:=by
 obtain⟨h1,h2⟩:=sliceB.out hT
 have h3:=Jp h2 w
 have hb:∀ (kd:IntKind) (i:Nat) (y:Nat) (c:BoundsCode),i≤y→(Instr.sliceBound (.int kd (i:Int)) y c).run P w=.ok i w:=fun kd i y c hi=>by
  have:(0:Int)≤i∧(i:Int)≤y:=⟨by omega,by omega⟩
  simp [Instr.sliceBound,asIntOf,this]
 have hs:(Instr.sliceBounds true len cap (some (.int k1 m)) (some (.int k2 n)) (some (.int k3 x))).run P w=.ok (m,n,x) w:=by
  simp [Instr.sliceBounds,hb _ m n _ h0,hb _ n x _ hn,hb _ x cap _ hx]
 exact⟨_,by simp [Instr.sliceAt,Instr.slice,run_underlying h1,hs,h3]; rfl⟩

theorem Ja7.one {w:World} {ob:Option Nat} {t k n c:Nat} {v:Value} (h:Ja7 w ob t k n c v):v.oneCell'=true:=by
 rcases h with ⟨rfl,_⟩ | ⟨b,rfl,_⟩ <;> rfl

section state
variable {N:Cfg} {l:Fr} {L:Loc} {w0 w:World} {β0 β:Gr} {L0:Loc} {a:Act}
theorem Jj.over {s:Nat} {u:AV} (h:Jj a w β L l) (hv:V w β L u (a.tmps.getD s undef)):Jj a w β L ((s,u)::l):=⟨fun t=>by
 rw [look]
 cases hb:Nat.beq s t with
 | true=>have:=Kq hb; subst this; exact hv
 | false=>exact h.tmp t⟩
theorem Qo.vcap (hs:Qo N w0 β0 L0 a w β l L) {s i ver k n t:Nat} {xs:List AV} (h1:look l s=.vec i ver k n) (hi:lk L i=some (.vec t k ver xs)):∃ c,xs.length≤c∧c≤maxLen∧Qo N w0 β0 L0 a w β ((s,.vcap i ver k xs.length c)::l) L:=by
 have hv:=hs.frame.tmp s
 rw [h1] at hv
 obtain⟨rfl,_,h⟩:=G1b hs.sat hi hv
 suffices h0:∃ c,xs.length≤c∧c≤maxLen∧Ja7 w (β.at_ i) t k xs.length c (a.tmps.getD s undef) from by
  obtain⟨c,c1,c2,c3⟩:=h0
  exact⟨c,c1,c2,hs.sat,hs.step,hs.frame.over (.vcap ⟨t,ver,xs,hi,M3,fun _=>c3⟩ c3.one),hs.size,hs.base,hs.defers⟩
 rcases h with ⟨e1,rfl,e3⟩ | ⟨b,cap,vs,e1,e2,e3,e4,e5,e6,_⟩
 ·exact⟨0,M3,Nat.zero_le _,.inl ⟨e1,rfl,rfl,e3⟩⟩
 ·exact⟨cap,e3,e4,.inr ⟨b,e1,e2,e3,e4,by simp [World.shape?,e5,e6]⟩⟩

theorem Qo.vcut (hs:Qo N w0 β0 L0 a w β l L) {s i ver k m t:Nat} {xs:List AV} (h1:look l s=.vsl i ver k 0 m) (hi:lk L i=some (.vec t k ver xs)) :
  ∃ β',Qo N w0 β0 L0 a w β' ((s,.vec i (ver+1) k m)::l) ((i,.vec t k (ver+1) (xs.take m))::L):=by
 have hv:=hs.frame.tmp s
 rw [h1] at hv
 have hc:=hv.inv_vsl0 hi
 obtain⟨_,hm,_⟩:=hv.inv_vsl hi
 rw [Nat.zero_add] at hm
 obtain⟨o1,o2⟩:=hs.sat.obj i _ hi
 have h0:(xs.take m).length=m:=by rw [List.length_take]; omega
 have hk:∀ y∈xs.take m,y.cells.length=k:=fun y hy=>o1 y (List.mem_of_mem_take hy)
 obtain⟨st,sat⟩:=Qj (w':=w) (t:=t) (k:=k) (ver1:=ver+1) (xs':=xs.take m) (ob':=β.at_ i) hs.sat (.inr ⟨ver,xs,hi,by omega,fun e=>by omega⟩) rfl rfl ⟨rfl,M3⟩ (M3) (fun _ _ _=>rfl) (.inr (.inl ⟨by rw [inL,hi]; rfl,rfl⟩))
 have h2:(a.tmps.getD s undef).oneCell'=true:=by
  rcases hc with ⟨e,_⟩ | ⟨b,cap,e,_⟩ <;> rw [e] <;> rfl
 have sat':=sat ⟨hk,?_⟩
 ·refine⟨_,sat',hs.step.trans st,(hs.frame.step st).over (.vec ⟨t,ver+1,_,by rw [Gb,if_pos rfl],M3,fun _=>⟨h0.symm,?_⟩⟩ h2),hs.size,hs.base,hs.defers.step st⟩
  rcases hc with ⟨e1,e2,e3⟩ | ⟨b,cap,e1,e2,e3,e4,e5⟩
  ·exact .inl ⟨e1,e2,by simpa [upP] using e3⟩
  ·exact .inr ⟨b,cap,e1,by simpa [upP] using e2,e3,e4,e5⟩
 ·rcases o2 with ⟨o2,rfl⟩ | ⟨b',o2,vs,o3,o4,o5⟩
  ·exact .inl ⟨o2,by simp⟩
  ·refine .inr ⟨b',o2,vs,o3,Nat.le_trans (Nat.mul_le_mul_right _ (by rw [h0]; exact hm)) o4,fun j u v hu hv=>?_⟩
   rw [G2f o1] at hu
   have hj:=(Ky hu).1
   rw [List.length_take] at hj
   rw [M8,if_pos (by omega)] at hu
   exact(o5 j u v hu hv).mono st.stab
theorem Qo.vgive (hs:Qo N w0 β0 L0 a w β l L) {s i ver k n t:Nat} {xs:List AV} (ver1:Nat) (h1:look l s=.vec i ver k n) (hi:lk L i=some (.vec t k ver xs)) (h7:ver < ver1) :
  ∃ β',Qo N w0 β0 L0 a w β' ((s,.list k xs)::l) ((i,.vec t k ver1 [])::L):=by
 have hv:=hs.frame.tmp s
 rw [h1] at hv
 obtain⟨rfl,hk,h⟩:=G1b hs.sat hi hv
 obtain⟨st,sat⟩:=Qj (w':=w) (t:=t) (k:=k) (ver1:=ver1) (xs':=[]) (ob':=none) hs.sat (.inr ⟨ver,xs,hi,by omega,fun e=>by omega⟩) rfl rfl ⟨rfl,M3⟩ (M3) (fun _ _ _=>rfl) (.inl rfl)
 have sat':=sat ⟨by simp,.inl ⟨rfl,rfl⟩⟩
 refine⟨_,sat',hs.step.trans st,(hs.frame.step st).over ?_,hs.size,hs.base,hs.defers.step st⟩
 rcases h with ⟨e,rfl,_⟩ | ⟨b,cap,vs,e,hb,h1,h2,h3,h4,h5⟩
 ·rw [e]; exact .data (.nil (Nat.zero_le _))
 ·rw [e]
  have h0:∀ j,j < (flat xs).length→j < vs.size:=fun j hj=>by
   rw [Hu hk] at hj
   have:=Nat.mul_le_mul_right k h1
   omega
  refine .data (.list (fun j=>vs.getD j undef) h1 h2 hk (fun j hj=>⟨⟨(Kn h3).1,hs.sat.apart i b _ (by rw [hi]; rfl) hb,fun id o ho h6=>?_⟩,?_⟩) (fun j u hu=>?_))
  ·rw [Gb] at ho
   by_cases e:i=id
   ·subst e; simp [upP] at h6
   ·rw [if_neg e] at ho
    have hb'':β.at_ id=some b:=by simpa [upP,Ne.symm e] using h6
    exact absurd (hs.sat.inj i id b (by rw [hi]; rfl) (by rw [ho]; rfl) hb hb'') e
  ·have:=h0 j hj
   simp [World.cell?,h3,this]
  ·have hj:=(Ky hu).1
   have:=h0 j hj
   refine(h5 j u _ hu ?_).mono st.stab
   simp [this]
end state

section ghosts
variable {P:Program} {N:Cfg} {Q:Post} {l:Fr} {L:Loc} {ops:Array Oper} {rest:List Oper} {c:Code}
theorem Rbc (s:Nat) {i ver k m t:Nat} {xs:List AV} (h1:look l s=.vsl i ver k 0 m) (hi:lk L i=some (.vec t k ver xs)) (hk:JC P N c Q ((s,.vec i (ver+1) k m)::l) ((i,.vec t k (ver+1) (xs.take m))::L)):JC P N c Q l L:=
 fun n w0 β0 L0 a w β hs=>by
  obtain⟨β',h⟩:=hs.vcut h1 hi
  exact hk n w0 β0 L0 a w β' h
theorem R7e (s:Nat) {i ver k m t:Nat} {xs:List AV} (ver1:Nat) (h1:look l s=.vec i ver k m) (hi:lk L i=some (.vec t k ver xs)) (h0:ver < ver1) (hk:JL P N ops rest Q ((s,.list k xs)::l) ((i,.vec t k ver1 [])::L)):JL P N ops rest Q l L:=
 fun n w0 β0 L0 a w β hs=>by
  obtain⟨β',h⟩:=hs.vgive ver1 h1 hi h0
  exact hk n w0 β0 L0 a w β' h
end ghosts

section ops
variable {P:Program} {N:Cfg} {o:Oper} {l:Fr} {L:Loc} {u:AV}
theorem R59 {x p q r:Operand} {T E k i ver n lo hi mx:Nat} {k1 k2 k3:IntKind} {z1 z2 z3:Int} {xs:List AV} (ho:o.op=.slice T x (some p) (some q) (some r)) (hT:sliceB P T E k=true) (hx:ev l x=.vec i ver k n) (hL:lk L i=some (.vec E k ver xs))
  (hp:ev l p=.sc (.int k1 z1)) (hq:ev l q=.sc (.int k2 z2)) (hr:ev l r=.sc (.int k3 z3)) (e1:z1=(lo:Int)) (e2:z2=(hi:Int)) (e3:z3=(mx:Int)) (h1:lo≤hi) (h2:hi≤mx) (h3:mx≤xs.length):Gw P o l L (Is .junk L):=
 Hg fun a w β h0 hf=>by
  subst e1 e2 e3
  have hv:=hf.ev x
  rw [hx] at hv
  have v1:=hf.ev p; rw [hp] at v1
  have v2:=hf.ev q; rw [hq] at v2
  have v3:=hf.ev r; rw [hr] at v3
  obtain⟨rfl,a',cap,he,h5,h6,h7⟩:=Hc2 h0 hL hv
  obtain⟨v,h4⟩:=Qd2 (P:=P) hT a' xs.length cap lo hi mx k1 k2 k3 w h1 h2 (by omega)
  refine⟨v,?_,.junk⟩
  simp only [execOp,ho,he,Sem.run_bind,Option.map_some,v1.inv_sc,v2.inv_sc,v3.inv_sc]
  rw [h4]
  rfl
theorem Q80 {x:Operand} {T E k i ver n lo hi:Nat} {lop h0:Option Operand} {xs:List AV} (ho:o.op=.slice T x lop h0 none) (hT:sliceB P T E k=true) (hx:ev l x=.vsl i ver k 0 n) (hL:lk L i=some (.vec E k ver xs))
  (h7:(lop=none∧lo=0)∨∃ kd p,lop=some p∧ev l p=.sc (.int kd lo)) (h8:(h0=none∧hi=n)∨∃ kd p,h0=some p∧ev l p=.sc (.int kd hi)) (h1:lo≤hi) (h2:hi≤xs.length) (h5:Nat.blt 0 k=true) :
  Gw P o l L (Is (.vsl i ver k lo (hi - lo)) L):=
 Hg fun a w β h6 hf=>by
  have h9:0 < k:=by simpa [Nat.blt_eq] using h5
  have hv:=hf.ev x
  rw [hx] at hv
  obtain⟨_,hn,_⟩:=hv.inv_vsl hL
  obtain⟨_,o2⟩:=h6.obj i _ hL
  have h3:(lop.map a.eval=none∧lo=0)∨∃ kd,lop.map a.eval=some (.int kd lo):=by
   rcases h7 with ⟨rfl,h⟩ | ⟨kd,p,rfl,hp⟩
   ·exact .inl ⟨rfl,h⟩
   ·have:=hf.ev p; rw [hp] at this
    exact .inr ⟨kd,by simp [this.inv_sc]⟩
  have h4:(h0.map a.eval=none∧hi=n)∨∃ kd,h0.map a.eval=some (.int kd hi):=by
   rcases h8 with ⟨rfl,h⟩ | ⟨kd,p,rfl,hp⟩
   ·exact .inl ⟨rfl,h⟩
   ·have:=hf.ev p; rw [hp] at this
    exact .inr ⟨kd,by simp [this.inv_sc]⟩
  rcases hv.inv_vsl0 hL with ⟨e1,e2,e3⟩ | ⟨b,cap,e1,e2,e3,e4,e5⟩
  ·have a0:xs=[]:=by
    rcases o2 with ⟨_,o2⟩ | ⟨b',o2,_⟩
    ·exact o2
    ·rw [show β i=β.at_ i from rfl,e3] at o2; cases o2
   subst a0
   have:hi=0:=by simpa using h2
   subst this
   have:lo=0:=by omega
   subst this
   refine⟨.slice none 0 0,?_,.vsl ⟨E,ver,[],hL,M3,fun _=>⟨by simp,⟨none,0,rfl,M3,Nat.zero_le _,.inl rfl⟩,fun _=>.inl ⟨rfl,rfl,e3⟩⟩⟩ rfl⟩
   simp only [execOp,ho,e1,Sem.run_bind,Option.map_none]
   rw [Ge4 hT none 0 0 0 0 _ _ w (M3) (M3) h3 (h4.imp (fun h=>⟨h.1,rfl⟩) id)]
   rfl
  ·have a1:xs.length≤cap:=by
    rcases o2 with ⟨_,o2⟩ | ⟨b',o2,vs,o3,o4,_⟩
    ·subst o2; simp
    ·rw [show β i=β.at_ i from rfl,e2] at o2; cases o2
     have hs:vs.size=cap*k:=by simpa [World.shape?,o3] using e5
     rw [hs] at o4
     exact Nat.le_of_mul_le_mul_right o4 h9
   refine⟨.slice (if cap=lo then some ⟨b,0,none⟩ else (some ⟨b,0,none⟩:Option Addr).map (·.add (lo*k))) (hi - lo) (cap - lo),?_,.vsl ⟨E,ver,xs,hL,M3,fun _=>⟨by omega,⟨_,_,rfl,by omega,by omega,?_⟩,fun h=>?_⟩⟩ rfl⟩
   ·simp only [execOp,ho,e1,Sem.run_bind,Option.map_none]
    rw [Ge4 hT (some ⟨b,0,none⟩) n cap lo hi _ _ w h1 (by omega) h3 h4]
    rfl
   ·by_cases h:hi - lo=0
    ·exact .inl h
    ·refine .inr ⟨b,e2,?_⟩
     rw [if_neg (by omega)]
     simp [Addr.add_lit]
   ·subst h
    refine .inr ⟨b,cap,?_,e2,by omega,e4,e5⟩
    split <;> simp [Addr.add_lit]
theorem R8a {x:Operand} {T E k k' i ver off n:Nat} {xs:List AV} (ho:o.op=.call { callee:=.builtin .len,args:=#[x],argTypes:=#[T] }) (hT:sliceB P T E k'=true) (hx:ev l x=.vsl i ver k off n) (hL:lk L i=some (.vec E k ver xs)):Gw P o l L (Is (I64 (n:Int)) L):=
 Hg fun a w β h0 hf=>by
  have hv:=hf.ev x
  rw [hx] at hv
  obtain⟨_,_,a',cap,e1,_⟩:=hv.inv_vsl hL
  refine⟨.int .i64 n,?_,.sc⟩
  simp [execOp,ho,resolve,invoke,builtin,Builtin.len_,underlying,(sliceB.out hT).1,e1,goInt]

/-! ### Typed elements -/
theorem Q88 {α:Type} {d x:Operand} {T E k i ver m:Nat} {f:α→AV} {xs ys:List α} (ho:o.op=.call { callee:=.builtin .append,args:=#[d,x],argTypes:=#[T,T] }) (hT:sliceB P T E k=true) (hd:ev l d=.vsl i ver k 0 m) (hi:lk L i=some (.vec E k ver (xs.map f))) (hs:H6d L k (ev l x) (ys.map f)) (hc:∀ y,(f y).flatOk=true) (h0:m+ys.length≤xs.length) (h1:Nat.blt 0 k=true) :
  Gw P o l L (Is (.vsl i ver k 0 (m+ys.length)) ((i,.vec E k ver ((xs.take m++ys++xs.drop (m+ys.length)).map f))::L)):=by
 have h:=Qf4 (P:=P) (m:=m) ho hT hd hi hs (fun y hy=>by
  obtain⟨z,_,rfl⟩:=Mg.1 hy
  exact hc z) (by simpa using h0) h1
 simp only [List.map_append,List.map_take,List.map_drop]
 simpa only [Me] using h
end ops

section lits
variable {P:Program} {o:Oper} {l:Fr} {L:Loc}
theorem R8f (i:Nat) {T E k n ver ver1:Nat} {parts:List (Nat×Operand)} {xs ys:List AV} (ho:o.op=.buildSlice T n parts.toArray) (hd:G12 l (parts.map (·.2)) xs) (hT:sliceB P T E k=true) (hz:Qf P E k=true)
  (h4:parts.map (·.1)=List.range n) (hc:G7f k xs=true) (hn:Nat.ble (n*k) 16777216=true) (b1:Nat.blt 0 k=true) (hi:lk L i=some (.vec E k ver ys)) (b8:ver < ver1):Gw P o l L (Is (.vec i ver1 k xs.length) ((i,.vec E k ver1 xs)::L)):=by
 intro a w β K Q a8 hf hK
 have a9:=hd.length
 have b2:n=xs.length:=by
  have:=congrArg List.length h4
  simp only [Me,List.length_range] at this a9
  omega
 subst b2
 have a2:=G6a hc
 have a3:∀ x∈xs,x.cells.length=k:=fun x hx=>(a2 x hx).1
 have h8:∀ x∈xs,x.isData=true:=by
  intro x hx
  obtain⟨j,hj,e⟩:=List.mem_iff_getElem.1 hx
  have b3:j < (parts.map (·.2)).length:=by omega
  exact e ▸ (hd.get (j:=j) (x:=(parts.map (·.2))[j]) (u:=xs[j]) (Kz b3) (Kz hj)).2
 have h9:=Gec (k:=k) xs 0 (List.replicate (xs.length*k) .junk) (by simp) a2
 obtain⟨inf,z,b4,b5,c0⟩:=Qf.out hz
 let zs:Array Value:=if xs.length*k=0 then #[] else z.cells
 obtain⟨vs',e1,e2,e3⟩:=Ga8 (w:=w) (β:=β) (L:=L) (qs:=parts.map fun p=>(p.1,a.eval p.2)) (vs:=(Array.range (xs.length*k)).map (zs[· % zs.size]!)) h9 (by
   have:=congrArg List.length h4
   simp only [Me,List.length_range] at this
   simp [this]) (fun j p q hp hq=>by
   simp only [M7,Option.map_eq_some_iff] at hq
   obtain⟨y,hy,rfl⟩:=hq
   rw [List.getElem?_zip_eq_some] at hp
   obtain⟨b6,b7⟩:=hp
   have h3:(parts.map (·.1))[j]? = (List.range xs.length)[j]? := by rw [h4]
   simp only [M7,hy,Option.map_some] at h3
   rw [List.range_eq_range',b6] at h3
   have:=(hd.get (j:=j) (x:=y.2) (u:=p.2) (by rw [M7,hy]; rfl) b7)
   have hv:=(hf.ev y.2).plain
   rw [this.1] at hv
   exact⟨(M0 h3).symm,hv⟩) (by simp) (fun j u v hu _=>by
   have:=List.eq_of_mem_replicate (M1 hu)
   subst this; exact .junk)
 have a0:(List.take (0*k) (List.replicate (xs.length*k) AV.junk))++flat xs=flat xs:=by simp
 rw [a0] at e2 e3
 have hr:(execOp a.eval o).run P w=.ok (.value (.slice (some ⟨w.heap.size,0,none⟩) xs.length xs.length)) (w.alloc (.cells vs' E)):=by
  have a4:=Jp (sliceB.out hT).2 w
  have b9:xs.length*k≤16777216:=by simpa using hn
  have a5:¬ (xs.length*k > 2 ^ 24):=by
   have:(2:Nat) ^ 24=16777216:=by decide
   omega
  have hp:(parts.toArray.map fun(x:Nat×Operand)=>(x.1,a.eval x.2)).toList=parts.map fun p=>(p.1,a.eval p.2):=by simp
  by_cases h0:xs.length*k=0
  ·have h5:zs=#[]:=by simp only [zs,if_pos h0]
   rw [h5] at e1
   simp only [execOp,ho,Instr.buildSlice,underlying,(sliceB.out hT).1,run_program,Sem.run_bind,Result.andThen_ok,a4,a5,if_false,Sem.run_pure,if_pos h0,hp,e1,newRow,run_newObj]
   rfl
  ·have h5:zs=z.cells:=by simp only [zs,if_neg h0]
   rw [h5] at e1
   simp only [execOp,ho,Instr.buildSlice,underlying,(sliceB.out hT).1,run_program,Sem.run_bind,Result.andThen_ok,a4,a5,if_false,Sem.run_pure,if_neg h0,zeroValue,typeInfo,b4,b5,hp,e1,newRow,run_newObj]
   rfl
 unfold Oper.wp
 rw [hr]
 have b0:xs.length≤maxLen:=by
  have h1:xs.length*k≤16777216:=by simpa using hn
  have h2:0 < k:=by simpa [Nat.blt_eq] using b1
  have:xs.length*1≤xs.length*k:=Nat.mul_le_mul_left _ h2
  simp only [maxLen]; omega
 have a6:(flat xs).length=xs.length*k:=Hu a3
 have a1:∀ b',b' < w.heap.size→(w.alloc (.cells vs' E)).heap[b']? = w.heap[b']? := fun b' h6=>Je w _ h6
 have h7:(w.alloc (.cells vs' E)).heap[w.heap.size]? = some (.cells vs' E (0,0)):=by
  show (w.heap.push (.cells vs' E))[w.heap.size]? = _
  simp
 have a7:(w.alloc (.cells vs' E)).heap.size=w.heap.size+1:=by
  show (w.heap.push (.cells vs' E)).size=_
  simp
 obtain⟨st,sat⟩:=Qj (w':=w.alloc (.cells vs' E)) (t:=E) (k:=k) (ver1:=ver1) (xs':=xs) (ob':=some w.heap.size) a8 (.inr ⟨ver,ys,hi,by omega,fun e=>by omega⟩) rfl rfl ⟨rfl,M3⟩ (by rw [a7]; omega) (fun b' h6 _=>a1 b' h6) (.inr (.inr ⟨_,rfl,M3,by rw [a7]; omega⟩))
 refine hK _ _ _ _ _ ⟨rfl,rfl⟩ (sat ⟨a3,.inr ⟨_,rfl,vs',h7,by rw [e2,a6]; exact M3,fun j u v hu hv=>?_⟩⟩) st (.vec ⟨E,ver1,xs,by rw [Gb,if_pos rfl],M3,fun _=>⟨rfl,.inr ⟨w.heap.size,xs.length,rfl,by simp [upP],M3,b0,by unfold World.shape?; rw [h7]; simp only [e2,a6]⟩⟩⟩ rfl)
 exact((e3 j u v hu hv).toD (Gd5 h8 u (M1 hu))).mono st.stab
theorem R5e {α:Type} (i:Nat) {T E k n ver ver1:Nat} {parts:List (Nat×Operand)} {f:α→AV} (xs:List α) {ys:List AV} (ho:o.op=.buildSlice T n parts.toArray) (hd:G12 l (parts.map (·.2)) (xs.map f)) (hT:sliceB P T E k=true) (hz:Qf P E k=true)
  (h1:parts.map (·.1)=List.range n) (hc:G7f k (xs.map f)=true) (hn:Nat.ble (n*k) 16777216=true) (h2:Nat.blt 0 k=true) (hi:lk L i=some (.vec E k ver ys)) (h0:ver < ver1):Gw P o l L (Is (.vec i ver1 k xs.length) ((i,.vec E k ver1 (xs.map f))::L)):=by
 have h:=R8f (P:=P) i ho hd hT hz h1 hc hn h2 hi h0
 simpa only [Me] using h
end lits

theorem Qo.vgiveB {N:Cfg} {l:Fr} {L:Loc} {w0 w:World} {β0 β:Gr} {L0:Loc} {a:Act} (hs:Qo N w0 β0 L0 a w β l L) {i ver k n t t2 bx j:Nat} {cs:List AV} {xs:List AV} (ver1:Nat) (h0:lk L bx=some (.box t2 cs)) (hj:cs[j]? = some (.vec i ver k n)) (hi:lk L i=some (.vec t k ver xs)) (b5:ver < ver1) :
  ∃ β',Qo N w0 β0 L0 a w β' l ((bx,.box t2 (cs.set j (.list k xs)))::(i,.vec t k ver1 [])::L):=by
 have h9:i≠bx:=fun e=>by subst e; rw [hi] at h0; cases h0
 have a7:j < cs.length:=(Ky hj).1
 obtain⟨b,hb,vs,a8,b6,a9⟩:=hs.sat.obj bx _ h0
 have a0:j < vs.size:=by omega
 have hv:=a9 j _ vs[j] hj (by simp [a0])
 obtain⟨rfl,hk,h⟩:=G1b hs.sat hi hv
 obtain⟨st,sat⟩:=Qj (w':=w) (t:=t) (k:=k) (ver1:=ver1) (xs':=[]) (ob':=none) hs.sat (.inr ⟨ver,xs,hi,by omega,fun e=>by omega⟩) rfl rfl ⟨rfl,M3⟩ (M3) (fun _ _ _=>rfl) (.inl rfl)
 have sat':=sat ⟨by simp,.inl ⟨rfl,rfl⟩⟩
 have b0:Qo N w0 β0 L0 a w (upP β i none) l ((i,.vec t k ver1 [])::L):=⟨sat',hs.step.trans st,hs.frame.step st,hs.size,hs.base,hs.defers.step st⟩
 have b1:β.at_ bx=some b:=hb
 refine⟨_,b0.redescribeB (i:=bx) (t:=t2) (cs:=cs) (by rw [Gb,if_neg h9]; exact h0) (by simp) fun vs' q u v h8 a5 b7 hu h7=>?_⟩
 by_cases e:j=q
 ·subst e
  rw [List.getElem?_set_self a7] at hu
  cases hu
  obtain⟨b',h6,a1⟩:=h8
  have h6:(upP β i none).at_ bx=some b':=h6
  have b3:(upP β i none).at_ bx=β.at_ bx:=by simp [upP,Ne.symm h9]
  rw [b3,b1] at h6
  cases h6
  rw [a8] at a1
  cases a1
  have b4:v=vs[j]:=by rw [Array.getElem?_eq_getElem a0] at h7; exact(M0 h7).symm
  subst b4
  rcases h with ⟨e,rfl,_⟩ | ⟨b2,cap,vs2,e,a2,h1,h2,h3,h4,h5⟩
  ·rw [e]; exact .data (.nil (Nat.zero_le _))
  ·rw [e]
   have a3:∀ q,q < (flat xs).length→q < vs2.size:=fun q hq=>by
    rw [Hu hk] at hq
    have:=Nat.mul_le_mul_right k h1
    omega
   refine .data (.list (fun q=>vs2.getD q undef) h1 h2 hk (fun q hq=>⟨⟨(Kn h3).1,hs.sat.apart i b2 _ (by rw [hi]; rfl) a2,fun id o ho a4=>?_⟩,?_⟩) (fun q u hu=>?_))
   ·rw [Gb] at ho
    by_cases e:i=id
    ·subst e; simp [upP] at a4
    ·rw [if_neg e] at ho
     have a6:β.at_ id=some b2:=by simpa [upP,Ne.symm e] using a4
     exact absurd (hs.sat.inj i id b2 (by rw [hi]; rfl) (by rw [ho]; rfl) a2 a6) e
   ·have:=a3 q hq
    simp [World.cell?,h3,this]
   ·have hq:=(Ky hu).1
    have:=a3 q hq
    refine(h5 q u _ hu ?_).mono st.stab
    simp [this]
 ·rw [List.getElem?_set_ne e] at hu
  exact a5 q u v hu h7
theorem R51 {P:Program} {N:Cfg} {c:Code} {Q:Post} {l:Fr} {L:Loc} (bx j ver1:Nat) {i ver k n t t2:Nat} {cs cs':List AV} {xs:List AV} (h1:lk L bx=some (.box t2 cs)) (hj:cs[j]? = some (.vec i ver k n)) (hi:lk L i=some (.vec t k ver xs)) (h0:ver < ver1) (h2:cs.set j (.list k xs)=cs')
  (hk:JC P N c Q l ((bx,.box t2 cs')::(i,.vec t k ver1 [])::L)):JC P N c Q l L:=fun n w0 β0 L0 a w β hs=>by
 subst h2
 obtain⟨β',h⟩:=hs.vgiveB ver1 h1 hj hi h0
 exact hk n w0 β0 L0 a w β' h
section lits
variable {P:Program} {o:Oper} {l:Fr} {L:Loc}
theorem R5d (i:Nat) {T E k n ver1:Nat} {parts:List (Nat×Operand)} {xs:List AV} (ho:o.op=.buildSlice T n parts.toArray) (hd:G12 l (parts.map (·.2)) xs) (hT:sliceB P T E k=true) (hz:Qf P E k=true)
  (h4:parts.map (·.1)=List.range n) (hc:G7f k xs=true) (hn:Nat.ble (n*k) 16777216=true) (b1:Nat.blt 0 k=true) (hi:lk L i=none):Gw P o l L (Is (.vec i ver1 k xs.length) ((i,.vec E k ver1 xs)::L)):=by
 intro a w β K Q a8 hf hK
 have a9:=hd.length
 have b2:n=xs.length:=by
  have:=congrArg List.length h4
  simp only [Me,List.length_range] at this a9
  omega
 subst b2
 have a2:=G6a hc
 have a3:∀ x∈xs,x.cells.length=k:=fun x hx=>(a2 x hx).1
 have h8:∀ x∈xs,x.isData=true:=by
  intro x hx
  obtain⟨j,hj,e⟩:=List.mem_iff_getElem.1 hx
  have b3:j < (parts.map (·.2)).length:=by omega
  exact e ▸ (hd.get (j:=j) (x:=(parts.map (·.2))[j]) (u:=xs[j]) (Kz b3) (Kz hj)).2
 have h9:=Gec (k:=k) xs 0 (List.replicate (xs.length*k) .junk) (by simp) a2
 obtain⟨inf,z,b4,b5,b9⟩:=Qf.out hz
 let zs:Array Value:=if xs.length*k=0 then #[] else z.cells
 obtain⟨vs',e1,e2,e3⟩:=Ga8 (w:=w) (β:=β) (L:=L) (qs:=parts.map fun p=>(p.1,a.eval p.2)) (vs:=(Array.range (xs.length*k)).map (zs[· % zs.size]!)) h9 (by
   have:=congrArg List.length h4
   simp only [Me,List.length_range] at this
   simp [this]) (fun j p q hp hq=>by
   simp only [M7,Option.map_eq_some_iff] at hq
   obtain⟨y,hy,rfl⟩:=hq
   rw [List.getElem?_zip_eq_some] at hp
   obtain⟨b6,b7⟩:=hp
   have h3:(parts.map (·.1))[j]? = (List.range xs.length)[j]? := by rw [h4]
   simp only [M7,hy,Option.map_some] at h3
   rw [List.range_eq_range',b6] at h3
   have:=(hd.get (j:=j) (x:=y.2) (u:=p.2) (by rw [M7,hy]; rfl) b7)
   have hv:=(hf.ev y.2).plain
   rw [this.1] at hv
   exact⟨(M0 h3).symm,hv⟩) (by simp) (fun j u v hu _=>by
   have:=List.eq_of_mem_replicate (M1 hu)
   subst this; exact .junk)
 have a0:(List.take (0*k) (List.replicate (xs.length*k) AV.junk))++flat xs=flat xs:=by simp
 rw [a0] at e2 e3
 have hr:(execOp a.eval o).run P w=.ok (.value (.slice (some ⟨w.heap.size,0,none⟩) xs.length xs.length)) (w.alloc (.cells vs' E)):=by
  have a4:=Jp (sliceB.out hT).2 w
  have b8:xs.length*k≤16777216:=by simpa using hn
  have a5:¬ (xs.length*k > 2 ^ 24):=by
   have:(2:Nat) ^ 24=16777216:=by decide
   omega
  have hp:(parts.toArray.map fun(x:Nat×Operand)=>(x.1,a.eval x.2)).toList=parts.map fun p=>(p.1,a.eval p.2):=by simp
  by_cases h0:xs.length*k=0
  ·have h5:zs=#[]:=by simp only [zs,if_pos h0]
   rw [h5] at e1
   simp only [execOp,ho,Instr.buildSlice,underlying,(sliceB.out hT).1,run_program,Sem.run_bind,Result.andThen_ok,a4,a5,if_false,Sem.run_pure,if_pos h0,hp,e1,newRow,run_newObj]
   rfl
  ·have h5:zs=z.cells:=by simp only [zs,if_neg h0]
   rw [h5] at e1
   simp only [execOp,ho,Instr.buildSlice,underlying,(sliceB.out hT).1,run_program,Sem.run_bind,Result.andThen_ok,a4,a5,if_false,Sem.run_pure,if_neg h0,zeroValue,typeInfo,b4,b5,hp,e1,newRow,run_newObj]
   rfl
 unfold Oper.wp
 rw [hr]
 have b0:xs.length≤maxLen:=by
  have h1:xs.length*k≤16777216:=by simpa using hn
  have h2:0 < k:=by simpa [Nat.blt_eq] using b1
  have:xs.length*1≤xs.length*k:=Nat.mul_le_mul_left _ h2
  simp only [maxLen]; omega
 have a6:(flat xs).length=xs.length*k:=Hu a3
 have a1:∀ b',b' < w.heap.size→(w.alloc (.cells vs' E)).heap[b']? = w.heap[b']? := fun b' h6=>Je w _ h6
 have h7:(w.alloc (.cells vs' E)).heap[w.heap.size]? = some (.cells vs' E (0,0)):=by
  show (w.heap.push (.cells vs' E))[w.heap.size]? = _
  simp
 have a7:(w.alloc (.cells vs' E)).heap.size=w.heap.size+1:=by
  show (w.heap.push (.cells vs' E)).size=_
  simp
 obtain⟨st,sat⟩:=Qj (w':=w.alloc (.cells vs' E)) (t:=E) (k:=k) (ver1:=ver1) (xs':=xs) (ob':=some w.heap.size) a8 (.inl hi) rfl rfl ⟨rfl,M3⟩ (by rw [a7]; omega) (fun b' h6 _=>a1 b' h6) (.inr (.inr ⟨_,rfl,M3,by rw [a7]; omega⟩))
 refine hK _ _ _ _ _ ⟨rfl,rfl⟩ (sat ⟨a3,.inr ⟨_,rfl,vs',h7,by rw [e2,a6]; exact M3,fun j u v hu hv=>?_⟩⟩) st (.vec ⟨E,ver1,xs,by rw [Gb,if_pos rfl],M3,fun _=>⟨rfl,.inr ⟨w.heap.size,xs.length,rfl,by simp [upP],M3,b0,by unfold World.shape?; rw [h7]; simp only [e2,a6]⟩⟩⟩ rfl)
 exact((e3 j u v hu hv).toD (Gd5 h8 u (M1 hu))).mono st.stab
theorem Jac {α:Type} (i:Nat) {T E k n ver1:Nat} {parts:List (Nat×Operand)} {f:α→AV} (xs:List α) (ho:o.op=.buildSlice T n parts.toArray) (hd:G12 l (parts.map (·.2)) (xs.map f)) (hT:sliceB P T E k=true) (hz:Qf P E k=true)
  (h0:parts.map (·.1)=List.range n) (hc:G7f k (xs.map f)=true) (hn:Nat.ble (n*k) 16777216=true) (h1:Nat.blt 0 k=true) (hi:lk L i=none):Gw P o l L (Is (.vec i ver1 k xs.length) ((i,.vec E k ver1 (xs.map f))::L)):=by
 have h:=R5d (P:=P) (ver1:=ver1) i ho hd hT hz h0 hc hn h1 hi
 simpa only [Me] using h
end lits

section code
variable {κ:Type} {E:Zr κ} {P:Program} {N:Cfg} {Q:G3c κ} {l:Fr} {L:Loc} {k:κ}
theorem Rb6 {x y:Code} {X:Type} (I:X→Prop) (F:X→Fr) (M:X→Loc) (kf:X→κ)
  (h1:∀ K:Fr→Loc→κ→Prop,(∀ l L k' v,I v→Fits N.base l L (F v) (M v)→k'=kf v→K l L k')→JI E P N x (Q.seq K) l L k)
  (h2:∀ v,I v→JI E P N y Q (F v) (M v) (kf v)):JI E P N (.seq x y) Q l L k:=
 Qb fun K hK=>h1 K fun l L k' v hv hf hk=>hK l L k' (R0f hf (by subst hk; exact h2 v hv))
end code

section ops
variable {κ:Type} {E:Zr κ} {P:Program} {N:Cfg} {ops:Array Oper} {o:Oper} {rest:List Oper} {Q:G3c κ} {l:Fr} {L L':Loc} {u:AV} {k:κ}
end ops

/-! ### A slice of one's own that is begun anew -/
section mem
variable {P:Program} {o:Oper} {l:Fr} {L:Loc}
end mem
end Go.Proofs.YtibhpogonkdiaaaGreat
