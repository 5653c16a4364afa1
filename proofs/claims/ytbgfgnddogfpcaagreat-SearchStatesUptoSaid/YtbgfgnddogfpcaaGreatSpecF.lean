/-
 What iterators yield: The ways to pile GU up,aQ a list.
-/
import Derived.Test.YtbgfgnddogfpcaaGreatXA
import Derived.Test.YtbgfgnddogfpcaaGreatXF
set_option maxRecDepth 100000
namespace Go.Proofs.YtbgfgnddogfpcaaGreat
open Go.RowKit

def kO {W:Type} (r l:List W) (m:Option Unit) (g:Option (List W)):Prop:=g=some r->l <+: r/\m=some ()

variable {W U:Type} {l r:List W}
theorem oS {o:Option U} {m:U->Option Unit} {g:U->Option (List W)} (h:∀ v,kO r l (m v) (g v)):kO r l (bnd o m) (bnd o g):=by
 cases o with
 | none=>intro e; cases e
 | some v=>exact h v
variable {m:Option Unit} {g:Option (List W)}
theorem Jc3 {b:Bool} (h:kO r l m g):kO r l (need b m) (need b g):=by
 cases b with
 | false=>intro e; cases e
 | true=>exact h
theorem G66 {b:U->Nat->Nat->(Nat->Option Unit)->Option Unit} {b':U->Nat->List W->(List W->Option (List W))->Option (List W)} {k:Nat->Option Unit} {k':List W->Option (List W)}
  (hb:∀ x i l nx nx',(∀ l',kO r l' (nx l'.length) (nx' l'))->kO r l (b x i l.length nx) (b' x i l nx')) (hk:∀ l,kO r l (k l.length) (k' l)) (xs:List U):∀ (i:Nat) (l:List W),kO r l (each b k xs i l.length) (each b' k' xs i l):=by
 induction xs with
 | nil=>intro i l; exact hk l
 | cons x xs ih=>intro i l; exact hb x i l _ _ (fun l'=>ih (i+1) l')
theorem J7a [DecidableEq W] {x:W} (h:kO r (l++[x]) m g):kO r l (need (decide (r[l.length]? = some x)) m) g:=by
 intro e;obtain⟨hp,hm⟩:=h e;refine⟨(List.prefix_append l [x]).trans hp,?_⟩;obtain⟨t,rfl⟩:=hp;have:((l++[x])++t)[l.length]? = some x:=by simp
 unfold need; rw [P8 this]; exact hm
theorem Q30:kO r l (need (decide (l.length=r.length)) (some ())) (some l):=by
 intro e; cases e;refine⟨List.prefix_refl _,?_⟩;unfold need; rw [P8 rfl]; rfl
theorem Q2f (h:kO r [] m g) (e:g=some r):m=some ():=(h e).2


theorem G65 {o:List U} {i:Int} {m:U->Option Unit} {g:U->Option (List W)} (h:∀ v,kO r l (m v) (g v)):kO r l (Jw o i m) (Jw o i g):=by
 unfold Jw;cases decide (0<=i) with
 | false=>intro e; cases e
 | true=>exact oS h
theorem Q31 {z:Int} {m:Int->Option Unit} {g:Int->Option (List W)} (h:∀ v,kO r l (m v) (g v)):kO r l (chk z m) (chk z g):=by
 unfold chk;cases Gd8 z with
 | false=>intro e; cases e
 | true=>exact h z
theorem J42 {c:Bool} {m':Option Unit} {g':Option (List W)} (h1:kO r l m g) (h2:kO r l m' g'):kO r l (bif c then m else m') (bif c then g else g'):=by
 cases c with
 | false=>exact h2
 | true=>exact h1
theorem Q94 {m:(Nat->Option Unit)->Option Unit} {m':(List W->Option (List W))->Option (List W)} {k:Nat->Option Unit} {k':List W->Option (List W)}
  (hm:∀ K K',(∀ l',kO r l' (K l'.length) (K' l'))->kO r l (m K) (m' K')) (hk:∀ l',kO r l' (k l'.length) (k' l')):kO r l (jp m k) (jp m' k'):=hm k k' hk

def eD (self_:AE->Gf->AE->Option (List AG)) (p1:AE) (p2:Gf) (p3:AE):Option (List AG):=
 bif decide ((p1.length:Int)=0) then some [[]]
 else
 (each (fun y7 i7 (s7:List AG) nx7=>
   jp (fun kj10=>
    bnd (fC ((i7+1:Nat):Int) p3.length) fun m14=>
    bnd (Rv (p3.drop m14) (fun z0=>cF z0)) fun r15=>
    bnd (bif (!r15) then Jw p3 (i7:Int) some else some default) fun y16=>
    bif (r15||(decide (y7.AC<=y16))) then
    (kj10 s7)
    else
    (each (fun y68 i68 (s68:List AG) nx68=>
      Jw p3 (i7:Int) fun y74=>
      bnd (Rb p3) fun r77=>
      Jw r77 (i7:Int) fun y80=>
      chk (y80+1) fun v81=>
      Jw r77 (i7:Int) fun _=>
      bnd (Rb p1) fun r84=>
      bnd (cE r84 (i68:Int) ((i68+1:Nat):Int)) fun r86=>
      bnd (gB p2 (r77.set (i7:Int).toNat v81) r86) fun _=>
      bnd (self_ r86 p2 (r77.set (i7:Int).toNat v81)) fun ys88=>
      each (fun y88 _ (s88:List AG) nx88=>
       need (decide (([(G2.mk y68 (Slot.mk (i7:Int) y74 0))].length+y88.length)*32<=140737488355328/\[(G2.mk y68 (Slot.mk (i7:Int) y74 0))].length+y88.length<=maxLen)) <|
       nx88 (s88++[[(G2.mk y68 (Slot.mk (i7:Int) y74 0))]++y88]))
      (fun(s88:List AG)=>
       nx68 s88) ys88 0 s68)
     (fun(s68:List AG)=>
      kj10 s68) p1 0 s7)) fun(j10:List AG)=>
   nx7 j10)
  (fun(s7:List AG)=>some s7) p2.Columns 0 [])
def dW:Nat->AE->Gf->AE->Option (List AG)
 | 0,_,_,_=>none
 | F+1,p1,p2,p3=>eD (dW F) p1 p2 p3
theorem H87 (self_:AE->Gf->AE->Option (List AG)) (F:Nat) (p1:AE) (p2:Gf) (p3:AE) (r:List AG) (h:eD self_ p1 p2 p3=some r):eE self_ F p1 p2 p3 r=some ():=by
 refine Q2f ?_ h;unfold eE eD;refine J42 ?_ ?_
 .intro e;cases e;exact⟨List.nil_prefix,rfl⟩
 refine G66 (fun y7 i7 s7 nx nx' h2=>?_) (fun s=>Q30) _ 0 [];refine Q94 (fun K K' hK=>?_) (fun s=>h2 s);refine oS (fun m14=>oS fun r15=>oS fun y16=>J42 (hK _) ?_);refine G66 (fun y68 i68 s68 nx2 nx2' h0=>?_) (fun s=>hK _) _ 0 _;refine G65 fun y74=>oS fun r77=>G65 fun y80=>Q31 fun v81=>G65 fun y82=>oS fun r84=>oS fun r86=>oS fun r87=>oS fun ys88=>?_;refine G66 (fun y88 i88 s88 nx3 nx3' h1=>?_) (fun s=>h0 _) _ 0 _;refine Jc3 ?_;refine J7a ?_;have:=h1 (s88++[[(G2.mk y68 (Slot.mk (i7:Int) y74 0))]++y88]);rw [Pn] at this;exact this
def zG:=PLift.up (zJ dW (fun _ _ _=>rfl) (fun F p1 p2 p3 r h=>H87 _ F p1 p2 p3 r h))
end Go.Proofs.YtbgfgnddogfpcaaGreat
