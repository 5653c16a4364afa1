/-
 What moves.Tasks returns: the work of each bay and phase,in order; how the sorts of few elements end.
-/
import Derived.Test.YtkfhfoljfbjknaaGreatXM
import Derived.Test.YtkfhfoljfbjknaaGreatIsortL
import Derived.Test.YtkfhfoljfbjknaaGreatWp
import Derived.Test.YtkfhfoljfbjknaaGreatTally
set_option maxRecDepth 100000
namespace Go.Proofs.YtkfhfoljfbjknaaGreat
open Go.RowKit

theorem bits_len (n:Nat) (h:n≤12):∃ r,M_math_bits_Len (IntKind.u64.wrap (n:Int))=some r:=by
 have hall:(List.range 13).all (fun n=>(M_math_bits_Len (IntKind.u64.wrap (n:Int))).isSome)=true:=by kernel_rfl
 have:=List.all_eq_true.1 hall n (List.mem_range.2 (by omega))
 exact Option.isSome_iff_exists.1 this

/-- The sort of at most twelve elements, and of more. -/
theorem sort_task {F:Nat} {x:List H6} {cmp:H6→H6→Option Int} {c:H6→H6→Int} (hc:∀ a b,cmp a b=some (c a b)) (hF:20≤F):M_slices_SortFunc_apiTask F x cmp=bif decide (x.length≤12) then some (isrt c x) else none:=by
 unfold M_slices_SortFunc_apiTask
 obtain⟨F,rfl⟩:∃ m,F=m+1:=⟨F - 1,by omega⟩
 by_cases hl:x.length≤12
 ·obtain⟨r,hr⟩:=bits_len _ hl
  rw [hr,decide_eq_true hl,cond_true]
  simp only [bnd]
  unfold Jt
  rw [loop]
  generalize loop _ F=k
  simp only
  rw [chk_in (by omega),decide_eq_true (by omega),cond_true]
  have:=isortM_eq (F:=F+1) hc (data:=x) (b:=(x.length:Int)) rfl (by omega) (by omega)
  rw [show Qa (F+1) x 0 (x.length:Int) cmp=some (isrt c x) from this]
  rfl
 ·rw [decide_eq_false hl,cond_false]
  cases hb:M_math_bits_Len (IntKind.u64.wrap (x.length:Int)) with
  | none=>rfl
  | some r=>
   simp only [bnd]
   have:Jt (F+1) x 0 (x.length:Int) r cmp=none:=by
    unfold Jt
    rw [loop]
    generalize loop _ F=k
    simp only
    unfold chk
    cases inI64 ((x.length:Int) - 0) with
    | false=>rfl
    | true=>
     simp only [cond_true]
     rw [decide_eq_false (by omega),cond_false]
     cases decide (r=0) <;> rfl
   rw [this]
theorem sort_stowed {F:Nat} {x:List G2} {cmp:G2→G2→Option Int} {c:G2→G2→Int} (hc:∀ a b,cmp a b=some (c a b)) (hF:20≤F) (hl:x.length≤12):Qo F x cmp=some (isrt c x):=by
 unfold Qo
 obtain⟨F,rfl⟩:∃ m,F=m+1:=⟨F - 1,by omega⟩
 obtain⟨r,hr⟩:=bits_len _ hl
 rw [hr]
 simp only [bnd]
 unfold Qf
 rw [loop]
 generalize loop _ F=k
 simp only
 rw [chk_in (by omega),decide_eq_true (by omega),cond_true]
 have:=isortM_eq (F:=F+1) hc (data:=x) (b:=(x.length:Int)) rfl (by omega) (by omega)
 rw [show J2 (F+1) x 0 (x.length:Int) cmp=some (isrt c x) from this]
 rfl
theorem sort_int {F:Nat} {x:List Int} {cmp:Int→Int→Option Int} {c:Int→Int→Int} (hc:∀ a b,cmp a b=some (c a b)) (hF:20≤F) (hl:x.length≤12):M_slices_SortFunc_int F x cmp=some (isrt c x):=by
 unfold M_slices_SortFunc_int
 obtain⟨F,rfl⟩:∃ m,F=m+1:=⟨F - 1,by omega⟩
 obtain⟨r,hr⟩:=bits_len _ hl
 rw [hr]
 simp only [bnd]
 unfold M_slices_pdqsortCmpFunc_int
 rw [loop]
 generalize loop _ F=k
 simp only
 rw [chk_in (by omega),decide_eq_true (by omega),cond_true]
 have:=isortM_eq (F:=F+1) hc (data:=x) (b:=(x.length:Int)) rfl (by omega) (by omega)
 rw [show Qg (F+1) x 0 (x.length:Int) cmp=some (isrt c x) from this]
 rfl
theorem sort_stable {F:Nat} {x:List G2} {cmp:G2→G2→Option Int} {c:G2→G2→Int} (hc:∀ a b,cmp a b=some (c a b)) (hF:30≤F) (hl:x.length≤12):Q4 F x cmp=some (isrt c x):=by
 unfold Q4 Qn
 obtain⟨F,rfl⟩:∃ m,F=m+1:=⟨F - 1,by omega⟩
 rw [loop]
 generalize loop _ F=k
 simp only
 rw [decide_eq_false (by omega),cond_false]
 have:=isortM_eq (F:=F+1) hc (data:=x) (b:=(x.length:Int)) rfl (by omega) (by omega)
 rw [show J2 (F+1) x 0 (x.length:Int) cmp=some (isrt c x) from this]
 simp only [bnd]
 rw [loop]
 generalize loop _ F=k2
 rw [decide_eq_false (by omega),cond_false]

def cmpI (a b:Int):Int:=bif decide (a < b) then -1 else bif decide (b < a) then 1 else 0
theorem cmp_int (a b:Int):Jv a b=some (cmpI a b):=by
 have h1:decide (a≠a)=false:=by simp
 have h2:decide (b≠b)=false:=by simp
 simp only [Jv,M_cmp_isNaN_int,bnd,h1,h2,cond_false]
 unfold cmpI
 cases decide (a < b) <;> cases decide (b < a) <;> rfl
theorem cmp_u8 (a b:Int):M_cmp_Compare_uint8 a b=some (cmpI a b):=by
 have h1:decide (a≠a)=false:=by simp
 have h2:decide (b≠b)=false:=by simp
 simp only [M_cmp_Compare_uint8,M_cmp_isNaN_uint8,bnd,h1,h2,cond_false]
 unfold cmpI
 cases decide (a < b) <;> cases decide (b < a) <;> rfl
def orI:List Int→Int
 | []=>0
 | x::r=>bif decide (x≠0) then x else orI r
theorem cmp_or (l:List Int):M_cmp_Or_int l=some (orI l):=by
 unfold M_cmp_Or_int
 have key:∀ (l:List Int) (i:Nat),each (fun(y19:Int) (_:Nat) (_:Unit) nx19=>bif decide (y19≠0) then some y19 else nx19 ()) (fun(_:Unit)=>some (0:Int)) l i ()=some (orI l):=by
  intro l
  induction l with
  | nil=>intro i; rfl
  | cons x r ih=>
   intro i
   rw [each,orI]
   cases decide (x≠0) with
   | true=>rfl
   | false=>exact ih _
 exact key l 0
def scmp (a b:Slot):Int:=orI [cmpI a.G5 b.G5,cmpI a.Tier b.Tier,cmpI a.Half b.Half]
theorem slot_cmp (a b:Slot):M_slot_Compare a b=some (scmp a b):=by
 simp only [M_slot_Compare,cmp_int,cmp_u8,cmp_or,bnd]; rfl
def pcmp (a b:G2):Int:=orI [cmpI a.Slot.Tier b.Slot.Tier,scmp a.Slot b.Slot]
theorem part_cmp (a b:G2):M_moves_part_1 a b=some (pcmp a b):=by
 simp only [M_moves_part_1,cmp_int,slot_cmp,cmp_or,bnd]; rfl
def acmp (a b:G2):Int:=cmpI b.Slot.Tier a.Slot.Tier
theorem above_cmp (a b:G2):M_moves_fromAbove_1 a b=some (acmp a b):=by
 simp only [M_moves_fromAbove_1,cmp_int,bnd]; rfl
def tcmp (a b:H6):Int:=orI [cmpI a.Phase b.Phase,cmpI a.Bay b.Bay]
theorem task_cmp (a b:H6):M_moves_Tasks_1 a b=some (tcmp a b):=by
 simp only [M_moves_Tasks_1,cmp_int,cmp_or,bnd]; rfl
theorem cmpI_lt {a b:Int}:cmpI a b < 0 ↔ a < b:=by
 unfold cmpI
 by_cases h:a < b
 ·simp [h]
 ·by_cases h2:b < a <;> simp [h,h2]
theorem cmpI_zero {a b:Int}:cmpI a b=0 ↔ a=b:=by
 unfold cmpI
 by_cases h:a < b
 ·simp [h]; omega
 ·by_cases h2:b < a
  ·simp [h,h2]; omega
  ·simp [h,h2]; omega
theorem orI_lt (a:Int) (r:List Int):orI (a::r) < 0 ↔ a < 0∨(a=0∧orI r < 0):=by
 rw [orI]
 by_cases h:a=0
 ·simp [h]
 ·simp [h]
theorem tcmp_lt (a b:H6):tcmp a b < 0 ↔ a.Phase < b.Phase∨(a.Phase=b.Phase∧a.Bay < b.Bay):=by
 unfold tcmp
 rw [orI_lt,orI_lt,cmpI_lt,cmpI_zero,cmpI_lt,cmpI_zero]
 simp [orI]
theorem tcmp_order:Ordc tcmp where
 asym x y:=by rw [tcmp_lt,tcmp_lt]; omega
 ntrans x y z:=by rw [tcmp_lt,tcmp_lt,tcmp_lt]; omega

theorem need_tt {β:Type} {k:Option β}:need true k=k:=rfl
theorem runM_collect {κ ν β:Type} {kx:List ν→Option β}:∀ (q:List (κ×ν)) (s:List ν),((s.length+q.length)*32≤140737488355328∧s.length+q.length≤maxLen) →
  runM (fun(x:κ×ν) (s:List ν) nx=>need (decide ((s.length+[x.2].length)*32≤140737488355328∧s.length+[x.2].length≤maxLen)) <| nx (s++[x.2])) kx q s=kx (s++q.map (·.2))
 | [],s,_=>by simp [runM]
 | x::q,s,h=>by
  rw [List.length_cons] at h
  have hd:decide ((s.length+[x.2].length)*32≤140737488355328∧s.length+[x.2].length≤maxLen)=true:=by
   rw [decide_eq_true_eq,List.length_singleton]; omega
  rw [runM,hd]
  simp only [need_tt]
  rw [runM_collect q (s++[x.2]) (by rw [List.length_append,List.length_singleton]; omega)]
  simp
theorem rel_eachI {α σ R:Type} {r:R} (I:σ→Prop) {b:α→Nat→σ→(σ→Option Prop)→Option Prop} {b':α→Nat→σ→(σ→Option R)→Option R} {kx:σ→Option Prop} {kx':σ→Option R}
  (h:∀ x i s nx nx',I s→(∀ s,I s→Rel r (nx s) (nx' s))→Rel r (b x i s nx) (b' x i s nx')) (hk:∀ s,I s→Rel r (kx s) (kx' s)):∀ {xs:List α} {i:Nat} {s:σ},I s→Rel r (each b kx xs i s) (each b' kx' xs i s)
 | [],_,s,hs=>hk s hs
 | x::_,i,s,hs=>h x i s _ _ hs (fun _ h2=>rel_eachI I h hk h2)

/-- The work of each bay and phase, in order. -/
def S_moves_Tasks (F:Nat) (s:Gz) (l:List Move):Option ((List H6)×Int):=
 bif decide (F < 60) then none else
 bnd (S_ship_Right s) fun r4=>
 bif (!r4) then
 (some ([],2))
 else
 (each (fun y189 _ (s189:(Gr Hz H6)) nx189=>
   jp (fun kj196=>
    bif ((decide (y189.Kind < 1))||(decide (4 < y189.Kind))) then
    (kj196 ((decide (y189.Kind < 1))||(decide (4 < y189.Kind))))
    else
    (bif (((decide (y189.Kind=1))||(decide (y189.Kind=4)))&&((decide (y189.Ga < 0))||(decide ((s.Covers.length:Int)≤y189.Ga)))) then
     (kj196 (((decide (y189.Kind=1))||(decide (y189.Kind=4)))&&((decide (y189.Ga < 0))||(decide ((s.Covers.length:Int)≤y189.Ga)))))
     else
     (kj196 ((!((decide (y189.Kind=1))||(decide (y189.Kind=4))))&&((decide (y189.Slot.G5 < 0))||(decide ((s.Columns.length:Int)≤y189.Slot.G5))))))) fun(j196:Bool)=>
   bif j196 then
   (some ([],2))
   else
   (jp (fun kj201=>
     bif decide (3≤y189.Kind) then
     (kj201 2)
     else
     (kj201 1)) fun(j201:Int)=>
    jp (fun kj203=>
     bif ((decide (y189.Kind=1))||(decide (y189.Kind=4))) then
     (Jy s.Covers y189.Ga fun y205=>
      kj203 y205.Bay)
     else
     (Jy s.Columns y189.Slot.G5 fun y207=>
      kj203 y207.Bay)) fun(j203:Int)=>
    bnd (some (Gr.get s189 (Hz.mk j201 j203) (H6.mk 0 0 0 0))) fun v211=>
    bnd (some (Gr.get s189 (Hz.mk j201 j203) (H6.mk 0 0 0 0))) fun v212=>
    jp (fun kj213=>
     bif ((decide (y189.Kind=1))||(decide (y189.Kind=4))) then
     (chk (v212.Covers+1) fun v215=>
      kj213 (v211.Lifts,v215))
     else
     (chk (v211.Lifts+1) fun v216=>
      kj213 (v216,v212.Covers))) fun(j213:Int×Int)=>
    nx189 (Gr.put s189 (Hz.mk j201 j203) (H6.mk j203 j201 j213.1 j213.2))))
  (fun(s189:(Gr Hz H6))=>
   need (decide ((Gr.l s189).length≤12)) <| some (isrt tcmp ((Gr.l s189).map (·.2)),0)) l 0 (Gr.empty:Gr Hz H6))

/-- The value of each entry bears its key. -/
def TInv (s:Gr Hz H6):Prop:=∀ e∈Gr.l s,e.1=Hz.mk e.2.Phase e.2.Bay
theorem mput_mem {κ ν:Type} [DecidableEq κ] {a:κ} {v:ν} {l:List (κ×ν)} {e:κ×ν} (h:e∈mput l a v):e=(a,v)∨e∈l:=by
 unfold mput at h
 split at h
 ·obtain⟨p,hp,rfl⟩:=List.mem_map.1 h
  by_cases hpa:p.1=a
  ·rw [if_pos hpa]; exact .inl rfl
  ·rw [if_neg hpa]; exact .inr hp
 ·rcases List.mem_append.1 h with h | h
  ·exact .inr h
  ·exact .inl (List.mem_singleton.1 h)
theorem TInv.put {s:Gr Hz H6} (h:TInv s) (p b x y:Int):TInv (Gr.put s (Hz.mk p b) (H6.mk b p x y)):=fun e he=>by
 rcases mput_mem (l:=Gr.l s) he with rfl | he
 ·rfl
 ·exact h e he
theorem nodup_key {κ ν:Type} {e f:κ×ν} (hk:e.1=f.1):∀ (l:List (κ×ν)),(l.map (·.1)).Nodup→e∈l→f∈l→e=f:=by
 intro l
 induction l with
 | nil=>intro _ h; simp at h
 | cons x r ih=>
  intro hn he hf
  rw [List.map_cons,List.nodup_cons] at hn
  rcases List.mem_cons.1 he with he1 | he1
  ·rcases List.mem_cons.1 hf with hf1 | hf1
   ·rw [he1,hf1]
   ·exact absurd (List.mem_map.2 ⟨f,hf1,by rw [← hk,he1]⟩) hn.1
  ·rcases List.mem_cons.1 hf with hf1 | hf1
   ·exact absurd (List.mem_map.2 ⟨e,he1,by rw [hk,hf1]⟩) hn.1
   ·exact ih hn.2 he1 hf1
theorem TInv.unique {s:Gr Hz H6} (h:TInv s):∀ a∈(Gr.l s).map (·.2),∀ b∈(Gr.l s).map (·.2),¬ tcmp a b < 0→¬ tcmp b a < 0→a=b:=by
 intro a ha b hb hab hba
 rw [tcmp_lt] at hab hba
 obtain⟨e,he,rfl⟩:=List.mem_map.1 ha
 obtain⟨f,hf,rfl⟩:=List.mem_map.1 hb
 have hk:e.1=f.1:=by
  rw [h e he,h f hf]
  have h1:e.2.Phase=f.2.Phase:=by omega
  have h2:e.2.Bay=f.2.Bay:=by omega
  rw [h1,h2]
 rw [nodup_key hk _ s.nd he hf]

theorem S_moves_Tasks_rel (F:Nat) (s:Gz) (l:List Move) (r:(List H6)×Int):Rel r (M_moves_Tasks F s l (fun r_=>r_=r)) (S_moves_Tasks F s l):=by
 unfold M_moves_Tasks S_moves_Tasks
 by_cases hF:F < 60
 ·rw [decide_eq_true hF]; exact rel_none
 rw [decide_eq_false hF]
 simp only [cond_false]
 refine rel_bnd (fun r4=>rel_bif (fun _=>rel_some) (fun _=>?_))
 refine rel_eachI TInv (fun y i m nx nx' hm hnx=>?_) (fun m hm=>?_) (fun e he=>by cases he)
 ·refine rel_jp (fun K K' hK=>rel_bif (fun _=>hK _) (fun _=>rel_bif (fun _=>hK _) (fun _=>hK _))) (fun j=>rel_bif (fun _=>rel_some) (fun _=>?_))
  refine rel_jp (fun K K' hK=>rel_bif (fun _=>hK _) (fun _=>hK _)) (fun j1=>?_)
  refine rel_jp (fun K K' hK=>rel_bif (fun _=>rel_gidx (fun _=>hK _)) (fun _=>rel_gidx (fun _=>hK _))) (fun j2=>?_)
  refine rel_bnd (fun v=>rel_bnd (fun v2=>?_))
  refine rel_jp (fun K K' hK=>rel_bif (fun _=>rel_chk (fun _=>hK _)) (fun _=>rel_chk (fun _=>hK _))) (fun j3=>hnx _ (hm.put _ _ _ _))
 ·intro h
  obtain⟨hd,h⟩:=Je h
  have hd:=of_decide_eq_true hd
  refine⟨_,rfl,fun q hq=>?_⟩
  have hl:=hq.length_eq
  rw [runM_collect q [] (by simp only [List.length_nil,Nat.zero_add,hl]; constructor <;> (try unfold maxLen) <;> omega)]
  rw [List.nil_append]
  unfold M_moves_sorted_apiTask
  rw [sort_task (c:=tcmp) (fun a b=>task_cmp a b) (by omega),List.length_map,hl,decide_eq_true hd,cond_true]
  refine⟨_,rfl,?_⟩
  rw [isrt_unique tcmp_order hm.unique (hq.map _)]
  exact Option.some.inj h
def S_moves_Tasks_w:=PLift.up (M_moves_Tasks_s S_moves_Tasks (fun F s l r h=>S_moves_Tasks_rel F s l r h))
end Go.Proofs.YtkfhfoljfbjknaaGreat
