/-
 No plan has fewer restows than families bound by.
-/
import Derived.Test.YteoeccjboahfgaaGreatHoldB
set_option maxRecDepth 100000
namespace Go.Proofs.YteoeccjboahfgaaGreat
open Go.RowKit

section
variable {s:Hc} {boxes:List Gr} {calls:Int} {S:List (List G7)} {out:List (List Int)} {t:Nat}
theorem parts_eq (out:List (List Int)) (g:Ga):∀ l:List Gr,(∀ b∈l,b.Size=40∨(b.Size=20∧b.High=false)) →
  Zz 40 g l=(((kept l out g).filter (fun b=>decide (b.Size=40))).length:Int)+(((gone l out g).filter (fun b=>decide (b.Size=40))).length:Int) ∧
  Zz 20 g l=(((kept l out g).filter (fun b=>!decide (b.Size=40))).length:Int)+(((gone l out g).filter (fun b=>!decide (b.Size=40))).length:Int)
 | [],_=>by simp [Zz,kept,gone]
 | b::l,h=>by
  obtain⟨i1,i2⟩:=parts_eq out g l (fun x hx=>h x (by simp [hx]))
  have hb:=h b (by simp)
  unfold Zz kept gone at i1 i2 ⊢
  rw [List.countP_cons,List.countP_cons,List.filter_cons,List.filter_cons,hit_eq,hit_eq]
  generalize List.filter (fun b=>inG g b&&!G69 out b.ID) l=A at i1 i2 ⊢
  generalize List.filter (fun b=>inG g b&&G69 out b.ID) l=B at i1 i2 ⊢
  generalize List.countP (hit g 40) l=c4 at i1 ⊢
  generalize List.countP (hit g 20) l=c2 at i2 ⊢
  cases inG g b with
  | false=>simp only [Bool.false_and,Bool.false_eq_true,if_false]; omega
  | true=>
   simp only [Bool.true_and]
   cases G69 out b.ID with
   | true=>
    simp only [Bool.not_true,Bool.false_eq_true,if_false,if_true]
    rw [List.filter_cons,List.filter_cons]
    rcases hb with e | ⟨e,_⟩
    ·simp [e]; omega
    ·simp [e]; omega
   | false=>
    simp only [Bool.not_false,Bool.false_eq_true,if_false,if_true]
    rw [List.filter_cons,List.filter_cons]
    rcases hb with e | ⟨e,_⟩
    ·simp [e]; omega
    ·simp [e]; omega
/-- A group's count, as bound.Groups tells it. -/
structure Told (boxes:List Gr) (c:G2):Prop where
 ok:G19 c
 whole:c.Whole=Zz 40 c.Ga boxes
 half:c.Half=Zz 20 c.Ga boxes
 some:∃ b∈boxes,b.Load=c.Ga.Load∧b.Discharge=c.Ga.Discharge
theorem group_out (h:G4e s boxes calls S out) (hk:t < S.length) {T:Nat} (hT:∀ c∈s.Columns,c.Tiers≤(T:Int)) {c:G2} (hg:J93 t c.Ga) (hc:Told boxes c) {v:Int} (i:He9 (T:Int) c ((hs s boxes out S t c.Ga).length:Int) v) :
  v≤((gone boxes out c.Ga).length:Int):=by
 obtain⟨p1,p2⟩:=parts_eq out c.Ga boxes (fun b hb=>(h.bok.each b hb).size)
 have h1:=places_le h hk hT hg
 have h2:=wholes_le h hk hT hg
 have h3:=Hba (fun b:Gr=>decide (b.Size=40)) (gone boxes out c.Ga)
 have hw:=hc.whole
 have hh:=hc.half
 rw [p1] at hw
 rw [p2] at hh
 generalize hN:(hs s boxes out S t c.Ga).length=n at h1 h2 i
 generalize ((kept boxes out c.Ga).filter (fun b=>decide (b.Size=40))).length=w at h1 h2 hw
 generalize ((kept boxes out c.Ga).filter (fun b=>!decide (b.Size=40))).length=q at h1 hh
 generalize ((gone boxes out c.Ga).filter (fun b=>decide (b.Size=40))).length=wg at h3 hw
 generalize ((gone boxes out c.Ga).filter (fun b=>!decide (b.Size=40))).length=qg at h3 hh
 have e1:(w:Int)≤(T:Int)*((n:Int) / 2):=by
  have:((n / 2*T:Nat):Int)=(T:Int)*((n:Int) / 2):=by rw [Int.natCast_mul,Int.mul_comm]; rfl
  omega
 have e2:2*(w:Int)+q≤(T:Int)*(n:Int):=by
  have:((n*T:Nat):Int)=(T:Int)*(n:Int):=by rw [Int.natCast_mul,Int.mul_comm]
  omega
 have:=i.least w (by omega) (by omega) e1
 omega
/-- What is left out of a family is no more than what is restowed of it. -/
theorem family_bound {F:Nat} (hF:60≤F) (h:G4e s boxes calls S out) (hk:t < S.length) {T:Nat} (hT20:T≤20) (hC:2*s.Columns.length≤30) (hT:∀ c∈s.Columns,c.Tiers≤(T:Int)) {l:List G2} (hx:(l.map (·.Ga)).Pairwise G8f) (hl:∀ c∈l,J93 t c.Ga∧Told boxes c) {v:Int}
  (hv:H1b F (T:Int) l (2*s.Columns.length) v):v≤tot (fun c=>((gone boxes out c.Ga).length:Int)) l:=by
 have hw:H1d (l.map (fun c=>(c,(hs s boxes out S t c.Ga).length)))≤2*s.Columns.length:=by
  have:=J86 (l.map (fun c=>occ boxes out S t c.Ga)) (List.range (2*s.Columns.length)) (by
   rw [List.pairwise_map] at hx ⊢
   exact List.Pairwise.imp_of_mem (fun {a b} ha hb hab p _=>occ_apart h hk (hl a ha).1 (hl b hb).1 hab p) hx)
  rw [List.length_range,List.map_map] at this
  unfold H1d
  rw [List.map_map]
  exact this
 have hlen:∀ g,(hs s boxes out S t g).length≤40:=fun g=>by
  have:=List.length_filter_le (occ boxes out S t g) (List.range (2*s.Columns.length))
  rw [List.length_range] at this
  unfold hs; omega
 refine Int.le_trans (hv.least _ (by rw [List.map_map]; exact List.map_id' _) hw) ?_
 unfold G4a
 rw [List.map_map]
 clear hv hw hx
 induction l with
 | nil=>exact Int.le_refl _
 | cons c l ih=>
  obtain⟨h1,h2⟩:=hl c (by simp)
  have:=group_out h hk hT h1 h2 (Gfe (F:=F) h2.ok ⟨by omega,by omega⟩ (hlen c.Ga) hF).2
  have ih:=ih (fun c' hc'=>hl c' (by simp [hc']))
  rw [List.map_cons,List.sum_cons,tot]
  simp only [Function.comp] at ih ⊢
  omega
/-- All groups of a family are on board at one call. -/
theorem family_time (h:G4e s boxes calls S out) {l:List G2} (hx:(l.map (·.Ga)).Pairwise G8f) (hl:∀ c∈l,Told boxes c) (h0:0 < S.length):∃ t,t < S.length∧∀ c∈l,J93 t c.Ga:=by
 rcases List.eq_nil_or_concat l with rfl | ⟨r,c,rfl⟩
 ·exact⟨0,h0,fun c hc=>(List.not_mem_nil hc).elim⟩
 ·obtain⟨b,hb,e1,e2⟩:=(hl c (by simp)).some
  obtain⟨_,_,b3,b4,b5⟩:=h.bok.each b hb
  have hlen:=h.len
  refine⟨c.Ga.Load.toNat,by omega,fun c' hc'=>?_⟩
  rw [List.concat_eq_append,List.map_append,List.pairwise_append] at hx
  rw [List.concat_eq_append,List.mem_append] at hc'
  unfold J93
  rcases hc' with hc' | hc'
  ·obtain⟨q1,q2,q3⟩:=hx.2.2 c'.Ga (List.mem_map.2 ⟨c',hc',rfl⟩) c.Ga (by simp)
   omega
  ·rw [List.mem_singleton] at hc'
   subst hc'
   omega
theorem tot_flat {α:Type} {f:α→Int}:∀ ls:List (List α),tot f ls.flatten=tot (fun l=>tot f l) ls
 | []=>rfl
 | l::ls=>by rw [List.flatten_cons,Ha3,tot,tot_flat ls]
theorem J4a {α:Type} {f:α→Nat}:∀ l:List α,tot (fun x=>(f x:Int)) l=((l.map f).sum:Nat)
 | []=>rfl
 | x::l=>by rw [tot,J4a l,List.map_cons,List.sum_cons]; omega
theorem flat_totL:∀ out:List (List Int),totL out=(out.flatten.length:Int)
 | []=>rfl
 | x::l=>by
  have:=flat_totL l
  unfold totL at this ⊢
  rw [tot,this,List.flatten_cons,List.length_append]; omega
/-- Groups that are all different: no box is counted twice. -/
theorem gone_all (h:G4e s boxes calls S out) {gs:List Ga} (hn:gs.Nodup):tot (fun g=>((gone boxes out g).length:Int)) gs≤totL out:=by
 rw [J4a,flat_totL]
 have h1:=J86 (gs.map inG) (boxes.filter (fun b=>G69 out b.ID)) (by
  rw [List.pairwise_map]
  refine hn.imp (fun {a b} hab x _ hh=>hab ?_)
  have q1:=inG_iff.1 hh.1
  have q2:=inG_iff.1 hh.2
  cases a; cases b
  simp only at q1 q2
  congr 1 <;> omega)
 rw [List.map_map] at h1
 have e:gs.map ((fun p=>((boxes.filter (fun b=>G69 out b.ID)).filter p).length) ∘ inG)=gs.map (fun g=>(gone boxes out g).length):=by
  refine List.map_congr_left (fun g _=>?_)
  unfold gone
  simp only [Function.comp]
  rw [List.filter_filter]
 rw [e] at h1
 have hnd:((boxes.filter (fun b=>G69 out b.ID)).map (·.ID)).Nodup:=G7c (List.pairwise_map.2 (h.bok.sorted.filter _))
 have h2:=hnd.length_le_of_subset (l₂:=out.flatten) (fun a ha=>by
  obtain⟨b,hb,rfl⟩:=List.mem_map.1 ha
  obtain⟨x,hx,hy⟩:=List.any_eq_true.1 (List.mem_filter.1 hb).2
  obtain⟨y,hy,e⟩:=List.any_eq_true.1 hy
  have e:=of_decide_eq_true e
  exact List.mem_flatten.2 ⟨x,hx,by rw [e]; exact hy⟩)
 rw [List.length_map] at h2
 omega
/-- Families whose groups are all different bound together. -/
theorem J83 {F:Nat} (hF:60≤F) (h:G4e s boxes calls S out) (h0:0 < S.length) {T:Nat} (hT20:T≤20) (hC:2*s.Columns.length≤30) (hT:∀ c∈s.Columns,c.Tiers≤(T:Int)) {fs:List (List G2×Int)}
  (hf:∀ f∈fs,(f.1.map (·.Ga)).Pairwise G8f∧(∀ c∈f.1,Told boxes c)∧H1b F (T:Int) f.1 (2*s.Columns.length) f.2) (hn:(fs.map (fun f=>f.1.map (·.Ga))).flatten.Nodup):(fs.map (·.2)).sum≤totL out:=by
 refine Int.le_trans ?_ (gone_all h hn)
 rw [tot_flat]
 clear hn
 induction fs with
 | nil=>exact Int.le_refl _
 | cons f fs ih=>
  obtain⟨f1,f2,f3⟩:=hf f (by simp)
  obtain⟨t,ht,hon⟩:=family_time h f1 f2 h0
  have h1:=family_bound hF h ht hT20 hC hT f1 (fun c hc=>⟨hon c hc,f2 c hc⟩) f3
  have ih:=ih (fun f' hf'=>hf f' (by simp [hf']))
  have e:∀ l:List G2,tot (fun c=>((gone boxes out c.Ga).length:Int)) l=tot (fun g=>((gone boxes out g).length:Int)) (l.map (·.Ga)):=by
   intro l
   induction l with
   | nil=>rfl
   | cons x l ih=>rw [List.map_cons,tot,tot,ih]
  rw [List.map_cons,List.sum_cons,List.map_cons,tot,← e]
  omega
end
end Go.Proofs.YteoeccjboahfgaaGreat
