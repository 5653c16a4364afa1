/- What the program and the reference say of a ship and of a st -/
import Derived.Test.YtmfhaflabpnaoaaGreatXP
import Derived.Test.YtmfhaflabpnaoaaGreatLentP
set_option maxRecDepth 100000
namespace Go.Proofs.YtmfhaflabpnaoaaGreat
open Go.RowKit
structure Rf1 (c:G1):Prop where
  plugs:∀ p∈c.Plugs,0≤p∧p < c.Tiers
  sorted:c.Plugs.Pairwise (· < ·)
  place:0≤c.Bay∧c.Bay≤39∧0≤c.Row∧c.Row≤30∧1≤c.Tiers∧c.Tiers≤10∧0≤c.Height∧c.Height≤40000
  load:0≤c.Kilos20∧c.Kilos20≤500000000∧0≤c.Kilos40∧c.Kilos40≤500000000∧0≤c.Lash∧c.Lash≤1000000000000
  at_ : -500000≤c.X∧c.X≤500000 ∧ -500000≤c.Y∧c.Y≤500000 ∧ -500000≤c.Z∧c.Z≤500000
theorem Yc {p:Prop} (h:¬ p):(false=true) ↔ p:=⟨fun e=>Bool.noConfusion e,fun hp=>(h hp).elim⟩
theorem R2c {β:Type} {Q:β→Prop} {z:Int} {k:Int→Option β} (h:Wp (k (IntKind.i64.wrap z)) Q):Wp (wrp z k) Q:=h
theorem Ha5 {α:Type} {R:α→α→Prop} {l:List α} {x:α} (h:l.Pairwise R) (hx:∀ a∈l,R a x):(l++[x]).Pairwise R:=by
  rw [List.pairwise_append]
  refine⟨h,List.pairwise_singleton ..,fun a ha b hb=>?_⟩
  rw [Mj] at hb; subst hb
  exact hx a ha
theorem Y0 {α:Type} {P:α→Prop} {l:List α} {x:α} (h1:∀ y∈l,P y) (h2:P x):∀ y∈l++[x],P y:=fun y hy=>by
  rcases Mh.1 hy with hy | hy
  · exact h1 y hy
  · rw [Mj.1 hy]; exact h2
theorem H54 {pre:List Int} {y p:Int} (h:pre.Pairwise (· < ·)) (hp:pre[pre.length - 1]? = some p) (hy:p < y):∀ a∈pre,a < y:=by
  rcases List.eq_nil_or_concat pre with rfl | ⟨q,z,rfl⟩
  · intro a ha; cases ha
  · rw [List.concat_eq_append] at *
    have hz:z=p:=by
      rw [Mc,Md,show q.length+1 - 1=q.length by omega] at hp
      simpa using hp
    subst hz
    intro a ha
    rcases Mh.1 ha with ha | ha
    · have:=(List.pairwise_append.1 h).2.2 a ha z (by simp)
      omega
    · rw [Mj.1 ha]; exact hy
theorem Ja9 (l:List Hi):G55 l=some (l.all (fun x=>decide (x.low≤x.n)&&decide (x.n≤x.high))):=by
  refine Z3 ?_
  unfold G55
  refine Q8 (fun pre _=>pre.all (fun x=>decide (x.low≤x.n)&&decide (x.n≤x.high))=true) rfl (fun pre y post s nx e hI h0=>Hb (fun h=>Gg ?_) (fun h=>h0 _ ?_)) (fun s hI=>Gg hI.symm)
  · symm
    rw [List.all_eq_false]
    refine⟨y,by rw [e]; simp,?_⟩
    simp only [Mn,Mf] at h
    simp only [Me,Mf]
    omega
  · simp only [Mo,decide_eq_false_iff_not] at h
    rw [List.all_append,hI]
    simp only [List.all_cons,List.all_nil,Bool.and_true,Bool.true_and,Me,Mf]
    omega
theorem Hf2 {pre post:List Int} {l:List Int} {y:Int} (e:l=pre++y::post) (hp:0 < pre.length):∃ p,l[pre.length - 1]? = some p∧pre[pre.length - 1]? = some p∧p∈pre:=by
  have h1:pre[pre.length - 1]? = some (pre[pre.length - 1]'(by omega)):=M1 (by omega)
  exact⟨_,by rw [e,M7 (by omega)]; exact h1,h1,List.getElem_mem _⟩
theorem Rea (c:G1) (hl:c.Plugs.length≤1048576):Wp (G99 c) (fun r=>r=true ↔ Rf1 c):=by
  unfold G99
  have hw:1≤c.Tiers∧c.Tiers≤10→IntKind.i64.wrap (c.Tiers - 1)=c.Tiers - 1:=fun h=>Jc6 (by omega) (by omega)
  refine Q8 (fun pre _=>(∀ p∈pre,0≤p∧p≤IntKind.i64.wrap (c.Tiers - 1))∧pre.Pairwise (· < ·)) ⟨fun p hp=>(M4 hp).elim,List.Pairwise.nil⟩ (fun pre y post s nx e hI h5=>?_) (fun s hI=>?_)
  · obtain⟨h3,h4⟩:=hI
    have h6:y∈c.Plugs:=by rw [e]; simp
    have b0:pre.length < c.Plugs.length:=by rw [e]; simp
    refine R2c (Gy (Ja9 _) ?_)
    simp only [List.all_cons,List.all_nil,Bool.and_true]
    by_cases hy:0≤y∧y≤IntKind.i64.wrap (c.Tiers - 1)
    · rw [Ky hy.1,Ky hy.2]
      simp only [Bool.and_self,Bool.not_true,Bool.not_false,Bool.true_and,Bool.false_or]
      by_cases hp:0 < pre.length
      · obtain⟨p,h7,h8,h9⟩:=Hf2 e hp
        have a0:IntKind.i64.wrap ((pre.length:Int) - 1)=((pre.length - 1:Nat):Int):=by
          rw [Jc6 (by omega) (by omega)]; omega
        rw [Ky (by omega:0 < (pre.length:Int)),cond_true]
        refine Gy (congrArg some a0) (Gy ((G2e h7 some).trans rfl) ?_)
        simp only [Bool.true_and]
        refine Hb (fun h=>Gg (Yc fun hc=>?_)) (fun h=>h5 _ ⟨Y0 h3 hy,Ha5 h4 (H54 h4 h8 (by have:=Kx h; omega))⟩)
        have:=Kw h
        have hs:=hc.sorted
        rw [e] at hs
        have:=(List.pairwise_append.1 hs).2.2 p h9 y (by simp)
        omega
      · have h0:pre=[]:=Kr (by omega)
        subst h0
        rw [Kz (by simp:¬ 0 < (([]:List Int).length:Int))]
        refine H8 (Gg (H8 (Gg ?_)))
        simp only [Bool.false_and,cond_false]
        exact h5 _ ⟨Y0 h3 hy,by simp⟩
    · have hf:(decide (0≤y)&&decide (y≤IntKind.i64.wrap (c.Tiers - 1)))=false:=by
        rw [Bool.and_eq_false_iff,decide_eq_false_iff_not,decide_eq_false_iff_not]
        omega
      rw [hf]
      simp only [Bool.not_false,Bool.not_true,Bool.false_and,cond_false,Bool.true_or,cond_true]
      refine H8 (Gg (H8 (Gg (Gg (Yc fun hc=>hy ?_)))))
      have h1:=hc.plugs y h6
      have h2:=hc.place
      rw [hw (by omega)]
      omega
  · obtain⟨h3,h4⟩:=hI
    refine Gy (Ja9 _) (Gg ?_)
    simp only [List.all_cons,List.all_nil,Bool.and_true,Me,Mf]
    constructor
    · rintro⟨a1,a2,a3,a4,a5,a6,a7,a8,a9,a10⟩
      have hw:=hw a3
      exact⟨fun p hp=>by have:=h3 p hp; omega,h4,by omega,by omega,by omega⟩
    · intro h
      obtain⟨_,_,b1,b2,b3⟩:=h
      omega
theorem Y52 (c:G1) (hl:c.Plugs.length≤1048576):Wp (Yy c) (fun r=>r=true ↔ Rf1 c):=by
  unfold Yy
  refine Q8 (fun pre _=>(∀ p∈pre,0≤p∧p < c.Tiers)∧pre.Pairwise (· < ·)) ⟨fun p hp=>(M4 hp).elim,List.Pairwise.nil⟩ (fun pre y post s nx e hI h4=>?_) (fun s hI=>?_)
  · obtain⟨h1,h2⟩:=hI
    have h5:y∈c.Plugs:=by rw [e]; simp
    have a0:pre.length < c.Plugs.length:=by rw [e]; simp
    refine Hb (fun h=>Gg (Yc fun hc=>?_)) (fun h=>?_)
    · simp only [Mn,Mf] at h
      have:=hc.plugs y h5
      omega
    · simp only [Mo,decide_eq_false_iff_not] at h
      have hy:0≤y∧y < c.Tiers:=by omega
      by_cases hp:0 < pre.length
      · obtain⟨p,h6,h7,h8⟩:=Hf2 e hp
        rw [Ky (by omega:0 < (pre.length:Int)),cond_true]
        refine H8 (Z2 ⟨by omega,by omega⟩ (Gg ?_))
        have h9:(pre.length:Int) - 1=((pre.length - 1:Nat):Int):=by omega
        rw [h9]
        refine Gy ((G2e h6 some).trans rfl) ?_
        simp only [Bool.true_and]
        refine Hb (fun h=>Gg (Yc fun hc=>?_)) (fun h=>h4 _ ⟨Y0 h1 hy,Ha5 h2 (H54 h2 h7 (by have:=Kx h; omega))⟩)
        have:=Kw h
        have hs:=hc.sorted
        rw [e] at hs
        have:=(List.pairwise_append.1 hs).2.2 p h8 y (by simp)
        omega
      · have h0:pre=[]:=Kr (by omega)
        subst h0
        rw [Kz (by simp:¬ 0 < (([]:List Int).length:Int))]
        refine H8 (Gg (H8 (Gg ?_)))
        simp only [Bool.false_and,cond_false]
        exact h4 _ ⟨Y0 h1 hy,by simp⟩
  · obtain⟨h1,h2⟩:=hI
    have h3:∀ n a b:Int,Hr n a b=some (decide (a≤n)&&decide (n≤b)):=fun _ _ _=>rfl
    have cnd:∀ (b:Bool) (n a z:Int),∃ r,(bif b then Hr n a z else some default)=some r∧(b&&r)=(b&&(decide (a≤n)&&decide (n≤z))):=fun b n a z=>by
      cases b
      · exact⟨_,rfl,rfl⟩
      · exact⟨_,rfl,rfl⟩
    refine Gy (h3 _ _ _) ?_
    obtain⟨r1,e1,q1⟩:=cnd (decide (-500000≤c.X)&&decide (c.X≤500000)) c.Y (-500000) 500000
    refine Gy e1 ?_
    rw [q1]
    obtain⟨r2,e2,q2⟩:=cnd (decide (-500000≤c.X)&&decide (c.X≤500000)&&(decide (-500000≤c.Y)&&decide (c.Y≤500000))) c.Z (-500000) 500000
    refine Gy e2 (Gy (h3 _ _ _) ?_)
    rw [q2]
    obtain⟨r3,e3,q3⟩:=cnd (decide (0≤c.Kilos20)&&decide (c.Kilos20≤500000000)) c.Kilos40 0 500000000
    refine Gy e3 ?_
    rw [q3]
    obtain⟨r4,e4,q4⟩:=cnd (decide (0≤c.Kilos20)&&decide (c.Kilos20≤500000000)&&(decide (0≤c.Kilos40)&&decide (c.Kilos40≤500000000))) c.Lash 0 1000000000000
    refine Gy e4 (Gy (h3 _ _ _) ?_)
    rw [q4]
    obtain⟨r5,e5,q5⟩:=cnd (decide (0≤c.Bay)&&decide (c.Bay≤39)) c.Row 0 30
    refine Gy e5 ?_
    rw [q5]
    obtain⟨r6,e6,q6⟩:=cnd (decide (0≤c.Bay)&&decide (c.Bay≤39)&&(decide (0≤c.Row)&&decide (c.Row≤30))) c.Tiers 1 10
    refine Gy e6 ?_
    rw [q6]
    obtain⟨r7,e7,q7⟩:=cnd (decide (0≤c.Bay)&&decide (c.Bay≤39)&&(decide (0≤c.Row)&&decide (c.Row≤30))&&(decide (1≤c.Tiers)&&decide (c.Tiers≤10))) c.Height 0 40000
    refine Gy e7 ?_
    rw [q7]
    refine Gg ?_
    simp only [Me,Mf]
    constructor
    · rintro⟨⟨⟨⟨⟨a1,a2⟩,a3⟩,a4⟩,⟨b1,b2⟩,b3⟩,⟨d1,d2⟩,d3⟩
      exact⟨h1,h2,by omega,by omega,by omega⟩
    · intro h
      obtain⟨_,_,b1,b2,b3⟩:=h
      omega
def dk (b:Bool):Int:=bif b then 1 else 0
def k3 (c:G1):Ha:=⟨c.Bay,c.Row,dk c.Deck⟩
def x3 (x:Ga):List Ha:=x.Rows.map fun r=>⟨x.Bay,r,2⟩
structure Yb0 (x:Ga):Prop where
  bay:0≤x.Bay∧x.Bay≤39
  some:x.Rows≠[]
  rows:∀ r∈x.Rows,0≤r∧r≤30
  sorted:x.Rows.Pairwise (· < ·)
structure H06 (s:G6):Prop where
  num:1≤s.Columns.length∧s.Columns.length≤200∧s.Covers.length≤40
  col:∀ c∈s.Columns,Rf1 c
  cov:∀ x∈s.Covers,Yb0 x
  nodup:(s.Columns.map k3++s.Covers.flatMap x3).Nodup
theorem Y82 {κ:Type} [DecidableEq κ] {m:Q0 κ Int} {l:List κ} (h:Q0.l m=tally l) (a:κ):Q0.l (Q0.put m a (Q0.get m a 0+1))=tally (l++[a]):=by
  rw [H9e]
  show H01 (Q0.l m) a ((G38 (Q0.l m) a).getD 0+1)=_
  rw [h]
theorem Y85 {κ:Type} [DecidableEq κ] {m:Q0 κ Int} {l:List κ} (h:Q0.l m=tally l) (a:κ):0≤Q0.get m a 0∧Q0.get m a 0≤(l.length:Int):=by
  have:=Qf4 l a
  show 0≤(G38 (Q0.l m) a).getD 0∧_
  rw [h]
  exact⟨this.1,by show (G38 (Q0.l m) a).getD 0≤_; rw [h]; exact this.2⟩
theorem Y22 (l:List Ga) (h:∀ x∈l,x.Rows.length≤1048576):(l.flatMap x3).length≤1048576*l.length:=by
  induction l with
  | nil=>simp
  | cons x l ih=>
    have h1:=h x (List.mem_cons_self ..)
    have h2:=ih (fun y hy=>h y (List.mem_cons_of_mem _ hy))
    rw [List.flatMap_cons,Mc,M8]
    have:(x3 x).length=x.Rows.length:=by simp [x3]
    omega
theorem Q16 (s:G6) (hp:∀ c∈s.Columns,c.Plugs.length≤1048576) (hr:∀ x∈s.Covers,x.Rows.length≤1048576):Wp (G96 s) (fun r=>r=true ↔ H06 s):=by
  unfold G96 H2a
  refine Hb (fun hc=>Gg (Yc fun h=>?_)) (fun hc=>?_)
  · have:=h.num
    simp only [Mn,Mf] at hc
    omega
  simp only [Mo,decide_eq_false_iff_not] at hc
  have hn:1≤s.Columns.length∧s.Columns.length≤200∧s.Covers.length≤40:=by omega
  refine Q8 (fun pre m=>Q0.l m=tally (pre.map k3)∧∀ c∈pre,Rf1 c) ⟨rfl,fun c hc=>(M4 hc).elim⟩ (fun pre y post m nx e hI h6=>?_) (fun m hI=>?_)
  · obtain⟨h5,h7⟩:=hI
    have h3:y∈s.Columns:=by rw [e]; simp
    have a6:pre.length < s.Columns.length:=by rw [e]; simp
    refine Hca (fun j=>j=dk y.Deck) (fun K hK=>Hb (fun h=>hK _ (by rw [h]; rfl)) (fun h=>hK _ (by rw [h]; rfl))) (fun j hj=>?_)
    subst hj
    have hb:=Y85 h5 (k3 y)
    rw [Mg] at hb
    refine Gy (x:=Q0.get m (k3 y) 0) rfl (Z2 ⟨by omega,by omega⟩ (H8 (wp_mono (Rea y (hp y h3)) (fun r hr=>Hb (fun h=>Gg (Yc fun hs=>?_)) (fun h=>h6 _ ⟨?_,Y0 h7 ?_⟩)))))
    · rw [hr.2 (hs.col y h3)] at h; cases h
    · rw [List.map_append]; exact Y82 h5 (k3 y)
    · cases r with
      | true=>exact hr.1 rfl
      | false=>cases h
  obtain⟨h5,h7⟩:=hI
  refine Q8 (fun pre m=>Q0.l m=tally (s.Columns.map k3++pre.flatMap x3)∧∀ x∈pre,Yb0 x) ⟨by simpa using h5,fun c hc=>(M4 hc).elim⟩ (fun pre y post m nx e hJ h6=>?_) (fun m hJ=>?_)
  · obtain⟨h8,h9⟩:=hJ
    have h3:y∈s.Covers:=by rw [e]; simp
    have a6:pre.length < s.Covers.length:=by rw [e]; simp
    refine Hb (fun hc=>Gg (Yc fun h=>?_)) (fun hc=>?_)
    · have h1:=(h.cov y h3).bay
      have h2:=(h.cov y h3).some
      simp only [Mn,Mf] at hc
      have:y.Rows.length≠0:=fun h=>h2 (List.length_eq_zero_iff.1 h)
      omega
    simp only [Mo,decide_eq_false_iff_not] at hc
    have a7:y.Rows≠[]:=fun h=>by rw [h] at hc; simp at hc
    have b6:=Y22 pre (fun x hx=>hr x (by rw [e]; exact Mh.2 (.inl hx)))
    have b7:=hr y h3
    refine Q8 (fun pr m=>Q0.l m=tally (s.Columns.map k3++pre.flatMap x3++pr.map (fun r=>(⟨y.Bay,r,2⟩:Ha)))∧(∀ r∈pr,0≤r∧r≤30)∧pr.Pairwise (· < ·)) ⟨by simpa using h8,fun c hc=>(M4 hc).elim,List.Pairwise.nil⟩ (fun pr r pos m nx' e' hK a5=>?_) (fun m hK=>h6 _ ⟨?_,Y0 h9 ⟨by omega,a7,hK.2.1,hK.2.2⟩⟩)
    · obtain⟨a3,a8,a4⟩:=hK
      have a9:r∈y.Rows:=by rw [e']; simp
      have b5:pr.length < y.Rows.length:=by rw [e']; simp
      have go:0≤r∧r≤30→(∀ a∈pr,a < r)→Wp (bnd (some (Q0.get m ⟨y.Bay,r,2⟩ 0)) fun v167=>chk (v167+1) fun v168=>nx' (Q0.put m ⟨y.Bay,r,2⟩ v168)) (fun r=>r=true ↔ H06 s):=fun h1 h2=>by
        have hb:=Y85 a3 ⟨y.Bay,r,2⟩
        simp only [Mc,Mg] at hb
        refine H8 (Gg (Z2 ⟨by omega,by omega⟩ (a5 _ ⟨?_,Y0 a8 h1,Ha5 a4 h2⟩)))
        rw [List.map_append,← List.append_assoc]
        exact Y82 a3 ⟨y.Bay,r,2⟩
      by_cases a0:0≤r∧r≤30
      · have a1:(decide (r < 0)||decide (30 < r))=false:=by simp; omega
        simp only [a1,Bool.not_false,Bool.true_and,Bool.false_or]
        by_cases b0:0 < pr.length
        · obtain⟨p,b1,b2,b3⟩:=Hf2 e' b0
          rw [Ky (by omega:0 < (pr.length:Int)),cond_true]
          refine H8 (Z2 ⟨by omega,by omega⟩ (Gg ?_))
          have b4:(pr.length:Int) - 1=((pr.length - 1:Nat):Int):=by omega
          rw [b4]
          refine Gy ((G2e b1 some).trans rfl) ?_
          simp only [Bool.true_and]
          refine Hb (fun h=>Gg (Yc fun hc=>?_)) (fun h=>go a0 (H54 a4 b2 (by have:=Kx h; omega)))
          have:=Kw h
          have hs:=(hc.cov y h3).sorted
          rw [e'] at hs
          have:=(List.pairwise_append.1 hs).2.2 p b3 r (by simp)
          omega
        · have h0:pr=[]:=Kr (by omega)
          subst h0
          rw [Kz (by simp:¬ 0 < (([]:List Int).length:Int))]
          refine H8 (Gg (H8 (Gg ?_)))
          simp only [Bool.false_and,cond_false]
          exact go a0 (fun a ha=>(M4 ha).elim)
      · have a1:(decide (r < 0)||decide (30 < r))=true:=by simp; omega
        simp only [a1,Bool.not_true,Bool.false_and,cond_false,Bool.true_or,cond_true]
        exact H8 (Gg (H8 (Gg (Gg (Yc fun hc=>a0 ((hc.cov y h3).rows r a9))))))
    · rw [List.flatMap_append,← List.append_assoc]
      simpa [x3] using hK.1
  · obtain⟨h8,h9⟩:=hJ
    rw [J44 (c:=fun x:Ha×Int=>decide (1 < x.2))]
    refine Gg ?_
    have a2:(Q0.l m).any (fun x=>decide (1 < x.2))=false ↔ (s.Columns.map k3++s.Covers.flatMap x3).Nodup:=by
      rw [← Qad,h8,List.any_eq_false]
      constructor
      · intro h j a n hj
        have:=h (a,n) (M3 hj)
        simp only [Mf] at this
        omega
      · intro h x hx
        obtain⟨j,hj⟩:=List.mem_iff_getElem?.1 hx
        have:=h j x.1 x.2 hj
        simp only [Mf]
        omega
    cases h4:(Q0.l m).any (fun x=>decide (1 < x.2)) with
    | true=>
      refine Yc fun h=>?_
      rw [a2.2 h.nodup] at h4; cases h4
    | false=>exact⟨fun _=>⟨hn,h7,h9,a2.1 h4⟩,fun _=>rfl⟩
theorem Q2d (rows:List Int) (row:Int):Qc rows row=some (rows.any (fun r=>decide (r=row))):=by
  refine Z3 ?_
  unfold Qc
  refine Q8 (fun pre _=>pre.any (fun r=>decide (r=row))=false) rfl (fun pre y post s nx e hI h0=>Hb (fun h=>Gg ?_) (fun h=>h0 _ ?_)) (fun s hI=>Gg hI.symm)
  · symm
    exact List.any_eq_true.2 ⟨y,by rw [e]; simp,h⟩
  · rw [List.any_append,hI]
    simp only [List.any_cons,List.any_nil,Bool.or_false,Bool.false_or,h]
theorem R73 {α:Type} {l:List α} {x:α} (h:l.Nodup) (hx:x ∉ l):(l++[x]).Nodup:=by
  rw [List.nodup_append]
  refine⟨h,by simp,fun a ha b hb=>?_⟩
  rw [Mj.1 hb]
  exact fun e=>hx (e ▸ ha)
theorem Yda {a b:G1}:k3 a=k3 b ↔ a.Bay=b.Bay∧a.Row=b.Row∧a.Deck=b.Deck:=by
  unfold k3
  rw [Ha.mk.injEq]
  have:dk a.Deck=dk b.Deck ↔ a.Deck=b.Deck:=by cases a.Deck <;> cases b.Deck <;> decide
  rw [this]
theorem Rd4 {F:Nat} (s:G6) (hp:∀ c∈s.Columns,c.Plugs.length≤1048576) (hr:∀ x∈s.Covers,x.Rows.length≤1048576):Wp (Z9 F s) (fun r=>r=true ↔ H06 s):=by
  unfold Z9
  refine Gy (x:=decide (1≤(s.Columns.length:Int))&&decide ((s.Columns.length:Int)≤200)) rfl (Hb (fun hc=>Gg (Yc fun h=>?_)) (fun hc=>?_))
  · have:=h.num
    simp only [Mn,Bool.not_eq_true',Bool.and_eq_false_iff,Mf,decide_eq_false_iff_not] at hc
    omega
  simp only [Mo,Bool.not_eq_false',Me,Mf,decide_eq_false_iff_not] at hc
  have hn:1≤s.Columns.length∧s.Columns.length≤200∧s.Covers.length≤40:=by omega
  refine Q8 (fun pre _=>(pre.map k3).Nodup∧∀ c∈pre,Rf1 c) ⟨List.nodup_nil,fun c hc=>(M4 hc).elim⟩ (fun pre y post u nx e hI a0=>?_) (fun u hI=>?_)
  · obtain⟨a1,a2⟩:=hI
    have h5:y∈s.Columns:=by rw [e]; simp
    have a9:pre.length < s.Columns.length:=by rw [e]; simp
    refine H8 (wp_mono (Y52 y (hp y h5)) (fun r hr=>Hb (fun h=>Gg (Yc fun hs=>?_)) (fun h=>?_)))
    · rw [hr.2 (hs.col y h5)] at h; cases h
    have b0:Rf1 y:=by
      cases r with
      | true=>exact hr.1 rfl
      | false=>cases h
    refine Zq (Ky (by omega)) ?_
    rw [show (pre.length:Int).toNat=pre.length by omega]
    refine Jc7 (fun i _=>∀ (k:Nat) c,k < i→pre[k]? = some c→k3 c≠k3 y) (fun k c hk=>by omega) (fun i u nx2 hi hJ h9=>?_) (fun u hJ=>a0 _ ⟨?_,Y0 a2 b0⟩)
    · have hx:pre[i]? = some (pre[i]'hi):=M1 hi
      have h6:s.Columns[i]? = some (pre[i]'hi):=by rw [e,M7 hi]; exact hx
      generalize pre[i]'hi=z at hx h6
      rw [G2e h6]
      have h4:∃ b,(bif decide (z.Bay=y.Bay) then Qr s.Columns (i:Int) some else some default)=some b∧(decide (z.Bay=y.Bay)&&decide (b.Row=y.Row))=(decide (z.Bay=y.Bay)&&decide (z.Row=y.Row)):=by
        cases decide (z.Bay=y.Bay)
        · exact⟨_,rfl,rfl⟩
        · exact⟨z,G2e h6 some,rfl⟩
      obtain⟨b,e1,q1⟩:=h4
      refine Gy e1 ?_
      rw [q1]
      have h4:∃ b,(bif (decide (z.Bay=y.Bay)&&decide (z.Row=y.Row)) then Qr s.Columns (i:Int) some else some default)=some b∧((decide (z.Bay=y.Bay)&&decide (z.Row=y.Row))&&(b.Deck==y.Deck))=((decide (z.Bay=y.Bay)&&decide (z.Row=y.Row))&&(z.Deck==y.Deck)):=by
        cases (decide (z.Bay=y.Bay)&&decide (z.Row=y.Row))
        · exact⟨_,rfl,rfl⟩
        · exact⟨z,G2e h6 some,rfl⟩
      obtain⟨b2,e2,q2⟩:=h4
      refine Gy e2 ?_
      rw [q2]
      have hk:((decide (z.Bay=y.Bay)&&decide (z.Row=y.Row))&&(z.Deck==y.Deck))=true ↔ k3 z=k3 y:=by
        rw [Yda]
        simp only [Me,Mf,beq_iff_eq,and_assoc]
      refine Hb (fun h=>Gg (Yc fun hs=>?_)) (fun h=>h9 _ (fun k c b1 h7=>?_))
      · have h1:=hs.nodup
        rw [e,List.map_append] at h1
        have h2:=(List.nodup_append.1 (List.nodup_append.1 h1).1).2.2 (k3 z) (Mi.2 ⟨z,M3 hx,rfl⟩) (k3 y) (by simp)
        exact h2 (hk.1 h)
      · by_cases a3:k < i
        · exact hJ k c a3 h7
        · have:k=i:=by omega
          subst this
          rw [hx] at h7
          cases h7
          intro h3
          rw [hk.2 h3] at h; cases h
    · rw [List.map_append]
      refine R73 a1 (fun hm=>?_)
      obtain⟨c,hc,h3⟩:=Mi.1 hm
      obtain⟨k,hk⟩:=List.mem_iff_getElem?.1 hc
      exact hJ k c (M0 hk).1 hk h3
  obtain⟨a1,a2⟩:=hI
  refine Q8 (fun pre _=>(pre.flatMap x3).Nodup∧∀ x∈pre,Yb0 x) ⟨List.nodup_nil,fun c hc=>(M4 hc).elim⟩ (fun pre y post u nx e hJ a0=>?_) (fun u hJ=>Gg ⟨fun _=>⟨hn,a2,hJ.2,?_⟩,fun _=>rfl⟩)
  · obtain⟨b3,b4⟩:=hJ
    have h5:y∈s.Covers:=by rw [e]; simp
    have a9:pre.length < s.Covers.length:=by rw [e]; simp
    refine Gy (x:=decide (0≤y.Bay)&&decide (y.Bay≤39)) rfl (Hb (fun hc=>Gg (Yc fun h=>?_)) (fun hc=>?_))
    · have h1:=(h.cov y h5).bay
      have h2:=(h.cov y h5).some
      simp only [Mn,Bool.not_eq_true',Bool.and_eq_false_iff,Mf,decide_eq_false_iff_not] at hc
      have:y.Rows.length≠0:=fun h=>h2 (List.length_eq_zero_iff.1 h)
      omega
    simp only [Mo,Bool.not_eq_false',Me,Mf,decide_eq_false_iff_not] at hc
    have b5:y.Rows≠[]:=fun h=>by rw [h] at hc; simp at hc
    refine Q8 (fun pr _=>(∀ r∈pr,0≤r∧r≤30)∧pr.Pairwise (· < ·)∧∀ r∈pr,(⟨y.Bay,r,2⟩:Ha) ∉ pre.flatMap x3) ⟨fun c hc=>(M4 hc).elim,List.Pairwise.nil,fun c hc=>(M4 hc).elim⟩ (fun pr r pos u nx' e' hK a8=>?_) (fun u hK=>a0 _ ⟨?_,Y0 b4 ⟨hc.1,b5,hK.1,hK.2.1⟩⟩)
    · obtain⟨b6,a6,b7⟩:=hK
      have a7:r∈y.Rows:=by rw [e']; simp
      have c3:pr.length < y.Rows.length:=by rw [e']; simp
      have c4:=hr y h5
      refine Gy (x:=decide (0≤r)&&decide (r≤30)) rfl ?_
      have go:0≤r∧r≤30→(∀ a∈pr,a < r)→Wp (need (decide ((pre.length:Int)≤9223372036854775807)) <|
              upto (fun i84 (s84:Unit) nx84=>
                Qr s.Covers (i84:Int) fun y89=>
                bnd (bif decide (y89.Bay=y.Bay) then Qr s.Covers (i84:Int) some else some default) fun y91=>
                bnd (bif decide (y89.Bay=y.Bay) then Qc y91.Rows r else some default) fun r92=>
                bif ((decide (y89.Bay=y.Bay))&&r92) then
                (some false)
                else
                (nx84 ()))
              (fun(s84:Unit)=>
                nx' ()) (pre.length:Int).toNat 0 ()) (fun r=>r=true ↔ H06 s):=fun h1 h2=>by
        refine Zq (Ky (by omega)) ?_
        rw [show (pre.length:Int).toNat=pre.length by omega]
        refine Jc7 (fun i _=>∀ (k:Nat) x,k < i→pre[k]? = some x→(⟨y.Bay,r,2⟩:Ha) ∉ x3 x) (fun k c hk=>by omega) (fun i u nx2 hi hJ h9=>?_) (fun u hJ=>a8 _ ⟨Y0 b6 h1,Ha5 a6 h2,Y0 b7 (fun hm=>?_)⟩)
        · have hx:pre[i]? = some (pre[i]'hi):=M1 hi
          have h6:s.Covers[i]? = some (pre[i]'hi):=by rw [e,M7 hi]; exact hx
          generalize pre[i]'hi=z at hx h6
          rw [G2e h6]
          have h4:∃ b c,(bif decide (z.Bay=y.Bay) then Qr s.Covers (i:Int) some else some default)=some b∧(bif decide (z.Bay=y.Bay) then Qc b.Rows r else some default)=some c∧(decide (z.Bay=y.Bay)&&c)=(decide (z.Bay=y.Bay)&&z.Rows.any (fun q=>decide (q=r))):=by
            cases decide (z.Bay=y.Bay)
            · exact⟨_,_,rfl,rfl,rfl⟩
            · exact⟨z,_,G2e h6 some,Q2d _ _,rfl⟩
          obtain⟨b,c,e1,e2,q1⟩:=h4
          refine Gy e1 (Gy e2 ?_)
          rw [q1]
          have hk:(decide (z.Bay=y.Bay)&&z.Rows.any (fun q=>decide (q=r)))=true ↔ (⟨y.Bay,r,2⟩:Ha)∈x3 z:=by
            unfold x3
            simp only [Me,Mf,List.any_eq_true,Mi,Ha.mk.injEq]
            constructor
            · rintro⟨h1,q,h2,h3⟩; exact⟨q,h2,h1,h3,trivial⟩
            · rintro⟨q,h2,h1,h3,_⟩; exact⟨h1,q,h2,h3⟩
          refine Hb (fun h=>Gg (Yc fun hs=>?_)) (fun h=>h9 _ (fun k c b1 h7=>?_))
          · have h1:=(List.nodup_append.1 hs.nodup).2.1
            rw [e,List.flatMap_append,List.flatMap_cons] at h1
            have h2:=(List.nodup_append.1 h1).2.2 ⟨y.Bay,r,2⟩ (List.mem_flatMap.2 ⟨z,M3 hx,hk.1 h⟩) ⟨y.Bay,r,2⟩ (Mh.2 (.inl (Mi.2 ⟨r,a7,rfl⟩)))
            exact h2 rfl
          · by_cases a3:k < i
            · exact hJ k c a3 h7
            · have:k=i:=by omega
              subst this
              rw [hx] at h7
              cases h7
              intro h3
              rw [hk.2 h3] at h; cases h
        · obtain⟨x,hx,hm⟩:=List.mem_flatMap.1 hm
          obtain⟨k,hk⟩:=List.mem_iff_getElem?.1 hx
          exact hJ k x (M0 hk).1 hk hm
      by_cases a4:0≤r∧r≤30
      · have a5:(decide (0≤r)&&decide (r≤30))=true:=by simp; omega
        simp only [a5,Bool.not_true,Bool.not_false,Bool.true_and,Bool.false_or]
        by_cases b8:0 < pr.length
        · obtain⟨p,b9,c0,c1⟩:=Hf2 e' b8
          rw [Ky (by omega:0 < (pr.length:Int)),cond_true]
          refine H8 (Z2 ⟨by omega,by omega⟩ (Gg ?_))
          have c2:(pr.length:Int) - 1=((pr.length - 1:Nat):Int):=by omega
          rw [c2]
          refine Gy ((G2e b9 some).trans rfl) ?_
          simp only [Bool.true_and]
          refine Hb (fun h=>Gg (Yc fun hc=>?_)) (fun h=>go a4 (H54 a6 c0 (by have:=Kx h; omega)))
          have:=Kw h
          have hs:=(hc.cov y h5).sorted
          rw [e'] at hs
          have:=(List.pairwise_append.1 hs).2.2 p c1 r (by simp)
          omega
        · have h0:pr=[]:=Kr (by omega)
          subst h0
          rw [Kz (by simp:¬ 0 < (([]:List Int).length:Int))]
          refine H8 (Gg (H8 (Gg ?_)))
          simp only [Bool.false_and,cond_false]
          exact go a4 (fun a ha=>(M4 ha).elim)
      · have a5:(decide (0≤r)&&decide (r≤30))=false:=by
          rw [Bool.and_eq_false_iff,decide_eq_false_iff_not,decide_eq_false_iff_not]; omega
        simp only [a5,Bool.not_true,Bool.not_false,Bool.false_and,cond_false,Bool.true_or,cond_true]
        exact H8 (Gg (H8 (Gg (Gg (Yc fun hc=>a4 ((hc.cov y h5).rows r a7))))))
    · rw [List.flatMap_append,List.flatMap_cons,List.flatMap_nil,List.append_nil]
      refine List.nodup_append.2 ⟨b3,?_,fun a ha b hb h8=>?_⟩
      · refine List.pairwise_map.2 (hK.2.1.imp (fun {a b} h he=>?_))
        rw [Ha.mk.injEq] at he
        omega
      · obtain⟨r,hr,rfl⟩:=Mi.1 hb
        subst h8
        exact hK.2.2 r hr ha
  · refine List.nodup_append.2 ⟨a1,hJ.1,fun a ha b hb h8=>?_⟩
    obtain⟨c,_,rfl⟩:=Mi.1 ha
    obtain⟨x,_,hb⟩:=List.mem_flatMap.1 hb
    obtain⟨r,_,rfl⟩:=Mi.1 hb
    unfold k3 dk at h8
    rw [Ha.mk.injEq] at h8
    cases hd:c.Deck <;> rw [hd] at h8 <;> simp at h8
theorem R9a {n k:Nat} (hn:n≤1000001) (hk:k≤1000):decide (n*k≤140737488355328∧n≤maxLen)=true:=by
  have h:n*k≤1000001*1000:=Nat.mul_le_mul hn hk
  have h2:n≤maxLen:=Nat.le_trans hn (by decide)
  exact Ky ⟨by omega,h2⟩
theorem Qt {α β:Type} {x:α} {k:α→Option β}:bnd (some x) k=k x:=rfl
def H67 {α:Type} (p:α→Bool) (l:List α):Int:=match l.findIdx? p with
  | some j=>(j:Int)
  | none => -1
theorem Hdd {α:Type} {p:α→Bool} {f:α→Option Bool} {xs:List α} (hf:∀ x∈xs,f x=some (p x)) :
    each (fun y i (_:Unit) nx=>bnd (f y) fun r=>bif r then some (i:Int) else nx ()) (fun _=>some (-1)) xs 0 ()=some (H67 p xs):=by
  have key:∀ (xs:List α),(∀ x∈xs,f x=some (p x))→∀ i:Nat,each (fun y i (_:Unit) nx=>bnd (f y) fun r=>bif r then some (i:Int) else nx ()) (fun _=>some (-1)) xs i ()=some (match xs.findIdx? p with
    | some j=>((i+j:Nat):Int)
    | none => -1):=by
    intro xs
    induction xs with
    | nil=>intro _ i; rfl
    | cons x xs ih=>
      intro hf i
      rw [each,hf x (List.mem_cons_self ..),Qt,List.findIdx?_cons]
      cases p x with
      | true=>simp
      | false=>
        simp only [cond_false]
        rw [ih (fun y hy=>hf y (List.mem_cons_of_mem _ hy)) (i+1)]
        cases xs.findIdx? p with
        | none=>simp
        | some j=>show some (((i+1+j:Nat)):Int)=some (((i+(j+1):Nat)):Int); rw [show i+1+j=i+(j+1) by omega]
  rw [key xs hf 0]
  unfold H67
  cases xs.findIdx? p <;> simp
theorem Gc1 {α:Type} (p:α→Bool) (l:List α):(H67 p l = -1∧(∀ x∈l,p x=false)∧l.find? p=none)∨∃ (m:Nat) (x:α),H67 p l=(m:Int)∧l[m]? = some x∧p x=true∧l.find? p=some x:=by
  unfold H67
  cases h:l.findIdx? p with
  | none=>
    have:=List.findIdx?_eq_none_iff.1 h
    exact .inl ⟨rfl,this,List.find?_eq_none.2 (fun x hx=>by rw [this x hx]; simp)⟩
  | some j=>
    obtain⟨hj,h1,h2⟩:=List.findIdx?_eq_some_iff_getElem.1 h
    refine .inr ⟨j,l[j],rfl,by simp [hj],h1,?_⟩
    refine List.find?_eq_some_iff_getElem.2 ⟨h1,j,hj,rfl,fun k hk=>?_⟩
    simpa using h2 k hk
theorem H04 {α:Type} {p:α→Bool} {l:List α}:decide (0≤H67 p l)=l.any p:=by
  rcases Gc1 p l with ⟨h1,h2,_⟩ | ⟨m,x,h1,h2,h3,_⟩
  · rw [h1]
    refine Eq.symm (List.any_eq_false.2 fun x hx=>?_)
    rw [h2 x hx]; exact Bool.false_ne_true
  · rw [h1,Ky (by omega)]
    exact(List.any_eq_true.2 ⟨x,M3 h2,h3⟩).symm
def Jp (boxes:List Box) (id:Int):Option Box:=boxes.find? (fun b=>decide (b.ID=id))
theorem J6a (boxes:List Box) (id:Int):G84 boxes id=some (match Jp boxes id with
    | some b=>(b,true)
    | none=>(Box.mk 0 ByteArray.empty 0 false 0 0 0 0 false,false)):=by
  unfold G84
  have h:Zg boxes (fun z0=>Gaf z0 id)=some (H67 (fun b:Box=>decide (b.ID=id)) boxes):=Hdd (fun x _=>rfl)
  rw [h]
  simp only [Qt]
  unfold Jp
  rcases Gc1 (fun b:Box=>decide (b.ID=id)) boxes with ⟨h1,_,h3⟩ | ⟨m,x,h1,h2,_,h4⟩
  · rw [h1,h3]; rfl
  · rw [h1,h4,Kz (by omega),cond_false]
    unfold Qr
    rw [Ky (by omega),cond_true,show (m:Int).toNat=m by omega,h2]
    rfl
def J7c (l:List G3) (id:Int):Option G3:=l.find? (fun x=>decide (x.Box=id))
def Had (size:Int):List Int:=if size=40 then [0] else if size=20 then [1,2] else []
theorem Qf9 (size:Int):Gb0 size=some (Had size):=by
  unfold Gb0 Had
  by_cases h:size=40
  · simp [h]
  · by_cases h2:size=20
    · simp [h2]
    · simp [h,h2]
theorem Re9 (l:List Int) (v:Int):Yz l v=some (l.any (fun y=>decide (v=y))):=by
  unfold Yz
  have h:G02 l v=some (H67 (fun y=>decide (v=y)) l):=by
    unfold G02
    exact Hdd (f:=fun y=>some (decide (v=y))) (fun x _=>rfl)
  rw [h]
  simp only [Qt]
  rw [H04]
theorem Qc0 (l:List Slot) (v:Slot):Qg l v=some (l.any (fun y=>decide (v=y))):=by
  unfold Qg
  have h:Y9 l v=some (H67 (fun y=>decide (v=y)) l):=by
    unfold Y9
    exact Hdd (f:=fun y=>some (decide (v=y))) (fun x _=>rfl)
  rw [h]
  simp only [Qt]
  rw [H04]
structure Ga4 (s:G6) (x:Slot) (size:Int):Prop where
  col:∃ (m:Nat) (c:G1),x.G1=(m:Int)∧s.Columns[m]? = some c∧x.Tier < c.Tiers
  tier:0≤x.Tier
  half:x.Half∈Had size
theorem Q14 (s:G6) (x:Slot) (size:Int):Wp (G5d s x size) (fun r=>r=true ↔ Ga4 s x size):=by
  unfold G5d
  by_cases h0:0≤x.G1∧x.G1 < (s.Columns.length:Int)
  · by_cases h1:0≤x.Tier
    · obtain⟨m,hm⟩:∃ m:Nat,x.G1=(m:Int):=⟨x.G1.toNat,by omega⟩
      have h3:m < s.Columns.length:=by omega
      have hc:s.Columns[m]? = some s.Columns[m]:=by simp [h3]
      have e:(((decide (0≤x.G1))&&(decide (x.G1 < (s.Columns.length:Int))))&&(decide (0≤x.Tier)))=true:=by simp [h0.1,h0.2,h1]
      simp only [e,cond_true,Bool.true_and]
      refine H8 (Zr hm hc (Gg ?_))
      by_cases h2:x.Tier < (s.Columns[m]).Tiers
      · rw [Ky h2]
        simp only [cond_true]
        refine Gy (Qf9 size) (Gy (Re9 _ _) (Gg ?_))
        rw [Bool.true_and,List.any_eq_true]
        constructor
        · rintro⟨y,hy,he⟩
          have:=Kw he
          subst this
          exact⟨⟨m,_,hm,hc,h2⟩,h1,hy⟩
        · exact fun h=>⟨_,h.half,by simp⟩
      · rw [Kz h2]
        simp only [cond_false,Bool.false_and]
        refine H8 (Gg (H8 (Gg (Gg ⟨fun h=>(by cases h),fun h=>?_⟩))))
        obtain⟨m',c,g1,g2,g3⟩:=h.col
        have:m'=m:=by omega
        subst this
        rw [hc] at g2; cases g2
        exact(h2 g3).elim
    · simp only [Kz h1,Bool.and_false,cond_false,Bool.false_and]
      exact H8 (Gg (H8 (Gg (H8 (Gg (Gg ⟨fun h=>(by cases h),fun h=>(h1 h.tier).elim⟩))))))
  · have e:((decide (0≤x.G1))&&(decide (x.G1 < (s.Columns.length:Int))))=false:=by
      by_cases h:0≤x.G1
      · have:¬ x.G1 < (s.Columns.length:Int):=fun g=>h0 ⟨h,g⟩
        simp [this]
      · simp [h]
    simp only [e,Bool.false_and,cond_false]
    refine H8 (Gg (H8 (Gg (H8 (Gg (Gg ⟨fun h=>(by cases h),fun h=>?_⟩))))))
    obtain⟨m,c,g1,g2,_⟩:=h.col
    have:=(M0 g2).1
    exact(h0 (by omega)).elim
def below (l:List Slot) (x:Slot) (half:Int):Prop:=(⟨x.G1,x.Tier - 1,half⟩:Slot)∈l
def Gce (x:Slot) (l:List Slot):Prop:=x.Tier≤0∨below l x x.Half∨(x.Half=0∧below l x 1∧below l x 2)
theorem J20 (half:Int) (l:List Slot) (x:Slot) (ht : -1000000≤x.Tier∧x.Tier≤1000000):Wp (Z5 half l x) (fun r=>r=true ↔ below l x half):=by
  unfold Z5
  refine Z2 ⟨by omega,by omega⟩ (Gy (Qc0 _ _) (Gg ?_))
  rw [List.any_eq_true]
  constructor
  · rintro⟨y,hy,he⟩
    have:=Kw he
    subst this
    exact hy
  · exact fun h=>⟨_,h,by simp⟩
theorem Q7a (x:Slot) (l:List Slot) (ht : -1000000≤x.Tier∧x.Tier≤1000000):Wp (G3e x l) (fun r=>r=true ↔ Gce x l):=by
  unfold G3e Gce
  refine Hb (fun h=>Gg ⟨fun _=>.inl (Kw h),fun _=>rfl⟩) (fun h=>?_)
  have h0:=Kx h
  refine H8 (wp_mono (J20 x.Half l x ht) (fun r7 h7=>?_))
  cases r7 with
  | true=>
    simp only [Bool.not_true,Bool.false_and,cond_false,Bool.true_or]
    exact H8 (Gg (H8 (Gg (Gg ⟨fun _=>.inr (.inl (h7.1 rfl)),fun _=>rfl⟩))))
  | false=>
    have h1:¬ below l x x.Half:=fun h=>by have:=h7.2 h; cases this
    simp only [Bool.not_false,Bool.true_and,Bool.false_or]
    by_cases hh:x.Half=0
    · rw [Ky hh]
      simp only [cond_true,Bool.true_and]
      refine H8 (wp_mono (J20 1 l x ht) (fun r8 h8=>?_))
      cases r8 with
      | true=>
        simp only [cond_true,Bool.true_and]
        refine H8 (wp_mono (J20 2 l x ht) (fun r9 h9=>Gg ⟨fun h=>.inr (.inr ⟨hh,h8.1 rfl,h9.1 h⟩),fun h=>?_⟩))
        rcases h with h | h | ⟨_,_,h⟩
        · exact(h0 h).elim
        · exact(h1 h).elim
        · exact h9.2 h
      | false=>
        simp only [cond_false,Bool.false_and]
        refine H8 (Gg (Gg ⟨fun h=>(by cases h),fun h=>?_⟩))
        rcases h with h | h | ⟨_,h,_⟩
        · exact(h0 h).elim
        · exact(h1 h).elim
        · have:=h8.2 h; cases this
    · rw [Kz hh]
      simp only [cond_false,Bool.false_and]
      refine H8 (Gg (H8 (Gg (Gg ⟨fun h=>(by cases h),fun h=>?_⟩))))
      rcases h with h | h | ⟨h,_⟩
      · exact(h0 h).elim
      · exact(h1 h).elim
      · exact(hh h).elim
def G76 (a b:Int):Prop:=a=b∨a=0∨b=0
theorem Ja4 (a b:Int):Wp (G74 a b) (fun r=>r=true ↔ G76 a b):=by
  unfold G74 G76
  refine Gg ?_
  simp [or_assoc]
def Gc8 (a b:Slot):Prop:=a.G1=b.G1∧a.Tier=b.Tier∧G76 a.Half b.Half
theorem Q79 (a b:Slot):Wp (Gcc a b) (fun r=>r=true ↔ Gc8 a b):=by
  unfold Gcc Gc8
  by_cases h:a.G1=b.G1∧a.Tier=b.Tier
  · simp only [Ky h.1,Ky h.2,Bool.and_self,cond_true,Bool.true_and]
    exact H8 (wp_mono (Ja4 _ _) (fun r hr=>Gg ⟨fun e=>⟨h.1,h.2,hr.1 e⟩,fun e=>hr.2 e.2.2⟩))
  · have e:(decide (a.G1=b.G1)&&decide (a.Tier=b.Tier))=false:=by
      by_cases h1:a.G1=b.G1
      · have:¬ a.Tier=b.Tier:=fun h2=>h ⟨h1,h2⟩
        simp [this]
      · simp [h1]
    simp only [e,cond_false,Bool.false_and]
    exact H8 (Gg (Gg ⟨fun e=>(by cases e),fun e=>(h ⟨e.1,e.2.1⟩).elim⟩))
def H08 (a b:Slot):Prop:=a.G1=b.G1∧b.Tier < a.Tier∧G76 a.Half b.Half
theorem Rcc (a b:Slot):Wp (H0b a b) (fun r=>r=true ↔ H08 a b):=by
  unfold H0b H08
  by_cases h:a.G1=b.G1∧b.Tier < a.Tier
  · simp only [Ky h.1,Ky h.2,Bool.and_self,cond_true,Bool.true_and]
    exact H8 (wp_mono (Ja4 _ _) (fun r hr=>Gg ⟨fun e=>⟨h.1,h.2,hr.1 e⟩,fun e=>hr.2 e.2.2⟩))
  · have e:(decide (a.G1=b.G1)&&decide (b.Tier < a.Tier))=false:=by
      by_cases h1:a.G1=b.G1
      · have:¬ b.Tier < a.Tier:=fun h2=>h ⟨h1,h2⟩
        simp [this]
      · simp [h1]
    simp only [e,cond_false,Bool.false_and]
    exact H8 (Gg (Gg ⟨fun e=>(by cases e),fun e=>(h ⟨e.1,e.2.1⟩).elim⟩))
def H16 (b:Box):Int:=if b.High then 2896 else 2591
def Gd6 (boxes:List Box) (column half:Int) (n:Int) (x:G3):Int:=
  if x.Slot.G1=column∧(x.Slot.Half=half∨x.Slot.Half=0) then (match Jp boxes x.Box with | some b=>n+H16 b | none=>n) else n
def Rs (boxes:List Box) (l:List G3) (column half:Int):Int:=l.foldl (Gd6 boxes column half) 0
theorem J56 {boxes:List Box} {column half n:Int} {x:G3}:n≤Gd6 boxes column half n x∧Gd6 boxes column half n x≤n+2896:=by
  unfold Gd6 H16
  split
  · split
    · split <;> omega
    · omega
  · omega
theorem J9d (boxes:List Box) (l:List G3) (column half:Int) (hl:l.length≤1000000):G73 boxes l column half=some (Rs boxes l column half):=by
  refine Z3 ?_
  unfold G73 Rs
  refine Q8 (fun pre n=>n=pre.foldl (Gd6 boxes column half) 0∧0≤n∧n≤2896*pre.length) ⟨rfl,Int.le_refl _,by simp⟩ (fun pre y post n nx e hn h5=>?_) (fun n hn=>Gg hn.1)
  obtain⟨rfl,h1,h2⟩:=hn
  have hp:pre.length+1≤l.length:=by rw [e]; simp
  have ha:=J56 (boxes:=boxes) (column:=column) (half:=half) (n:=pre.foldl (Gd6 boxes column half) 0) (x:=y)
  have h4:((pre++[y]).length:Int)=pre.length+1:=by simp
  generalize hg:pre.foldl (Gd6 boxes column half) 0=n at *
  refine Hca (fun j=>j=Gd6 boxes column half n y) (fun K hK=>?_) (fun j hj=>h5 _ ⟨by rw [hj,List.foldl_append,hg]; rfl,by omega,by rw [h4]; omega⟩)
  refine Hb (fun hc=>?_) (fun hc=>hK _ ?_)
  · have h0:y.Slot.G1=column∧(y.Slot.Half=half∨y.Slot.Half=0):=by simpa using hc
    refine Gy (J6a boxes y.Box) ?_
    cases hf:Jp boxes y.Box with
    | none=>exact Hb (fun h=>by cases h) (fun _=>hK _ (by unfold Gd6; rw [if_pos h0,hf]))
    | some b=>
      refine Hb (fun _=>?_) (fun h=>by cases h)
      have ht:H09 b=some (H16 b):=by unfold H09 H16; cases b.High <;> rfl
      have h3:Gd6 boxes column half n y=n+H16 b:=by unfold Gd6; rw [if_pos h0,hf]
      refine Gy ht (Z2 ?_ (hK _ h3.symm))
      rw [← h3]
      omega
  · have h0:¬ (y.Slot.G1=column∧(y.Slot.Half=half∨y.Slot.Half=0)):=by simpa using hc
    unfold Gd6; rw [if_neg h0]
def H1b (boxes:List Box) (l:List G3) (m:Nat) (c:G1):Prop:=c.Height≤0∨(Rs boxes l m 1≤c.Height∧Rs boxes l m 2≤c.Height)
theorem Rca {s:G6} {boxes:List Box} {l:List G3} {m:Nat} {c:G1} (hc:s.Columns[m]? = some c) (hl:l.length≤1000000):Wp (H0a s boxes l (m:Int)) (fun r=>r=true ↔ H1b boxes l m c):=by
  unfold H0a H1b
  refine Zr rfl hc ?_
  by_cases h:c.Height≤0
  · simp only [Ky h,Bool.not_true,cond_false,Bool.false_and,Bool.true_or]
    exact H8 (Gg (H8 (Gg (Gg ⟨fun _=>.inl h,fun _=>rfl⟩))))
  · simp only [Kz h,Bool.not_false,cond_true,Bool.true_and,Bool.false_or]
    refine Gy (J9d boxes l m 1 hl) ?_
    by_cases h1:Rs boxes l m 1≤c.Height
    · rw [Ky h1]
      simp only [cond_true,Bool.true_and]
      exact Gy (J9d boxes l m 2 hl) (Gg ⟨fun e=>.inr ⟨h1,Kw e⟩,fun e=>Ky (e.elim (fun e=>(h e).elim) (·.2))⟩)
    · rw [Kz h1]
      simp only [cond_false,Bool.false_and]
      exact H8 (Gg (Gg ⟨fun e=>(by cases e),fun e=>e.elim (fun e=>(h e).elim) (fun e=>(h1 e.1).elim)⟩))
theorem R5d (l:List G3) (hl:l.length≤1000000):Gd8 l=some (l.map (·.Slot)):=by
  refine Z3 ?_
  unfold Gd8
  refine Q8 (fun pre s=>s=pre.map (·.Slot)) rfl (fun pre y post s nx e hs h0=>?_) (fun s hs=>Gg hs)
  subst hs
  have hp:pre.length+1≤l.length:=by rw [e]; simp
  exact Zq (R9a (by simp only [Mg,Md]; omega) (by omega)) (h0 _ (by simp))
structure G27 (s:G6) (boxes:List Box) (l:List G3):Prop where
  each:∀ x∈l,∃ b,Jp boxes x.Box=some b∧Ga4 s x.Slot b.Size∧Gce x.Slot (l.map (·.Slot))
  sorted:l.Pairwise (fun a b=>a.Box < b.Box)
  apart:l.Pairwise (fun a b=>¬ Gc8 b.Slot a.Slot)
  fits:∀ m c,s.Columns[m]? = some c→H1b boxes l m c
theorem J0e {α:Type} {R:α→α→Prop} {l:List α} {x:α} (h:l.Pairwise R) (hx:∀ a∈l,R a x):(l++[x]).Pairwise R:=by
  rw [List.pairwise_append]
  refine⟨h,List.pairwise_singleton ..,fun a ha b hb=>?_⟩
  rw [Mj] at hb; subst hb
  exact hx a ha
theorem G92 {α:Type} {R:α→α→Prop} {pre post:List α} {y:α} (h:(pre++y::post).Pairwise R):∀ a∈pre,R a y:=fun a ha=>(List.pairwise_append.1 h).2.2 a ha y (List.mem_cons_self ..)
theorem Q0f {s:G6} {boxes:List Box} {l:List G3} (hr:G96 s=some true) (ht:∀ c∈s.Columns,c.Tiers≤1000000) (hl:l.length≤1000000):Wp (G3d s boxes l) (fun r=>r=true ↔ G27 s boxes l):=by
  unfold G3d
  refine Gy hr (Hb (fun h=>by cases h) (fun _=>?_))
  refine Gy (R5d l hl) ?_
  refine Q8 (fun pre _=>(∀ x∈pre,∃ b,Jp boxes x.Box=some b∧Ga4 s x.Slot b.Size∧Gce x.Slot (l.map (·.Slot)))∧pre.Pairwise (fun a b=>a.Box < b.Box)∧pre.Pairwise (fun a b=>¬ Gc8 b.Slot a.Slot))
    ⟨fun x hx=>(M4 hx).elim,List.Pairwise.nil,List.Pairwise.nil⟩ (fun pre y post u nx e hI h4=>?_) (fun u hI=>?_)
  · obtain⟨i1,i2,i3⟩:=hI
    have a8:pre.length < l.length:=by rw [e]; simp
    have hy:y∈l:=by rw [e]; simp
    have no:∀ {m:Option Bool},m=some false→¬ G27 s boxes l→Wp m (fun r=>r=true ↔ G27 s boxes l):=fun e h=>by subst e; exact Gg ⟨fun e=>(by cases e),fun e=>(h e).elim⟩
    refine Gy (J6a boxes y.Box) ?_
    cases hf:Jp boxes y.Box with
    | none=>
      simp only [Bool.not_false,Bool.not_true,Bool.false_and,cond_false,Bool.true_or,cond_true]
      refine H8 (Gg (H8 (Gg (H8 (Gg (H8 (Gg (no rfl fun h=>?_))))))))
      obtain⟨b,hb,_⟩:=h.each y hy
      rw [hf] at hb; cases hb
    | some b=>
      simp only [Bool.not_true,Bool.not_false,Bool.true_and,Bool.false_or]
      -- the order
      have h7:Wp (bif decide (0 < (pre.length:Int)) then chk ((pre.length:Int) - 1) some else some 0) (fun v=>Wp (bif decide (0 < (pre.length:Int)) then Qr l v some else some default) (fun y20=>
          ((decide (0 < (pre.length:Int))&&decide (y.Box≤y20.Box))=true→¬ G27 s boxes l)∧((decide (0 < (pre.length:Int))&&decide (y.Box≤y20.Box))=false→∀ a∈pre,a.Box < y.Box))):=by
        rcases List.eq_nil_or_concat pre with hp | ⟨pre',z,hp⟩
        · subst hp
          simp only [List.length_nil]
          exact Gg (Gg ⟨fun h=>by simp at h,fun _ a ha=>(M4 ha).elim⟩)
        · have h2:pre=pre'++[z]:=by simpa using hp
          have a9:pre.length=pre'.length+1:=by rw [h2]; simp
          have hd:decide (0 < (pre.length:Int))=true:=Ky (by omega)
          have hz:l[pre'.length]? = some z:=by rw [e,h2]; simp
          rw [hd]
          simp only [cond_true,Bool.true_and]
          refine Z2 ⟨by omega,by omega⟩ (Gg (Zr (m:=pre'.length) (by omega) hz (Gg ⟨fun h hR=>?_,fun h a ha=>?_⟩)))
          · have:=Kw h
            have hs:=hR.sorted
            rw [e] at hs
            have:=G92 hs z (by rw [h2]; simp)
            omega
          · have b0:¬ y.Box≤z.Box:=Kx h
            rw [h2] at ha
            rcases Mh.1 ha with ha | ha
            · have:=G92 (h2 ▸ i2:(pre'++z::[]).Pairwise _) a ha
              omega
            · rw [Mj] at ha; subst ha; omega
      refine H8 (wp_mono h7 (fun v hv=>H8 (wp_mono hv (fun y20 a5=>?_))))
      obtain⟨n1,n2⟩:=a5
      generalize (decide (0 < (pre.length:Int))&&decide (y.Box≤y20.Box))=c at n1 n2
      cases c with
      | true=>
        simp only [Bool.not_true,cond_false,Bool.true_or,cond_true]
        exact H8 (Gg (H8 (Gg (no rfl (n1 rfl)))))
      | false=>
        simp only [Bool.not_false,cond_true,Bool.false_or]
        have h8:=n2 rfl
        refine H8 (wp_mono (Q14 s y.Slot b.Size) (fun r21 a1=>?_))
        cases r21 with
        | false=>
          simp only [Bool.not_false,Bool.not_true,cond_false,Bool.true_or,cond_true]
          refine H8 (Gg (no rfl fun h=>?_))
          obtain⟨b',hb,hs,_⟩:=h.each y hy
          rw [hf] at hb; cases hb
          have:=a1.2 hs; cases this
        | true=>
          have h1:=a1.1 rfl
          simp only [Bool.not_true,Bool.not_false,cond_true,Bool.false_or]
          have h9 : -1000000≤y.Slot.Tier∧y.Slot.Tier≤1000000:=by
            obtain⟨m,c,_,hc,h3⟩:=h1.col
            have:=h1.tier
            have:=ht c (M3 hc)
            omega
          refine H8 (wp_mono (Q7a y.Slot (l.map (·.Slot)) h9) (fun r22 a2=>?_))
          cases r22 with
          | false=>
            refine Hb (fun _=>no rfl fun h=>?_) (fun h=>by cases h)
            obtain⟨b',hb,_,hh⟩:=h.each y hy
            have:=a2.2 hh; cases this
          | true=>
            have a0:=a2.1 rfl
            refine Hb (fun h=>by cases h) (fun _=>?_)
            refine H8 (Jd9 (m:=pre.length) rfl (by rw [Mg]; omega) ?_)
            have a6:(l.map (·.Slot)).take pre.length=pre.map (·.Slot):=by rw [← List.map_take,e,List.take_left']; rfl
            rw [a6]
            refine Q8 (fun pr _=>∀ a∈pr,¬ Gc8 y.Slot a) (fun a ha=>(M4 ha).elim) (fun pr a pos u nx2 e2 h5 a4=>?_) (fun u h5=>h4 _ ⟨fun x hx=>?_,J0e i2 h8,J0e i3 (fun a ha=>h5 a.Slot (Mi.2 ⟨a,ha,rfl⟩))⟩)
            · refine H8 (wp_mono (Q79 y.Slot a) (fun r48 a3=>?_))
              refine Hb (fun h=>no rfl fun hR=>?_) (fun h=>a4 _ (fun a' h0=>?_))
              · have hm:=a3.1 h
                have a7:a∈pre.map (·.Slot):=by rw [e2]; simp
                obtain⟨z,hz,rfl⟩:=Mi.1 a7
                have ha:=hR.apart
                rw [e] at ha
                exact G92 ha z hz hm
              · rcases Mh.1 h0 with h0 | h0
                · exact h5 a' h0
                · rw [Mj] at h0; subst h0
                  intro hm
                  have:=a3.2 hm
                  rw [this] at h; cases h
            · rcases Mh.1 hx with hx | hx
              · exact i1 x hx
              · rw [Mj] at hx; subst hx
                exact⟨b,hf,h1,a0⟩
  · obtain⟨i1,i2,i3⟩:=hI
    refine Q8 (fun pre _=>∀ m c,m < pre.length→s.Columns[m]? = some c→H1b boxes l m c) (fun m c h=>(Nat.not_lt_zero m h).elim) (fun pre y post u nx e hI h4=>?_) (fun u hI=>Gg ⟨fun _=>⟨i1,i2,i3,fun m c hc=>hI m c (M0 hc).1 hc⟩,fun _=>rfl⟩)
    have hc:s.Columns[pre.length]? = some y:=by rw [e]; simp
    refine H8 (wp_mono (Rca hc hl) (fun r hr=>?_))
    cases r with
    | false=>exact Hb (fun _=>Gg ⟨fun e=>(by cases e),fun h=>by have:=hr.2 (h.fits _ _ hc); cases this⟩) (fun h=>by cases h)
    | true=>
      refine Hb (fun h=>by cases h) (fun _=>h4 _ (fun m c hm h6=>?_))
      rw [Mc,Md] at hm
      rcases Ku m pre.length with h | h
      · exact hI m c h h6
      · have:m=pre.length:=by omega
        subst this
        rw [hc] at h6; cases h6
        exact hr.1 rfl
section maps
variable {κ ν:Type} [DecidableEq κ]
end maps
theorem Jb2 {α:Type} {l:List α} {wanted:α→Option Bool} {p:α→Bool} (hw:∀ x∈l,wanted x=some (p x)) (hl:l.length≤1000000) :
    each (fun y i (s:List Int) nx=>jp (fun kj=>bnd (wanted y) fun r=>bif r then (need (decide ((s.length+[(i:Int)].length)*8≤140737488355328∧s.length+[(i:Int)].length≤maxLen)) <| kj (s++[(i:Int)])) else (kj s)) fun(j:List Int)=>nx j)
      (fun s=>some s) l 0 []=some (H4d p l):=by
  refine Z3 ?_
  refine Q8 (fun pre s=>s=H4d p pre) rfl (fun pre x post s nx e hs h0=>?_) (fun s hs=>Gg hs)
  subst hs
  have h1:pre.length+1≤l.length:=by rw [e]; simp
  refine Hca (fun j=>j=H4d p (pre++[x])) (fun K hK=>?_) (fun j hj=>h0 _ hj)
  refine Gy (hw x (by rw [e]; simp)) (Hb (fun h=>Zq ?_ (hK _ ?_)) (fun h=>hK _ ?_))
  · have:=R11 p pre
    exact R9a (by rw [Md]; omega) (by omega)
  · rw [Q8b,h]; rfl
  · rw [Q8b,h]; simp
theorem Re5 {α:Type} (p:α→Bool) (x:α) (l:List α):H4d p (x::l)=(if p x then [0] else [])++(H4d p l).map (·+1):=by
  unfold H4d
  rw [List.zipIdx_cons',List.filter_cons]
  have h:(((l.zipIdx.map (Prod.map id (fun n:Nat=>n+1))).filter (fun y:α×Nat=>p y.1)).map (fun y:α×Nat=>(y.2:Int)))=((l.zipIdx.filter (fun y:α×Nat=>p y.1)).map (fun y:α×Nat=>(y.2:Int))).map (·+1):=by
    rw [List.filter_map,List.map_map,List.map_map]
    rfl
  by_cases hx:p x=true
  · rw [if_pos (show p (x,0).fst=true from hx),if_pos hx,List.map_cons]
    exact congrArg (List.cons _) h
  · rw [if_neg (show ¬ p (x,0).fst=true from hx),if_neg hx,List.nil_append]
    exact h
theorem Re4 {α:Type} (p:α→Bool) (l:List α):(H4d p l).head? = match l.findIdx? p with
    | some j=>some (j:Int)
    | none=>none:=by
  induction l with
  | nil=>rfl
  | cons x l ih=>
    rw [Re5,List.findIdx?_cons]
    by_cases hx:p x
    · simp [hx]
    · simp only [hx,if_false,Bool.false_eq_true,List.nil_append,List.head?_map,ih]
      cases l.findIdx? p <;> simp
theorem Y21 {α:Type} (p:α→Bool) (l:List α):decide (0 < ((H4d p l).length:Int))=l.any p:=by
  by_cases h:∀ x∈l,p x=false
  · rw [R10.2 h]
    refine Eq.symm (List.any_eq_false.2 fun x hx=>?_)
    rw [h x hx]; exact Bool.false_ne_true
  · have h1:H4d p l≠[]:=fun e=>h (R10.1 e)
    have h2:=List.length_pos_iff.2 h1
    rw [Ky (by omega)]
    refine Eq.symm (List.any_eq_true.2 ?_)
    refine Classical.byContradiction fun hn=>h fun x hx=>?_
    cases hc:p x with
    | false=>rfl
    | true=>exact(hn ⟨x,hx,hc⟩).elim
def H80 (x:Ga) (c:G1):Bool:=decide (x.Bay=c.Bay)&&x.Rows.any (fun r=>decide (r=c.Row))
theorem Qfb (x:Ga) (c:G1) (hl:x.Rows.length≤1000000):Gb4 x c=some (H80 x c):=by
  unfold Gb4 H80
  by_cases h:x.Bay=c.Bay
  · have hc:G40 x.Rows (fun z0=>G6a z0 c)=some (H4d (fun r=>decide (r=c.Row)) x.Rows):=by
      unfold G40
      exact Jb2 (fun x _=>rfl) hl
    rw [Ky h]
    simp only [cond_true,Bool.true_and]
    rw [hc,Qt,Y21]
  · rw [Kz h]
    rfl
def Qo (s:G6) (c:G1):Int:=H67 (fun x=>H80 x c) s.Covers
theorem Qb0 {s:G6} {m:Nat} {c:G1} (hc:s.Columns[m]? = some c) (hr:∀ x∈s.Covers,x.Rows.length≤1000000) (hl:s.Covers.length≤1000000):G2b s (m:Int)=some (Qo s c):=by
  have hm:=(M0 hc).1
  refine Z3 ?_
  unfold G2b
  refine Hb (fun h=>?_) (fun _=>?_)
  · simp only [Mn,Mf] at h
    omega
  have h1:Zb s.Covers (fun z0=>G24 z0 s (m:Int))=some (H4d (fun x=>H80 x c) s.Covers):=by
    unfold Zb
    refine Jb2 (fun x hx=>Z3 ?_) hl
    unfold G24
    exact Zr rfl hc (Gy (Qfb x c (hr x hx)) (Gg rfl))
  refine Gy h1 ?_
  have hh:=Re4 (fun x=>H80 x c) s.Covers
  unfold Qo H67
  cases hf:s.Covers.findIdx? (fun x=>H80 x c) with
  | none=>
    rw [hf] at hh
    have h0:H4d (fun x=>H80 x c) s.Covers=[]:=List.head?_eq_none_iff.1 hh
    rw [h0]
    exact Gg rfl
  | some j=>
    rw [hf] at hh
    cases hi:H4d (fun x=>H80 x c) s.Covers with
    | nil=>rw [hi] at hh; cases hh
    | cons z r=>
      rw [hi] at hh
      simp only [List.head?_cons,Option.some.injEq] at hh
      subst hh
      refine Hb (fun h=>?_) (fun _=>Zr (m:=0) rfl rfl (Gg rfl))
      have:=Kw h
      simp only [M8] at this
      omega
def abB (k:Int) (b:Box):Bool:=decide (b.Load≤k)&&decide (k < b.Discharge)
def Q33 (l:List G3) (id:Int):Slot×Bool:=match J7c l id with
  | some x=>(x.Slot,true)
  | none=>(⟨0,0,0⟩,false)
structure Small (s:G6):Prop where
  right:G96 s=some true
  cols:1≤s.Columns.length∧s.Columns.length≤40
  tiers:∀ c∈s.Columns,c.Tiers≤100
  covs:s.Covers.length≤1000
  rows:∀ x∈s.Covers,x.Rows.length≤1000
def Y36 (s:G6) (x:Slot):Prop:=∃ (m:Nat) (c:G1),x.G1=(m:Int)∧s.Columns[m]? = some c
structure Q4f (U:List Int) (m:Q0 Int Unit) (l:List Int):Prop where
  nodup:l.Nodup
  sub:∀ a∈l,a∈U
  has:∀ a,Q0.has m a=decide (a∈l)
theorem Q4f.le {U:List Int} {m:Q0 Int Unit} {l:List Int} (h:Q4f U m l):l.length≤U.length:=h.nodup.length_le_of_subset (fun a ha=>h.sub a ha)
theorem G34 {l:List Int} (h:l.Pairwise (· < ·)):l.Nodup:=h.imp (fun h=>by omega)
theorem Small.tier {s:G6} (h:Small s):∀ c∈s.Columns,c.Tiers≤1000000:=fun c hc=>by have:=h.tiers c hc; omega
theorem Q15 {s:G6} {x:Slot} {size:Int} (h:Ga4 s x size):Y36 s x:=by
  obtain⟨m,c,h1,h2,_⟩:=h.col
  exact⟨m,c,h1,h2⟩
theorem R6b {s:G6} {boxes:List Box}:G27 s boxes []:=⟨fun x hx=>(M4 hx).elim,List.Pairwise.nil,List.Pairwise.nil,fun m c _=>by
  unfold H1b Rs
  simp only [List.foldl_nil]
  omega⟩
theorem H23 {a b:List Int} (ha:a.Pairwise (· < ·)) (hb:b.Pairwise (· < ·)) (h:∀ x,x∈a ↔ x∈b):a=b:=
  List.Perm.eq_of_pairwise (le:=fun x y:Int=>x < y) (fun x y _ _ h1 h2=>by omega) ha hb ((List.perm_ext_iff_of_nodup (G34 ha) (G34 hb)).2 h)
structure VInv (s:G6) (boxes:List Box) (k:Int) (l:List G3):Prop where
  right:G27 s boxes l
  mem:∀ x∈l,∃ b∈boxes,b.ID=x.Box∧abB k b=true
theorem VInv.nil {s:G6} {boxes:List Box} {k:Int}:VInv s boxes k []:=⟨R6b,fun x hx=>(M4 hx).elim⟩
def upon (s:G6) (x y:Slot):Prop:=∃ (m:Nat) (c:G1) (m1:Nat) (c1:G1),x.G1=(m:Int)∧s.Columns[m]? = some c∧y.G1=(m1:Int)∧s.Columns[m1]? = some c1∧c.Deck=false∧c1.Deck=true∧0≤Qo s c∧Qo s c1=Qo s c
def Y68 (s:G6) (states:List (List G3)) (st:List G3) (a b:Int):Prop:=
  (Q33 st a).2=true∧((∃ y∈st,y.Box=b∧H08 y.Slot (Q33 st a).1)∨∃ st2∈states,∃ y∈st2,y.Box=b∧upon s (Q33 st a).1 y.Slot)
def J11 (s:G6) (states:List (List G3)) (a b:Int):Prop:=∃ st∈states,Y68 s states st a b
structure Grown (s:G6) (U:List Int) (states:List (List G3)) (l:List Int) (id:Int) (m:Q0 Int Unit) (l':List Int):Prop where
  inv:Q4f U m l'
  sub:∀ a∈l,a∈l'
  has:id∈l'
  closed:∀ a∈l',a ∉ l→∀ b,J11 s states a b→b∈l'
  least:∀ C:Int→Prop,(∀ a b,C a→J11 s states a b→C b)→(∀ a∈l,C a)→C id→∀ a∈l',C a
structure Rch (s:G6) (U:List Int) (states:List (List G3)) (l:List Int) (id:Int) (m:Q0 Int Unit) (l':List Int):Prop where
  inv:Q4f U m l'
  sub:∀ a∈l++[id],a∈l'
  closed:∀ a∈l',a ∉ l→a≠id→∀ b,J11 s states a b→b∈l'
  least:∀ C:Int→Prop,(∀ a b,C a→J11 s states a b→C b)→(∀ a∈l,C a)→C id→∀ a∈l',C a
section
variable {s:G6} {U:List Int} {states:List (List G3)} {l l' l2:List Int} {id y:Int} {m m2:Q0 Int Unit}
theorem Rch.step (h:Rch s U states l id m l') (hp:J11 s states id y) (g:Grown s U states l' y m2 l2):Rch s U states l id m2 l2∧(∀ a∈l',a∈l2)∧y∈l2:=
  ⟨⟨g.inv,fun a ha=>g.sub a (h.sub a ha),fun a ha h1 h2 b hb=>by
    by_cases h0:a∈l'
    · exact g.sub b (h.closed a h0 h1 h2 b hb)
    · exact g.closed a ha h0 b hb,fun C hc hl hid=>g.least C hc (h.least C hc hl hid) (hc id y hid hp)⟩,g.sub,g.has⟩
end
structure Y30 (s:G6) (bf af:List G3) (l:List Int):Prop where
  seeds:∀ st∈[bf,af],∀ y∈st,Q33 bf y.Box≠Q33 af y.Box→y.Box∈l
  closed:∀ a∈l,∀ b,J11 s [bf,af] a b→b∈l
  least:∀ C:Int→Prop,(∀ a b,C a→J11 s [bf,af] a b→C b)→(∀ st∈[bf,af],∀ y∈st,Q33 bf y.Box≠Q33 af y.Box→C y.Box)→∀ a∈l,C a
theorem Q24 {α:Type} {a b x:α} (h:x∈[a,b]):x∈[b,a]:=by
  simp only [Mk,M4,or_false] at h ⊢
  exact h.symm
theorem J11.swap {s:G6} {a b:List G3} {x y:Int} (h:J11 s [a,b] x y):J11 s [b,a] x y:=by
  obtain⟨st,h0,h1,h2⟩:=h
  exact⟨st,Q24 h0,h1,h2.imp _root_.id (fun⟨st2,h3,h4⟩=>⟨st2,Q24 h3,h4⟩)⟩
theorem Y30.le {s:G6} {bf af:List G3} {l l':List Int} (h:Y30 s bf af l) (h':Y30 s af bf l'):∀ a∈l,a∈l':=
  h.least (·∈l') (fun a b ha hb=>h'.closed a ha b hb.swap) (fun st h0 y hy h1=>h'.seeds st (Q24 h0) y hy (fun e=>h1 e.symm))
theorem H5a {α:Type} [Inhabited α] {c:Bool} {m:Option α} {x:α} (h:c=true→m=some x):∃ r,(bif c then m else some default)=some r∧(c=true→r=x):=by
  cases c with
  | true=>exact⟨x,h rfl,fun _=>rfl⟩
  | false=>exact⟨default,rfl,fun e=>by cases e⟩
theorem J48 (boxes:List Box) (id:Int):Qe boxes id=some (match Jp boxes id with
    | some b=>(b,true)
    | none=>(Box.mk 0 ByteArray.empty 0 false 0 0 0 0 false,false)):=by
  refine Z3 ?_
  unfold Qe
  refine Q8 (fun pre _=>∀ b∈pre,¬ b.ID=id) (fun b hb=>(M4 hb).elim) (fun pre y post s nx e hI h0=>Hb (fun h=>Gg ?_) (fun h=>h0 _ (Y0 (P:=fun b:Box=>¬ b.ID=id) hI (Kx h)))) (fun s hI=>Gg ?_)
  · have:Jp boxes id=some y:=by
      unfold Jp
      rw [e,List.find?_append,List.find?_eq_none.2 (fun b hb=>by simpa using hI b hb)]
      simp only [Option.none_or,List.find?_cons,h]
    rw [this]
  · have:Jp boxes id=none:=by
      unfold Jp
      exact List.find?_eq_none.2 (fun b hb=>by simpa using hI b hb)
    rw [this]
theorem R01 (s:G6) (x:Slot) (size:Int):Wp (Y8 s x size) (fun r=>r=true ↔ Ga4 s x size):=by
  unfold Y8
  have h3:(((decide (size=40))&&(decide (x.Half=0)))||((decide (size=20))&&((decide (x.Half=1))||(decide (x.Half=2)))))=true ↔ x.Half∈Had size:=by
    unfold Had
    simp only [Mn,Me,Mf]
    by_cases h4:size=40
    · rw [if_pos h4]; subst h4; simp
    · rw [if_neg h4]
      by_cases h2:size=20
      · rw [if_pos h2]; subst h2; simp
      · rw [if_neg h2]; simp [h4,h2]
  by_cases h0:0≤x.G1∧x.G1 < (s.Columns.length:Int)∧0≤x.Tier
  · obtain⟨m,hm⟩:∃ m:Nat,x.G1=(m:Int):=⟨x.G1.toNat,by omega⟩
    have h5:m < s.Columns.length:=by omega
    have hc:s.Columns[m]? = some s.Columns[m]:=by simp [h5]
    have h1:((decide (x.G1 < 0)||decide ((s.Columns.length:Int)≤x.G1))||decide (x.Tier < 0))=false:=by
      simp only [Mo,decide_eq_false_iff_not]; omega
    rw [h1]
    simp only [Bool.not_false,cond_true,Bool.false_or]
    rw [hm]
    refine Gy ((G2e hc some).trans rfl) (Hb (fun h=>Gg (Yc fun hs=>?_)) (fun h=>Gg ?_))
    · obtain⟨m',c,e1,e2,e3⟩:=hs.col
      have:m'=m:=by omega
      subst this
      rw [hc] at e2; cases e2
      have:=Kw h
      omega
    · rw [h3]
      exact⟨fun hh=>⟨⟨m,_,hm,hc,by have:=Kx h; omega⟩,h0.2.2,hh⟩,fun hs=>hs.half⟩
  · have h1:((decide (x.G1 < 0)||decide ((s.Columns.length:Int)≤x.G1))||decide (x.Tier < 0))=true:=by
      simp only [Mn,Mf]; omega
    rw [h1]
    simp only [Bool.not_true,cond_false,Bool.true_or,cond_true]
    refine H8 (Gg (Gg (Yc fun hs=>h0 ?_)))
    obtain⟨m',c,e1,e2,e3⟩:=hs.col
    have:=(M0 e2).1
    have:=hs.tier
    omega
theorem Jcb (l:List Slot) (x:Slot) (half:Int) (ht : -1000000≤x.Tier∧x.Tier≤1000000):Wp (Rg l x half) (fun r=>r=true ↔ below l x half):=by
  unfold Rg below
  have key:∀ y:Slot,(y.G1=x.G1∧y.Tier=x.Tier - 1∧y.Half=half) ↔ y=⟨x.G1,x.Tier - 1,half⟩:=fun y=>by
    cases y
    simp
  refine Q8 (fun pre _=>∀ y∈pre,¬ y=⟨x.G1,x.Tier - 1,half⟩) (fun b hb=>(M4 hb).elim) (fun pre y post s nx e hI h0=>?_) (fun s hI=>Gg (Yc fun h=>hI _ h rfl))
  obtain⟨r,e1,h1⟩:=H5a (c:=decide (y.G1=x.G1)) (m:=chk (x.Tier - 1) some) (x:=x.Tier - 1) (fun _=>Z3 (Z2 ⟨by omega,by omega⟩ (Gg rfl)))
  refine Gy e1 (Hb (fun h=>Gg ⟨fun _=>?_,fun _=>rfl⟩) (fun h=>h0 _ (Y0 hI fun hy=>?_)))
  · simp only [Me,Mf] at h
    have hr:=h1 (Ky h.1.1)
    have:=(key y).1 ⟨h.1.1,by rw [h.1.2,hr],h.2⟩
    rw [← this,e]; simp
  · have hk:=(key y).2 hy
    have hr:=h1 (Ky hk.1)
    rw [hr,Ky hk.1,Ky hk.2.1,Ky hk.2.2] at h
    cases h
theorem R04 (x:Slot) (l:List Slot) (ht : -1000000≤x.Tier∧x.Tier≤1000000):Wp (Yi x l) (fun r=>r=true ↔ Gce x l):=by
  unfold Yi Gce
  refine Hb (fun h=>Gg ⟨fun _=>.inl (Kw h),fun _=>rfl⟩) (fun h=>?_)
  have h0:=Kx h
  refine Hb (fun h=>?_) (fun h=>?_)
  · have hh:=Kw h
    refine H8 (wp_mono (Jcb l x 0 ht) (fun r8 h8=>?_))
    rw [hh]
    cases r8 with
    | true=>exact H8 (Gg (H8 (Gg (Gg ⟨fun _=>.inr (.inl (h8.1 rfl)),fun _=>rfl⟩))))
    | false=>
      simp only [Bool.not_false,cond_true,Bool.true_and,Bool.false_or]
      refine H8 (wp_mono (Jcb l x 1 ht) (fun r9 h9=>?_))
      have n0:¬ below l x 0:=fun hb=>by have:=h8.2 hb; cases this
      cases r9 with
      | true=>
        simp only [cond_true,Bool.true_and]
        refine H8 (wp_mono (Jcb l x 2 ht) (fun r10 h2=>Gg ?_))
        rw [h2]
        exact⟨fun hb=>.inr (.inr ⟨trivial,h9.1 rfl,hb⟩),fun hh=>hh.elim (fun h=>(h0 h).elim) (fun h=>h.elim (fun h=>(n0 h).elim) (fun h=>h.2.2))⟩
      | false=>
        simp only [cond_false,Bool.false_and]
        refine H8 (Gg (Gg (Yc fun hh=>hh.elim h0 (fun h=>h.elim n0 (fun h=>?_)))))
        have:=h9.2 h.2.1; cases this
  · have hh:=Kx h
    refine H8 (wp_mono (Jcb l x x.Half ht) (fun r h1=>Gg ?_))
    rw [h1]
    exact⟨fun h=>.inr (.inl h),fun h=>h.elim (fun h=>(h0 h).elim) (fun h=>h.elim (fun h=>h) (fun h=>(hh h.1).elim))⟩
def J3d (a b:Int):Bool:=((decide (a=b))||(decide (a=0)))||(decide (b=0))
theorem Q1c (a b:Int):R4 a b=some (J3d a b):=rfl
theorem Ja7 {a b:Int}:J3d a b=true ↔ G76 a b:=by
  unfold J3d G76
  simp only [Mn,Mf,or_assoc]
theorem R02 (a b:Slot):Wp (Yh a b) (fun r=>r=true ↔ Gc8 a b):=by
  unfold Yh Gc8
  obtain⟨r,e1,h1⟩:=H5a (c:=decide (a.G1=b.G1)&&decide (a.Tier=b.Tier)) (m:=R4 a.Half b.Half) (x:=J3d a.Half b.Half) (fun _=>Q1c _ _)
  refine Gy e1 (Gg ?_)
  cases hc:(decide (a.G1=b.G1)&&decide (a.Tier=b.Tier)) with
  | true=>
    rw [h1 hc]
    simp only [Me,Mf] at hc
    rw [Bool.true_and,Ja7]
    exact⟨fun h=>⟨hc.1,hc.2,h⟩,fun h=>h.2.2⟩
  | false=>
    simp only [Bool.false_and]
    refine Yc fun h=>?_
    rw [Ky h.1,Ky h.2.1] at hc
    cases hc
theorem Y0a (a b:Slot):Wp (Zp a b) (fun r=>r=true ↔ H08 a b):=by
  unfold Zp H08
  obtain⟨r,e1,h1⟩:=H5a (c:=decide (a.G1=b.G1)&&decide (b.Tier < a.Tier)) (m:=R4 a.Half b.Half) (x:=J3d a.Half b.Half) (fun _=>Q1c _ _)
  refine Gy e1 (Gg ?_)
  cases hc:(decide (a.G1=b.G1)&&decide (b.Tier < a.Tier)) with
  | true=>
    rw [h1 hc]
    simp only [Me,Mf] at hc
    rw [Bool.true_and,Ja7]
    exact⟨fun h=>⟨hc.1,hc.2,h⟩,fun h=>h.2.2⟩
  | false=>
    simp only [Bool.false_and]
    refine Yc fun h=>?_
    rw [Ky h.1,Ky h.2.1] at hc
    cases hc
theorem Q1b (boxes:List Box) (l:List G3) (column half:Int) (hl:l.length≤1000000):R3 boxes l column half=some (Rs boxes l column half):=by
  refine Z3 ?_
  unfold R3
  refine Q8 (fun pre n=>n=Rs boxes pre column half∧0≤n∧n≤2896*(pre.length:Int)) ⟨rfl,by omega,by simp⟩ (fun pre y post n nx e hI h2=>?_) (fun n hI=>Gg hI.1)
  obtain⟨i1,i2,i3⟩:=hI
  have h3:pre.length < 1000000:=by rw [e] at hl; simp only [Mc,M8] at hl; omega
  have h0:Rs boxes (pre++[y]) column half=Gd6 boxes column half n y:=by
    unfold Rs; rw [List.foldl_append,i1]; rfl
  have h4:=J56 (boxes:=boxes) (column:=column) (half:=half) (n:=n) (x:=y)
  refine Hca (fun j=>j=Gd6 boxes column half n y) (fun K hK=>?_) (fun j hj=>h2 _ ⟨by rw [h0,hj],by omega,by rw [Mc,Md]; omega⟩)
  refine Gy (J48 boxes y.Box) ?_
  unfold Gd6 at hK
  cases hf:Jp boxes y.Box with
  | none=>
    rw [hf] at hK
    simp only [Bool.not_false,Bool.true_or,cond_true]
    exact hK _ (by split <;> rfl)
  | some b=>
    rw [hf] at hK
    simp only [Bool.not_true,Bool.false_or]
    refine Hb (fun h=>hK _ ?_) (fun h=>?_)
    · simp only [Mn,Me,Mf,ne_eq] at h
      have h1:¬ (y.Slot.G1=column∧(y.Slot.Half=half∨y.Slot.Half=0)):=fun hc=>h.elim (fun h=>h hc.1) (fun h=>hc.2.elim h.1 h.2)
      rw [if_neg h1]
    · simp only [Mo,Bool.and_eq_false_iff,decide_eq_false_iff_not,ne_eq,Decidable.not_not] at h
      rw [if_pos ⟨h.1,h.2⟩] at hK
      unfold H16 at hK
      refine Hb (fun hh=>Z2 ⟨by omega,by omega⟩ (hK _ (by show _=n+(if b.High=true then 2896 else 2591); rw [if_pos hh]))) (fun hh=>Z2 ⟨by omega,by omega⟩ (hK _ (by show _=n+(if b.High=true then 2896 else 2591); rw [if_neg (by rw [hh]; simp)])))
theorem Q82 (l:List G3) (hl:l.length≤1000000):Y6 l=some (l.map (·.Slot)):=by
  refine Z3 ?_
  unfold Y6
  refine Q8 (fun pre s=>s=pre.map (·.Slot)) rfl (fun pre y post s nx e hI h0=>?_) (fun s hI=>Gg hI)
  have h1:pre.length < 1000000:=by rw [e] at hl; simp only [Mc,M8] at hl; omega
  subst hI
  refine Zq (R9b (by rw [Mg,Md]; omega) (by omega)) (h0 _ (by simp))
theorem R03 {s:G6} {boxes:List Box} {l:List G3} {m:Nat} {c:G1} (hc:s.Columns[m]? = some c) (h0:0≤c.Height) (hl:l.length≤1000000):Wp (Rx s boxes l (m:Int)) (fun r=>r=true ↔ ¬ H1b boxes l m c):=by
  unfold Rx H1b
  rw [G2e hc]
  refine Hb (fun h=>Gg (Yc fun h2=>h2 (.inl (by have:=Kw h; omega)))) (fun h=>?_)
  have hh:=Kx h
  refine Gy (Q1b boxes l m 1 hl) ?_
  rw [G2e hc]
  obtain⟨r,e1,h1⟩:=H5a (c:=!(decide (c.Height < Rs boxes l m 1))) (m:=R3 boxes l m 2) (x:=Rs boxes l m 2) (fun _=>Q1b boxes l m 2 hl)
  obtain⟨r2,e2,h2⟩:=H5a (c:=!(decide (c.Height < Rs boxes l m 1))) (m:=Qr s.Columns (m:Int) some) (x:=c) (fun _=>G2e hc some)
  refine Gy e1 (Gy e2 (Gg ?_))
  by_cases h3:c.Height < Rs boxes l m 1
  · rw [Ky h3,Bool.true_or]
    exact⟨fun _ hf=>by omega,fun _=>rfl⟩
  · have e3:=h1 (by rw [Kz h3]; rfl)
    have e4:=h2 (by rw [Kz h3]; rfl)
    rw [e3,e4,Kz h3,Bool.false_or,Mf]
    omega
theorem Qff {F:Nat} {s:G6} {boxes:List Box} {l:List G3} (hp:∀ c∈s.Columns,c.Plugs.length≤1048576) (hr:∀ x∈s.Covers,x.Rows.length≤1048576) (hb:∀ b∈boxes,0≤b.Size∧b.Size≤255) (hl:l.length≤1000000) :
    Wp (Qu F s boxes l) (fun r=>r=true ↔ H06 s∧G27 s boxes l):=by
  unfold Qu
  refine H8 (wp_mono (Rd4 (F:=F) s hp hr) (fun r hs=>Hb (fun h=>Gg (Yc fun hh=>?_)) (fun h=>?_)))
  · rw [hs.2 hh.1] at h; cases h
  have hS:H06 s:=by
    cases r with
    | true=>exact hs.1 rfl
    | false=>cases h
  have a5:∀ c∈s.Columns,c.Tiers≤10:=fun c hc=>by have:=(hS.col c hc).place; omega
  refine Q8 (fun pre _=>(∀ x∈pre,∃ b,Jp boxes x.Box=some b∧Ga4 s x.Slot b.Size∧Gce x.Slot (l.map (·.Slot)))∧pre.Pairwise (fun a b=>a.Box < b.Box)∧pre.Pairwise (fun a b=>¬ Gc8 b.Slot a.Slot))
    ⟨fun x hx=>(M4 hx).elim,List.Pairwise.nil,List.Pairwise.nil⟩ (fun pre y post u nx e hI h5=>?_) (fun u hI=>?_)
  · obtain⟨i1,i2,i3⟩:=hI
    have h6:y∈l:=by rw [e]; simp
    have b6:pre.length < l.length:=by rw [e]; simp
    refine Gy (J48 boxes y.Box) ?_
    cases hf:Jp boxes y.Box with
    | none=>
      simp only [Bool.not_false,Bool.not_true,cond_false,Bool.true_or,cond_true]
      refine H8 (Gg (H8 (Gg (H8 (Gg (H8 (Gg (Gg (Yc fun hh=>?_)))))))))
      obtain⟨b,h1,_⟩:=hh.2.each y h6
      rw [hf] at h1; cases h1
    | some b=>
      have b2:b∈boxes:=List.mem_of_find?_eq_some hf
      have b7:=hb b b2
      simp only [Bool.not_true,Bool.not_false,cond_true,Bool.false_or]
      refine H8 (Z2 ⟨by omega,by omega⟩ (Gg (H8 (wp_mono (R01 s y.Slot b.Size) (fun r17 a7=>?_)))))
      cases r17 with
      | false=>
        simp only [Bool.not_false,Bool.not_true,cond_false,Bool.true_or,cond_true]
        refine H8 (Gg (H8 (Gg (Gg (Yc fun hh=>?_)))))
        obtain⟨b',h1,h2,_⟩:=hh.2.each y h6
        rw [hf] at h1; cases h1
        have:=a7.2 h2; cases this
      | true=>
        have h4:=a7.1 rfl
        simp only [Bool.not_true,Bool.not_false,cond_true,Bool.false_or]
        refine Gy (Q82 l hl) ?_
        have b3 : -1000000≤y.Slot.Tier∧y.Slot.Tier≤1000000:=by
          obtain⟨m',c,_,e2,e3⟩:=h4.col
          have:=a5 c (M3 e2)
          have:=h4.tier
          omega
        refine H8 (wp_mono (R04 y.Slot (l.map (·.Slot)) b3) (fun r19 a8=>Hb (fun h=>Gg (Yc fun hh=>?_)) (fun h=>?_)))
        · obtain⟨b',h1,_,h2⟩:=hh.2.each y h6
          rw [a8.2 h2] at h; cases h
        have a6:Gce y.Slot (l.map (·.Slot)):=by
          cases r19 with
          | true=>exact a8.1 rfl
          | false=>cases h
        refine Zq (Ky (by omega)) ?_
        rw [show (pre.length:Int).toNat=pre.length by omega]
        refine Jc7 (fun i _=>∀ (k:Nat) z,k < i→pre[k]? = some z→z.Box < y.Box∧¬ Gc8 z.Slot y.Slot) (fun k z hk=>by omega) (fun i u nx2 hi hJ b1=>?_) (fun u hJ=>h5 _ ?_)
        · have hx:pre[i]? = some (pre[i]'hi):=M1 hi
          have h7:l[i]? = some (pre[i]'hi):=by rw [e,M7 hi]; exact hx
          have h8:pre[i]'hi∈pre:=List.getElem_mem _
          generalize pre[i]'hi=z at hx h7 h8
          rw [G2e h7]
          obtain⟨q1,e1,h1⟩:=H5a (c:=!(decide (y.Box≤z.Box))) (m:=Qr l (i:Int) some) (x:=z) (fun _=>G2e h7 some)
          refine Gy e1 ?_
          by_cases h9:y.Box≤z.Box
          · rw [Ky h9]
            simp only [Bool.not_true,cond_false,Bool.true_or,cond_true]
            refine H8 (Gg (Gg (Yc fun hh=>?_)))
            have h1:=hh.2.sorted
            rw [e] at h1
            have:=(List.pairwise_append.1 h1).2.2 z h8 y (by simp)
            omega
          · have hq:=h1 (by rw [Kz h9]; rfl)
            subst hq
            rw [Kz h9]
            simp only [Bool.not_false,cond_true,Bool.false_or]
            refine H8 (wp_mono (R02 q1.Slot y.Slot) (fun r47 a9=>Hb (fun h=>Gg (Yc fun hh=>?_)) (fun h=>b1 _ (fun k c b8 a0=>?_))))
            · have h1:=hh.2.apart
              rw [e] at h1
              have h2:=(List.pairwise_append.1 h1).2.2 q1 h8 y (by simp)
              have h3:=a9.1 h
              refine h2 ?_
              unfold Gc8 G76 at h3 ⊢
              obtain⟨a1,a2,a3⟩:=h3
              exact⟨a1.symm,a2.symm,by omega⟩
            · by_cases b4:k < i
              · exact hJ k c b4 a0
              · have:k=i:=by omega
                subst this
                rw [hx] at a0
                cases a0
                exact⟨by omega,fun h3=>by rw [a9.2 h3] at h; cases h⟩
        · have a4:∀ z∈pre,z.Box < y.Box∧¬ Gc8 z.Slot y.Slot:=fun z hz=>by
            obtain⟨k,hk⟩:=List.mem_iff_getElem?.1 hz
            exact hJ k z (M0 hk).1 hk
          refine⟨Y0 i1 ⟨b,hf,h4,a6⟩,Ha5 i2 (fun z hz=>(a4 z hz).1),Ha5 i3 (fun z hz h3=>(a4 z hz).2 ?_)⟩
          unfold Gc8 G76 at h3 ⊢
          obtain⟨a1,a2,a3⟩:=h3
          exact⟨a1.symm,a2.symm,by omega⟩
  · obtain⟨i1,i2,i3⟩:=hI
    refine Q8 (fun pre _=>∀ (k:Nat) c,k < pre.length→s.Columns[k]? = some c→H1b boxes l k c) (fun k c hk=>by simp at hk) (fun pre y post u nx e hJ h5=>?_) (fun u hJ=>Gg ⟨fun _=>⟨hS,i1,i2,i3,fun m c hc=>hJ m c (M0 hc).1 hc⟩,fun _=>rfl⟩)
    have hy:s.Columns[pre.length]? = some y:=by rw [e]; simp
    have h0:0≤y.Height:=by have:=(hS.col y (by rw [e]; simp)).place; omega
    refine H8 (wp_mono (R03 (boxes:=boxes) (l:=l) hy h0 hl) (fun r67 b0=>Hb (fun h=>Gg (Yc fun hh=>b0.1 h (hh.2.fits _ _ hy))) (fun h=>h5 _ (fun k c hk hc=>?_))))
    rw [Mc,Md] at hk
    by_cases b5:k < pre.length
    · exact hJ k c b5 hc
    · have:k=pre.length:=by omega
      subst this
      rw [hy] at hc
      cases hc
      refine Classical.byContradiction fun hf=>?_
      rw [b0.2 hf] at h; cases h
theorem Rdb {s:G6} {boxes:List Box} {l:List G3} (hp:∀ c∈s.Columns,c.Plugs.length≤1048576) (hr:∀ x∈s.Covers,x.Rows.length≤1048576) (hl:l.length≤1000000) :
    Wp (G3d s boxes l) (fun r=>r=true ↔ H06 s∧G27 s boxes l):=by
  obtain⟨r,er,hs⟩:=Q16 s hp hr
  cases r with
  | true=>
    have hS:=hs.1 rfl
    refine wp_mono (Q0f er (fun c hc=>by have:=(hS.col c hc).place; omega) hl) (fun r h=>h.trans ⟨fun h=>⟨hS,h⟩,fun h=>h.2⟩)
  | false=>
    unfold G3d
    refine Gy er (Hb (fun _=>Gg (Yc fun hh=>?_)) (fun h=>by cases h))
    have:=hs.2 hh.1; cases this
theorem wp_loop {β σ:Type} {Q:β→Prop} (I:σ→Prop) (μ:σ→Nat) {b:(σ→Option β)→σ→Option β} {F:Nat} {s:σ} (h0:I s) (hF:μ s < F)
    (hb:∀ s nx,I s→(∀ s',I s'→μ s' < μ s→Wp (nx s') Q)→Wp (b nx s) Q):Wp (loop b F s) Q:=by
  induction F generalizing s with
  | zero=>omega
  | succ F ih=>
    rw [loop]
    exact hb s _ h0 (fun s' h1 h2=>ih h1 (by omega))
theorem Q1d (l:List G3) (id:Int):Qi l id=some (H67 (fun x:G3=>decide (x.Box=id)) l):=by
  unfold Qi
  exact Hdd (f:=fun x:G3=>some (decide (x.Box=id))) (fun x _=>rfl)
theorem Y5e {α:Type} {p:α→Bool} {pre post:List α} {y:α} (h1:∀ x∈pre,p x=false) (h2:p y=true):H67 p (pre++y::post)=(pre.length:Int):=by
  have:(pre++y::post).findIdx? p=some pre.length:=by
    rw [List.findIdx?_append,List.findIdx?_eq_none_iff.2 h1]
    simp [List.findIdx?_cons,h2]
  unfold H67
  rw [this]
theorem Re6 {α:Type} {p:α→Bool} {l:List α} (h1:∀ x∈l,p x=false):H67 p l = -1:=by
  unfold H67
  rw [List.findIdx?_eq_none_iff.2 h1]
theorem J70 {s:G6} {m:Nat} {c:G1} (hc:s.Columns[m]? = some c):Qn s (m:Int)=some (Qo s c):=by
  refine Z3 ?_
  unfold Qn Qo
  have h4:=(M0 hc).1
  refine Hb (fun h=>?_) (fun _=>?_)
  · simp only [Mn,Mf] at h
    omega
  refine Q8 (fun pre _=>∀ x∈pre,H80 x c=false) (fun b hb=>(M4 hb).elim) (fun pre y post u nx e hI h3=>?_) (fun u hI=>Gg (Re6 hI).symm)
  rw [G2e hc]
  obtain⟨q1,e1,h1⟩:=H5a (c:=decide (y.Bay=c.Bay)) (m:=Qr s.Columns (m:Int) some) (x:=c) (fun _=>G2e hc some)
  refine Gy e1 ?_
  obtain⟨q2,e2,h2⟩:=H5a (c:=decide (y.Bay=c.Bay)) (m:=Qc y.Rows q1.Row) (x:=y.Rows.any (fun r=>decide (r=c.Row))) (fun h=>by rw [h1 h]; exact Q2d _ _)
  refine Gy e2 ?_
  have h0:(decide (y.Bay=c.Bay)&&q2)=H80 y c:=by
    unfold H80
    cases hb:decide (y.Bay=c.Bay) with
    | true=>rw [h2 hb]
    | false=>rfl
  rw [h0]
  refine Hb (fun h=>Gg ?_) (fun h=>h3 _ (Y0 (P:=fun x=>H80 x c=false) hI h))
  rw [e,Y5e hI h]
section lf
variable {s:G6} {bf af:List G3}
end lf
end Go.Proofs.YtmfhaflabpnaoaaGreat
