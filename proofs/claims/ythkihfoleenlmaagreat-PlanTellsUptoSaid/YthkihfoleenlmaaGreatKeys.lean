/- When two structs or arrays of plain cells are equal,and thei -/
import Derived.Test.YthkihfoleenlmaaGreatCalls
namespace Go.Proofs.YthkihfoleenlmaaGreat
open Go.RowKit
set_option linter.unusedVariables false
set_option linter.unusedSimpArgs false

def G16 (P:Program) (T:TypeId) (x y:Value):Option Bool:=
  match P.underlying T,x,y with
  | some .bool,.bool a,.bool b=>some (a==b)
  | some (.int _),.int k a,.int k' b=>if k=k' then some (a==b) else none
  | some .string,.string a,.string b=>some (a==b)
  | _,_,_=>none

def both:Option Bool→Option Bool→Option Bool
  | some a,some b=>some (a&&b)
  | _,_=>none

def seg (P:Program) (T:TypeId) (xs:List Value) (off:Nat):Option (List Value):=
  let r:=(xs.drop off).take (P.cellsOf T)
  if r.length=P.cellsOf T then some r else none

def rT (P:Program):Nat→TypeId→List Value→List Value→Option Bool
  | 0,_,_,_=>none
  | m+1,T,xs,ys=>
    match P.underlying T with
    | some (.array n e)=>if (P.info? e).isSome then (List.range n).foldr (fun i r=>both (match seg P e xs (i*P.cellsOf e),seg P e ys (i*P.cellsOf e) with
        | some a,some b=>rT P m e a b
        | _,_=>none) r) (some true) else none
    | some (.struct fs) => if P.stoodInHeld T then none else fs.toList.foldr (fun f r => if f.name = "_" then none else both (match seg P f.type xs f.offset, seg P f.type ys f.offset with
        | some a,some b=>rT P m f.type a b
        | _,_=>none) r) (some true)
    | _=>match xs,ys with
      | [x],[y]=>G16 P T x y
      | _,_=>none

section
variable {P:Program} (w:World)

def cI (P:Program) (T:TypeId):Bool:=match P.underlying T with | some (.struct _) | some (.array _ _)=>true | _=>false
def Reads (P:Program) (T:TypeId) (x:Value) (xs:List Value):Prop:=if cI P T then x=.agg xs.toArray else xs=[x]

theorem G91 {a b:Option Bool} {r:Bool} (h:both a b=some r):∃ p q,a=some p/\b=some q/\r=(p&&q):=by
  unfold both at h
  split at h
  · cases h; exact⟨_,_,rfl,rfl,rfl⟩
  · cases h

theorem uE {T off:Nat} {xs:Array Value} {s:List Value} (hi:(P.info? T).isSome=true) (hu:∃ d,P.underlying T=some d) (h:seg P T xs.toList off=some s) (h1:cI P T=false→∃ x,s=[x]) :
    ∃ a,(part T xs off).run P w=.ok a w/\Reads P T a s:=by
  obtain⟨i,hi⟩:=Ny hi
  obtain⟨d,hu⟩:=hu
  unfold seg at h
  simp only at h
  split at h
  · rename_i hl
    cases h
    have hc:P.cellsOf T=i.size:=by simp [Program.cellsOf,hi]
    by_cases ha:cI P T=true
    · refine⟨.agg (xs.extract off (off+i.size)),?_,?_⟩
      · have hg:(isAgg T).run P w=.ok true w:=by
          unfold cI at ha
          split at ha
          · rename_i fs e; simp [isAgg,run_underlying e]
          · rename_i n e' e; simp [isAgg,run_underlying e]
          · cases ha
        simp [part,hg,run_sizeOf w hi,hc]
      · unfold Reads
        rw [if_pos ha,hc]
        congr 1
        apply Array.ext'
        simp [List.take_drop,Nat.add_comm]
    · have h2:cI P T=false:=by simpa using ha
      obtain⟨x,hx⟩:=h1 h2
      refine⟨x,?_,?_⟩
      · have hg:(isAgg T).run P w=.ok false w:=by
          unfold cI at h2
          cases d <;> simp [hu] at h2 <;> simp [isAgg,run_underlying hu]
        have h0:xs[off]? = some x:=by
          have:((xs.toList.drop off).take (P.cellsOf T))[0]? = some x:=by rw [hx]; rfl
          rw [Pk] at this
          split at this
          · simpa [Pm] using this
          · cases this
        simp [part,hg,h0]
      · unfold Reads
        rw [if_neg ha]
        exact hx
  · cases h

theorem G8c {m T:Nat} {xs ys:List Value} {r:Bool} (ha:cI P T=false) (h:rT P (m+1) T xs ys=some r):∃ x y,xs=[x]/\ys=[y]/\G16 P T x y=some r:=by
  unfold rT at h
  split at h
  · rename_i e; simp [cI,e] at ha
  · rename_i e; simp [cI,e] at ha
  · split at h
    · exact⟨_,_,rfl,rfl,h⟩
    · cases h

theorem pI {T:TypeId} {d:TypeDesc} (h:P.underlying T=some d):(P.info? T).isSome=true:=by
  obtain⟨i,hi⟩:=info_of_underlying h
  simp [hi]

theorem H2c {m T:Nat} {xs ys:List Value} {r:Bool} (h:rT P m T xs ys=some r):∃ d,P.underlying T=some d:=by
  cases m with
  | zero=>cases h
  | succ m=>
    unfold rT at h
    cases hu:P.underlying T with
    | some d=>exact⟨d,rfl⟩
    | none=>
      rw [hu] at h
      simp only at h
      split at h
      · unfold G16 at h; rw [hu] at h; cases h
      · cases h

theorem GG (d:Nat):∀ (m:Nat) (T:TypeId) (x y:Value) (xs ys:List Value) (r:Bool) (w:World),rT P m T xs ys=some r→Reads P T x xs→Reads P T y ys→(Op.equalIn (d+m) T x y).run P w=.ok r w
  | 0,_,_,_,_,_,_,_,h,_,_=>by cases h
  | m+1,T,x,y,xs,ys,r,w,h,hx,hy=>by
    have step:∀ (T' off:Nat) (X Y:Array Value) (p:Bool) (w:World),(match seg P T' X.toList off,seg P T' Y.toList off with
        | some a,some b=>rT P m T' a b
        | _,_=>none)=some p→∃ a b,(part T' X off).run P w=.ok a w/\(part T' Y off).run P w=.ok b w/\(Op.equalIn (d+m) T' a b).run P w=.ok p w:=by
      intro T' off X Y p w hp
      split at hp
      · rename_i a b h1 h2
        have hu:=H2c hp
        obtain⟨dd,h0⟩:=hu
        have hi:=pI h0
        have h3:cI P T'=false→∃ x y,a=[x]/\b=[y]/\G16 P T' x y=some p:=fun ha=>by
          cases m with
          | zero=>cases hp
          | succ m'=>exact G8c ha hp
        obtain⟨u,h7,h8⟩:=uE w hi ⟨dd,h0⟩ h1 (fun ha=>by obtain⟨x,y,e,_,_⟩:=h3 ha; exact⟨x,e⟩)
        obtain⟨v,h9,a0⟩:=uE w hi ⟨dd,h0⟩ h2 (fun ha=>by obtain⟨x,y,_,e,_⟩:=h3 ha; exact⟨y,e⟩)
        exact⟨u,v,h7,h9,GG d m T' u v a b p w hp h8 a0⟩
      · cases hp
    have hh:=h
    unfold rT at h
    split at h
    · rename_i n e hu
      have ha:cI P T=true:=by simp [cI,hu]
      unfold Reads at hx hy
      rw [if_pos ha] at hx hy
      subst hx; subst hy
      split at h
      · rename_i hi
        obtain⟨i,hi⟩:=Ny hi
        rw [show d+(m+1)=(d+m)+1 from rfl,run_equalIn_array w (d+m) xs.toArray ys.toArray hu hi]
        generalize List.range n=is at h
        clear hh
        induction is generalizing r with
        | nil=>simp at h; subst h; simp [Op.eqItems]
        | cons j is ih=>
          rw [List.foldr_cons] at h
          obtain⟨p,q,hp,hq,rfl⟩:=G91 h
          obtain⟨a,b,p1,p2,p3⟩:=step e (j*P.cellsOf e) xs.toArray ys.toArray p w hp
          simp only [Op.eqItems,Sem.run_bind,p1,p2,p3,Result.andThen_ok]
          cases p
          · simp
          · simpa using ih q hq
      · cases h
    · rename_i fs hu
      have ha:cI P T=true:=by simp [cI,hu]
      unfold Reads at hx hy
      rw [if_pos ha] at hx hy
      subst hx; subst hy
      split at h
      · cases h
      · rename_i a1
        have h4:P.fieldsOf T=fs:=by simp [Program.fieldsOf,hu]
        rw [show d+(m+1)=(d+m)+1 from rfl,run_equalIn_struct w (d+m) T xs.toArray ys.toArray (by rw [h4]; exact hu) (by simpa using a1),h4]
        generalize fs.toList=fl at h
        clear hh
        induction fl generalizing r with
        | nil=>simp at h; subst h; simp [Op.eqFields]
        | cons f fl ih=>
          rw [List.foldr_cons] at h
          split at h
          · cases h
          · rename_i hn
            obtain⟨p,q,hp,hq,rfl⟩:=G91 h
            obtain⟨a,b,p1,p2,p3⟩:=step f.type f.offset xs.toArray ys.toArray p w hp
            unfold Op.eqFields
            rw [if_pos hn]
            simp only [Sem.run_bind,p1,p2,p3,Result.andThen_ok]
            cases p
            · simp
            · simpa using ih q hq
    · rename_i h5 h6
      have ha:cI P T=false:=by
        unfold cI
        split
        · rename_i e; exact absurd e (h6 _)
        · rename_i e; exact absurd e (h5 _ _)
        · rfl
      obtain⟨x',y',e1,e2,hl⟩:=G8c ha hh
      unfold Reads at hx hy
      rw [ha] at hx hy
      simp only [Bool.false_eq_true,if_false] at hx hy
      rw [e1] at hx; rw [e2] at hy
      cases hx; cases hy
      rw [show d+(m+1)=(d+m)+1 from rfl]
      unfold G16 at hl
      split at hl
      · rename_i e; cases hl; exact run_equalIn_bool w _ _ _ _ e
      · rename_i e
        split at hl
        · rename_i ek; subst ek; cases hl; exact run_equalIn_int w _ _ _ _ _ _ e
        · cases hl
      · rename_i a b e; cases hl
        rw [run_equalIn_string w _ _ _ _ e,beq_toListBytes]
      · cases hl

def RS (P:Program):Nat→TypeId→List Value→Bool
  | 0,_,_=>false
  | m+1,T,xs=>
    match P.underlying T with
    | some (.array n e)=>(P.info? e).isSome&&(List.range n).all (fun i=>match seg P e xs (i*P.cellsOf e) with
        | some a=>RS P m e a
        | none=>false)
    | some (.struct fs) => fs.toList.all (fun f => f.name != "_" && match seg P f.type xs f.offset with
        | some a=>RS P m f.type a
        | none=>false)
    | some .bool | some (.int _) | some .string=>match xs with
      | [_]=>true
      | _=>false
    | _=>false

theorem J04 {m T:Nat} {xs:List Value} (h:RS P m T xs=true):∃ d,P.underlying T=some d/\(cI P T=false→∃ x,xs=[x]):=by
  cases m with
  | zero=>cases h
  | succ m=>
    unfold RS at h
    split at h
    · rename_i e; exact⟨_,e,fun h=>by simp [cI,e] at h⟩
    · rename_i e; exact⟨_,e,fun h=>by simp [cI,e] at h⟩
    all_goals first
      | (rename_i e
         split at h
         · exact⟨_,e,fun _=>⟨_,rfl⟩⟩
         · cases h)
      | cases h

theorem G7c (em:Bool) (d:Nat):∀ (m:Nat) (T:TypeId) (x:Value) (xs:List Value) (w:World),RS P m T xs=true→Reads P T x xs→(Instr.checkKey em (d+m) T x).run P w=.ok () w
  | 0,_,_,_,_,h,_=>by cases h
  | m+1,T,x,xs,w,h,hx=>by
    have step:∀ (T' off:Nat) (X:Array Value) (w:World),(match seg P T' X.toList off with
        | some a=>RS P m T' a
        | none=>false)=true→∃ a,(part T' X off).run P w=.ok a w/\(Instr.checkKey em (d+m) T' a).run P w=.ok () w:=by
      intro T' off X w hp
      split at hp
      · rename_i a h1
        obtain⟨dd,h0,h3⟩:=J04 hp
        obtain⟨u,h4,h5⟩:=uE w (pI h0) ⟨dd,h0⟩ h1 h3
        exact⟨u,h4,G7c em d m T' u a w hp h5⟩
      · cases hp
    unfold RS at h
    split at h
    · rename_i n e hu
      have ha:cI P T=true:=by simp [cI,hu]
      unfold Reads at hx
      rw [if_pos ha] at hx
      subst hx
      simp only [Pp] at h
      obtain⟨i,hi⟩:=Ny h.1
      have h2:=h.2
      have hc:i.size=P.cellsOf e:=by simp [Program.cellsOf,hi]
      rw [show d+(m+1)=(d+m)+1 from rfl,Instr.checkKey]
      simp only [Sem.run_bind,run_underlying hu,Result.andThen_ok]
      simp only [Std.Legacy.Range.forIn_eq_forIn_range',Std.Legacy.Range.size,Nat.sub_zero,Nat.add_one_sub_one,Nat.div_one]
      rw [List.range_eq_range'] at h2
      generalize List.range' 0 n=is at h2
      induction is with
      | nil=>simp
      | cons j is ih=>
        simp only [List.all_cons,Pp] at h2
        obtain⟨a,p1,p2⟩:=step e (j*P.cellsOf e) xs.toArray w h2.1
        simp only [List.forIn_cons,Sem.run_bind,run_sizeOf w hi,Result.andThen_ok,p1,p2,Sem.run_pure]
        exact ih h2.2
    · rename_i fs hu
      have ha:cI P T=true:=by simp [cI,hu]
      unfold Reads at hx
      rw [if_pos ha] at hx
      subst hx
      rw [show d+(m+1)=(d+m)+1 from rfl,Instr.checkKey]
      simp only [Sem.run_bind,run_underlying hu,Result.andThen_ok]
      rw [← Array.forIn_toList]
      generalize fs.toList=fl at h
      induction fl with
      | nil=>simp
      | cons f fl ih=>
        simp only [List.all_cons,Pp,bne_iff_ne,ne_eq] at h
        obtain⟨a,p1,p2⟩:=step f.type f.offset xs.toArray w h.1.2
        have hn:=h.1.1
        simp only [List.forIn_cons,Sem.run_bind,ne_eq,hn,not_false_eq_true,if_true,p1,p2,Result.andThen_ok,Sem.run_pure]
        exact ih h.2
    all_goals first
      | (rename_i hu
         rw [show d+(m+1)=(d+m)+1 from rfl,Instr.checkKey]
         simp [run_underlying hu]; done)
      | cases h

theorem qP.of_eq {k:TypeId} {J:Type} [DecidableEq J] (kv:J→List Value) (h0:cI P k=true) (inj:∀ a b,kv a=kv b→a=b) (m:Nat) (hm:m≤10000) (h6:∀ a b,rT P m k (kv a) (kv b)=some (decide (a=b))) (h8:∀ a,RS P m k (kv a)=true)
    (h5:∀ a,Instr.sameBits 10000 (.agg (kv a).toArray) (.agg (kv a).toArray)=true):qP P k (fun a=>.agg (kv a).toArray) where
  inj:=fun a b h=>inj a b (by simpa using h)
  check:=fun w em a=>by
    have:=G7c em (10000 - m) m k (.agg (kv a).toArray) (kv a) w (h8 a) (by unfold Reads; rw [if_pos h0])
    rwa [Nat.sub_add_cancel hm] at this
  find:=fun w a es he=>by
    obtain⟨dd,h4⟩:=H2c (h6 a a)
    have h9:∀ (es:List MapEntry),es≠[]→Instr.findNow dd (.agg (kv a).toArray) es 0=none:=fun es a0=>by
      cases es with
      | nil=>exact absurd rfl a0
      | cons x r=>
        have:Instr.sameNow dd (.agg (kv a).toArray) x.key=none:=by
          unfold Instr.sameNow; split <;> simp_all
        simp [Instr.findNow,this]
    have key:∀ (es:List MapEntry) (i:Nat),(∀ e∈es,∃ b,e.key=Value.agg (kv b).toArray) →
        ((Instr.findAsking k (.agg (kv a).toArray) es i).run P w=.ok none w/\∀ e∈es,e.key≠.agg (kv a).toArray)\/∃ j e,(Instr.findAsking k (.agg (kv a).toArray) es i).run P w=.ok (some (i+j,e.val)) w/\es[j]? = some e/\e.key=.agg (kv a).toArray:=by
      intro es
      induction es with
      | nil=>intro i _; exact .inl ⟨rfl,by simp⟩
      | cons x r ih=>
        intro i he
        obtain⟨b,hb⟩:=he x (by simp)
        have hq:(Op.equal k (.agg (kv a).toArray) x.key).run P w=.ok (decide (a=b)) w:=by
          rw [hb]
          have:=GG (10000 - m) m k (.agg (kv a).toArray) (.agg (kv b).toArray) (kv a) (kv b) _ w (h6 a b) (by unfold Reads; rw [if_pos h0]) (by unfold Reads; rw [if_pos h0])
          rwa [Nat.sub_add_cancel hm] at this
        by_cases e:a=b
        · subst e
          refine .inr ⟨0,x,?_,rfl,hb⟩
          simp [Instr.findAsking,hq]
        · have hs:(Instr.findAsking k (.agg (kv a).toArray) (x::r) i).run P w=(Instr.findAsking k (.agg (kv a).toArray) r (i+1)).run P w:=by
            simp [Instr.findAsking,hq,e]
          rcases ih (i+1) (fun y hy=>he y (by simp [hy])) with ⟨h1,h2⟩ | ⟨j,y,h1,h2,h3⟩
          · refine .inl ⟨by rw [hs]; exact h1,fun y hy=>?_⟩
            rcases Pv.1 hy with rfl | hy
            · rw [hb]; intro e'; exact e (inj b a (by simpa using e')).symm
            · exact h2 y hy
          · exact .inr ⟨j+1,y,by rw [hs,h1]; congr 3; omega,by simpa using h2,h3⟩
    cases h7:es with
    | nil=>exact .inl ⟨by simp [Instr.findKey,run_underlying h4,Instr.findNow],by simp⟩
    | cons x r=>
      rw [← h7]
      have hn:=h9 es (by simp [h7])
      rcases key es 0 he with ⟨h1,h2⟩ | ⟨j,e,h1,h2,h3⟩
      · exact .inl ⟨by simp [Instr.findKey,run_underlying h4,hn,h1],h2⟩
      · exact .inr ⟨j,e,by simp [Instr.findKey,run_underlying h4,hn,h1],h2,h3⟩
  stays:=fun w a=>by simp [Instr.keyThatStays,h5 a]

/-! ### Equality of aggregates as an operation -/
variable {o:Oper} {l:Fr} {L:Loc}
def scs (vs:List Value):List AV:=vs.map .sc
theorem V.inv_scs {β:H4} {vs:List Value} {x:Value} {w:World} (h:V w β L (.agg (scs vs)) x):x=.agg vs.toArray:=by
  obtain⟨us,rfl,hl,hu⟩:=h.inv_agg
  congr 1
  apply Array.ext
  · simpa [scs] using hl
  · intro i h1 h2
    have h3:i < vs.length:=by simpa using h2
    have:=(hu i (.sc vs[i]) us[i] (by simp [scs,h3]) (by simp [h1])).inv_sc
    simpa using this

theorem lA {x y:Operand} {T T':TypeId} {vs us:List Value} {r:Bool} (m:Nat) (hm:Nat.ble m 10000=true) (hq:rT P m T vs us=some r) (h0:cI P T=true) (hg:P.eqGuardType P.depth T=false)
    (ho:o.op=.binOp .eql T x y T') (hx:ev l x=.agg (scs vs)) (hy:ev l y=.agg (scs us)):H2 P o l L (Is (.sc (.bool r)) L):=
  Hm fun a w β h4 hf=>by
    have h1:=hf.ev x
    have h2:=hf.ev y
    rw [hx] at h1; rw [hy] at h2
    have e1:=V.inv_scs h1
    have e2:=V.inv_scs h2
    refine⟨_,?_,.sc⟩
    have h3:=GG (10000 - m) m T (.agg vs.toArray) (.agg us.toArray) vs us r w hq (by unfold Reads; rw [if_pos h0]) (by unfold Reads; rw [if_pos h0])
    rw [Nat.sub_add_cancel (Nat.le_of_ble_eq_true hm)] at h3
    simp [execOp,ho,e1,e2,run_eqGuard_agg w .eql T x y _ _ hg,run_eql_struct,h3]
theorem uY {x y:Operand} {T T':TypeId} {vs us:List Value} {r:Bool} (m:Nat) (hm:Nat.ble m 10000=true) (hq:rT P m T vs us=some r) (h0:cI P T=true) (hg:P.eqGuardType P.depth T=false)
    (ho:o.op=.binOp .neq T x y T') (hx:ev l x=.agg (scs vs)) (hy:ev l y=.agg (scs us)):H2 P o l L (Is (.sc (.bool (!r))) L):=
  Hm fun a w β h5 hf=>by
    have h1:=hf.ev x
    have h2:=hf.ev y
    rw [hx] at h1; rw [hy] at h2
    have e1:=V.inv_scs h1
    have e2:=V.inv_scs h2
    refine⟨_,?_,.sc⟩
    have h3:=GG (10000 - m) m T (.agg vs.toArray) (.agg us.toArray) vs us r w hq (by unfold Reads; rw [if_pos h0]) (by unfold Reads; rw [if_pos h0])
    rw [Nat.sub_add_cancel (Nat.le_of_ble_eq_true hm)] at h3
    have h4:(binOp .neq T (.agg vs.toArray) (.agg us.toArray)).run P w=.ok (.bool (!r)) w:=by
      simp only [binOp,Op.equal,Op.maxDepth,Sem.run_bind,h3,Result.andThen_ok,Sem.run_pure]
    simp [execOp,ho,e1,e2,run_eqGuard_agg w .neq T x y _ _ hg,h4]
end
end Go.Proofs.YthkihfoleenlmaaGreat
