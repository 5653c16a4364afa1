/-
 Rows of slices,filled and appended to one by one: The library's insertion sort,as the extractor's model has it
-/
import Derived.Test.YthkihfoleenlmaaGreatHp
import Derived.Test.YthkihfoleenlmaaGreatExt
namespace Go.Proofs.YthkihfoleenlmaaGreat
open Go.RowKit
set_option linter.unusedVariables false
set_option linter.unusedSimpArgs false

theorem H2.re {P:Program} {o:Oper} {l:Fr} {L:Loc} {R R':AV→Loc→Prop} (h:H2 P o l L R) (hr:∀ u L',R u L'→∃ L'',R' u L''/\kH L' L''):H2 P o l L R':=fun a w β K Q hs hf hK=>
 h a w β K Q hs hf fun u L' v w' J' hR h0 st hv=>by
  obtain⟨L'',h1,e⟩:=hr u L' hR
  exact hK u L'' v w' J' h1 (h0.locEq e) (st.locEq e) (hv.locEq e)
structure WrR (k:Nat) (f:Nat→List AV) (H:Hp) (e:Raw) (i:Nat) (H':Hp):Prop where
 rd:RdH k f H' e (i+1)
 oth:∀ b,b≠rb e→hg H' b=hg H b
 some:∀ b,(hg H b).isSome=true→(hg H' b).isSome=true
section ops
variable {P:Program} {o:Oper} {l:Fr} {L M:Loc} {p E k:Nat} {H:Hp} {e:Raw}
theorem J13 {f:Nat→List AV} {x y:Operand} {T i:Nat} {u:AV} (hf:∀ i,(f i).length=k) (ho:o.op=.store T x y) (hx:ev l x=PT (rb e) (i*k)) (hT:Rc P T k=true) (hu:ev l y=u) (hr:RdH k f H e i) (hi:i < rn e) (hM:∀ id,p≤id→lk M id=none) (hc:u.flatOk=true) (hd:Ys (fun _=>false) u.cells=true) (h0:u.cells=f i) :
  H2 P o l (HL p E H++M) (fun u' L'=>u'=.junk/\∃ H',L'=HL p E H'++M/\(H'.map Prod.fst).Nodup/\WrR k f H e i H'):=
 (J57 hf ho hx hT hu hr hi hc hd h0).re fun u' L' hR=>by
  obtain⟨h1,cs',rfl,h2,h3⟩:=hR
  refine⟨_,⟨h1,_,rfl,G20 _,h2.dd,fun b hb=>?_,fun b hb=>?_⟩,H20 hM⟩
  .rw [G8a,gH,if_neg (Ne.symm hb)]
  .rw [G8a,gH]
   split
   .rfl
   .exact hb
theorem qQ.dd {e':Raw} {H':Hp} {ys:List AV} (h:qQ k H e ys e' H'):qQ k H e ys e' (dd H'):=by
 obtain⟨b',c',cs',h0,hH,h1⟩:=h
 exact⟨b',c',cs',h0,fun b=>(G8a b H').trans (hH b),h1⟩
theorem Hd5 {s x:Operand} {T by_ kx:Nat} {ys:List AV} (ho:o.op=.call { callee:=.builtin .append,args:=#[s,x],argTypes:=#[T,T] }) (hs:ev l s=RA e) (hx:Jz (ev l x)=some (kx,ys)) (hT:sliceB P T E k=true) (hE:Qo P E k by_=true) (h0:∀ y∈ys,y.flatOk=true) (hk:kx=k) (h3:0 < ys.length)
  (hM:∀ id,p≤id→lk M id=none) (hr:∀ b n c,e=some (b,n,c)→∃ cs,hg H b=some cs/\n≤c/\c≤maxLen/\cs.length=c*k) (h4:rn e+ys.length≤maxLen) (hb:(rn e+ys.length)*by_≤140737488355328) :
  H2 P o l (HL p E H++M) (fun u' L'=>∃ e' H',u'=RA e'/\L'=HL p E H'++M/\(H'.map Prod.fst).Nodup/\qQ k H e ys e' H'):=
 (Q01 ho hs hx hT hE h0 hk h3 hM hr h4 hb).re fun u' L' hR=>by
  obtain⟨e',H',h1,rfl,h2⟩:=hR
  exact⟨_,⟨e',_,h1,rfl,G20 _,h2.dd⟩,H20 hM⟩
end ops
theorem RdH.own {k:Nat} {f:Nat→List AV} {H:Hp} {e:Raw} {m:Nat} (h:RdH k f H e m):∀ b n c,e=some (b,n,c)→∃ cs,hg H b=some cs/\n≤c/\c≤maxLen/\cs.length=c*k:=fun b n c he=>by
 obtain⟨cs,h1,h2,h3,h4,_⟩:=h b n c he
 exact⟨cs,h1,h2,h3,h4⟩
theorem RdH.st {k:Nat} {f g:Nat→List AV} {H H':Hp} {e e2:Raw} {m i:Nat} (h:RdH k f H e2 m) (hs:WrR k g H e i H') (hb:∀ b n c,e2=some (b,n,c)→b≠rb e):RdH k f H' e2 m:=fun b n c he=>by
 obtain⟨cs,h1,h2⟩:=h b n c he
 exact⟨cs,(hs.oth b (hb b n c he)).trans h1,h2⟩
def Ow (O:Nat→Nat) (es:List Raw):Prop:=∀ (j:Nat) e b n c,es[j]? = some e→e=some (b,n,c)→O b=j
def IA (K:Nat) (mk:Nat→Nat→List AV) (es:List Raw) (H:Hp) (k i:Nat):Prop:=∀ (j:Nat) e,es[j]? = some e→RdH K (mk j) H e (if j < k then rn e else if j=k then i else 0)
section ia
variable {K:Nat} {mk:Nat→Nat→List AV} {es:List Raw} {H H':Hp} {O:Nat→Nat} {k i:Nat} {e:Raw}
theorem IA.start (h:∀ (j:Nat) e,es[j]? = some e→∀ b n c,e=some (b,n,c)→∃ cs,hg H b=some cs/\n≤c/\c≤maxLen/\cs.length=c*K):IA K mk es H 0 0:=fun j e he b n c hb=>by
 obtain⟨cs,h1,h2,h3,h4⟩:=h j e he b n c hb
 refine⟨cs,h1,h2,h3,h4,?_⟩
 rw [if_neg (Nat.not_lt_zero _)]
 split <;> simp [pre]
theorem IA.at_ (h:IA K mk es H k i) (he:es[k]? = some e):RdH K (mk k) H e i:=by
 have:=h k e he
 rwa [if_neg (Nat.lt_irrefl _),if_pos rfl] at this
theorem IA.store (h:IA K mk es H k i) (hO:Ow O es) (he:es[k]? = some e) (hi:i < rn e) (hs:WrR K (mk k) H e i H'):IA K mk es H' k (i+1):=fun j e2 h0=>by
 by_cases hj:j=k
 .subst hj
  rw [he] at h0; cases h0
  rw [if_neg (Nat.lt_irrefl _),if_pos rfl]; exact hs.rd
 .have:=h j e2 h0
  rw [if_neg hj] at this ⊢
  refine this.st hs fun b n c hb h1=>hj ?_
  rcases e with _ | ⟨b0,n0,c0⟩
  .exact absurd hi (Nat.not_lt_zero _)
  .rw [← hO j e2 b n c h0 hb,← hO k _ b0 n0 c0 he rfl]
   exact congrArg O h1
theorem IA.next (h:IA K mk es H k (rn e)) (he:es[k]? = some e):IA K mk es H (k+1) 0:=fun j e2 h0=>by
 have:=h j e2 h0
 by_cases hj:j=k
 .subst hj
  rw [he] at h0; cases h0
  rw [if_neg (Nat.lt_irrefl _),if_pos rfl] at this
  rwa [if_pos (Nat.lt_succ_self _)]
 .rw [if_neg hj] at this
  by_cases h2:j < k
  .rw [if_pos h2] at this; rwa [if_pos (by omega)]
  .rw [if_neg h2] at this
   rw [if_neg (by omega)]
   split <;> exact this
theorem IA.all (h:IA K mk es H es.length 0):∀ (j:Nat) e,es[j]? = some e→RdH K (mk j) H e (rn e):=fun j e he=>by
 have:=h j e he
 rwa [if_pos (Pa he).1] at this
end ia
structure IG (K q:Nat) (mk:Nat→Nat→List AV) (es:List Raw) (H:Hp) (gs:List Raw) (O:Nat→Nat) (k:Nat):Prop where
 ow:Ow O es
 ls:∀ (j:Nat) e,es[j]? = some e→RdH K (mk j) H e (rn e)
 len:gs.length=es.length
 gs:∀ (j:Nat) g e,j < k→gs[j]? = some g→es[j]? = some e→rn g=rn e+64/\RdH K (mk j) H g (rn e+q)/\∀ b n c,g=some (b,n,c)→O b=j
section ig
variable {K q:Nat} {mk:Nat→Nat→List AV} {es:List Raw} {H H':Hp} {gs:List Raw} {O:Nat→Nat} {k:Nat} {e g0 g':Raw} {ys:List AV}
theorem IG.app (h:IG K q mk es H gs O k) (he:es[k]? = some e) (h5:rn e≤rn g0) (h4:∀ b n c,g0=some (b,n,c)→O b=k) (ha:qQ K H g0 ys g' H'):IG K q mk es H' gs (fun b=>if b=rb g' then k else O b) k where
 ow:=fun j e2 b n c h0 hb=>ha.owner (O:=O) h4 (h.ls j e2 h0).isSome (fun b n c hb=>h.ow j e2 b n c h0 hb) b n c hb
 ls:=fun j e2 h0=>ha.rd (h.ls j e2 h0) fun b n c n' c' h1 h2=>by
  have hj:j=k:=by rw [← h.ow j e2 b n c h0 h1,← h4 b n' c' h2]
  subst hj
  rw [he] at h0; cases h0; exact h5
 len:=h.len
 gs:=fun j g e2 hj h6 h0=>by
  obtain⟨h1,h2,h3⟩:=h.gs j g e2 hj h6 h0
  refine⟨h1,ha.rd h2 fun b n c n' c' q1 q2=>?_,fun b n c hb=>ha.owner (O:=O) h4 h2.isSome h3 b n c hb⟩
  have:j=k:=by rw [← h3 b n c q1,← h4 b n' c' q2]
  omega
theorem IG.set (h:IG K q mk es H gs O k) (he:es[k]? = some e) (hn:rn g'=rn e+64) (hr:RdH K (mk k) H g' (rn e+q)) (ho:∀ b n c,g'=some (b,n,c)→O b=k):IG K q mk es H (gs.set k g') O (k+1) where
 ow:=h.ow
 ls:=h.ls
 len:=by rw [List.length_set]; exact h.len
 gs:=fun j g e2 hj h0 h1=>by
  by_cases h2:k=j
  .subst h2
   rw [he] at h1; cases h1
   rw [List.getElem?_set_self (by rw [h.len]; exact(Pa he).1)] at h0
   cases h0
   exact⟨hn,hr,ho⟩
  .rw [List.getElem?_set_ne h2] at h0
   exact h.gs j g e2 (by omega) h0 h1
theorem IG.re {q':Nat} (h:IG K q mk es H gs O k):IG K q' mk es H gs O 0:=⟨h.ow,h.ls,h.len,fun j g e hj=>absurd hj (Nat.not_lt_zero _)⟩
end ig
def Bs (H0 H:Hp):Prop:=∀ e∈H0,(hg H e.1).isSome=true
theorem Bs.refl {H0:Hp}:Bs H0 H0:=fun e he=>by
 induction H0 with
 | nil=>cases he
 | cons x r ih=>
  rw [show (x::r:Hp)=(x.1,x.2)::r from rfl,gH]
  split
  .rfl
  .rename_i h0
   rcases Pv.1 he with rfl | he
   .exact absurd rfl h0
   .exact ih he
theorem Bs.st {H0 H H':Hp} {k:Nat} {f:Nat→List AV} {e:Raw} {i:Nat} (h:Bs H0 H) (hs:WrR k f H e i H'):Bs H0 H':=fun e he=>hs.some _ (h e he)
theorem Bs.app {H0 H H':Hp} {k:Nat} {e e':Raw} {ys:List AV} (h:Bs H0 H) (hs:qQ k H e ys e' H'):Bs H0 H':=fun e he=>hs.some (h e he)
theorem dC {p E:Nat} {H0 H:Hp} {M M':Loc} {l F:Fr} (hn:(H.map Prod.fst).Nodup) (hB:Bs H0 H) (hF:lD (fun i=>(lk (HL p E H++M') i).isSome) l F) (hM:bQ (fun i=>(lk (HL p E H++M') i).isSome) (HL p E H++M) M'):Fits (H0.map fun e=>p+e.1) l (HL p E H++M) F (HL p E H++M'):=
 ⟨hF,GY hn (fun b cs h=>lJ h) hM,HD fun e he=>by
  obtain⟨cs,h0⟩:=Ny (hB e he)
  rw [lJ h0]; rfl⟩
theorem J35 {p E id:Nat} {H:Hp} {M:Loc} {o:Jn} (h:id < p):kH ((id,o)::(HL p E H++M)) (HL p E H++((id,o)::M)):=fun j=>by
 rw [Gm]
 by_cases e:id=j
 .subst e; rw [if_pos rfl,Za h,Gm,if_pos rfl]
 .rw [if_neg e]
  rcases P4 j p with hj | hj
  .rw [Za hj,Za hj,Gm,if_neg e]
  .obtain⟨b,rfl⟩:∃ b,j=p+b:=⟨j - p,by omega⟩
   rw [RH,RH]
   split
   .rfl
   .rw [Gm,if_neg e]
theorem J5f {P:Program} {o:Oper} {l:Fr} {p E id:Nat} {H:Hp} {M:Loc} {u:AV} {x:Jn} (h:H2 P o l (HL p E H++M) (Is u ((id,x)::(HL p E H++M)))) (hid:Nat.blt id p=true):H2 P o l (HL p E H++M) (Is u (HL p E H++((id,x)::M))):=
 h.re fun u' L' hR=>by
  obtain⟨rfl,rfl⟩:=hR
  exact⟨_,⟨rfl,rfl⟩,J35 (by simpa [Nat.blt_eq] using hid)⟩
theorem Gb0 {p E:Nat} {H0:Hp}:∀ id,(lk (HL p E H0++[]) id).isSome=true→id∈H0.map fun e=>p+e.1:=by
 induction H0 with
 | nil=>intro id h; cases h
 | cons x r ih=>
  intro id h
  have h:(lk ((p+x.1,.pin E x.1 x.2)::(HL p E r++[])) id).isSome=true:=h
  rw [Gm] at h
  by_cases e:p+x.1=id
  .exact Pv.2 (.inl e.symm)
  .rw [if_neg e] at h
   exact List.mem_cons_of_mem _ (ih id h)
theorem J45 {P:Program} {N:Cfg} {ops:Array Oper} {o:Oper} {rest:List Oper} {Q:Post} {l:Fr} {L:Loc} {R:AV→Loc→Prop} {j dj d:Nat} {want:Bool} {gv:AV} (hg:o.guard=some (j,want)) (hj:(ops[j]?).bind (·.dst)=some dj) (h2:look l dj=gv) (h3:tH gv want true) (h:H2 P o l L R)
  (hk:∀ u L',R u L'→JL P N ops rest Q ((d,u)::l) L') (hd:o.dst=some d) (hn:Nat.blt d N.n=true) (h4:Nat.blt dj N.n=true) (h5:dR o=true:=by rfl):JL P N ops (o::rest) Q l L:=by
 subst h2
 intro n w0 β0 L0 a w β hs
 have hw:=h3.wanted (ops:=ops) hs.frame (P0 (by simpa [Nat.blt_eq] using h4) hs.size) hg hj
 have h6:d < a.tmps.size:=P0 (by simpa [Nat.blt_eq] using hn) hs.size
 refine wpListIn_step fun K hK=>?_
 rw [hw,if_pos rfl]
 refine gM h5 (h a w β K _ hs.sat hs.frame ?_)
 intro u L' v w' J' hr h1 h0 hv
 rw [hd]
 exact hK _ _ (hk u L' hr n w0 β0 L0 _ w' J' ⟨h1,hs.step.trans h0,(hs.frame.step h0).put h6 hv,by rw [Act.put_size]; exact hs.size,hs.base,by rw [Act.put_defers']; exact hs.defers.step h0⟩)
def H40 (l:Fr):List Operand→List AV→Prop
 | [],[]=>True
 | x::r,u::s=>ev l x=u/\H40 l r s
 | _,_=>False
theorem H40.get {l:Fr}:∀ {xs:List Operand} {us:List AV},H40 l xs us→xs.length=us.length/\∀ (j:Nat) x u,xs[j]? = some x→us[j]? = some u→ev l x=u
 | [],[],_=>⟨rfl,fun j x u hx=>by simp at hx⟩
 | y::r,v::s,h=>by
  obtain⟨h1,h2⟩:=H40.get h.2
  refine⟨by simp [h1],fun j x u hx hu=>?_⟩
  cases j with
  | zero=>cases hx; cases hu; exact h.1
  | succ j=>exact h2 j x u hx hu
 | [],_::_,h=>h.elim
 | _::_,[],h=>h.elim
theorem JV {P:Program} {o:Oper} {l:Fr} {L:Loc} {f:FuncId} {xs:List Operand} {args:List AV} {ts:Array TypeId} {R:AV→Loc→Prop} (ho:o.op=.call { callee:=.value (.func f),args:=xs.toArray,argTypes:=ts }) (hc:Rb P f args L R) (hB:H7 P f=true) (ha:H40 l xs args):H2 P o l L R:=by
 intro a w β K Q h0 hf hK
 have hr:(execOp a.eval o).run P w=.ok (.enter f (xs.toArray.map a.eval)) w:=by
  simp [execOp,ho,resolve,Act.eval,Deferred.ofValue,invoke,H7.out hB]
 unfold Oper.wp
 rw [hr]
 obtain⟨g1,g2⟩:=ha.get
 refine(hc w β (xs.toArray.map a.eval) h0 (by simp [g1]) (fun j u v hu hv=>?_)).mono fun e w' h=>?_
 .simp only [Array.getElem?_map,List.getElem?_toArray,Option.map_eq_some_iff] at hv
  obtain⟨x,hx,rfl⟩:=hv
  rw [← g2 j x u hx hu]; exact hf.ev x
 .obtain⟨v,r,J',L',rfl,h1,h2,h3,h4⟩:=h
  exact hK r L' v w' J' h4 h1 h2 h3

section isort
variable {J:Type}
theorem rV {β:Type} {z:Int} {k:Int→Option β} (h : -9223372036854775808≤z/\z≤9223372036854775807):chk z k=k z:=by
 unfold chk H26
 rw [P8 h.1,P8 h.2]; rfl
end isort

end Go.Proofs.YthkihfoleenlmaaGreat
