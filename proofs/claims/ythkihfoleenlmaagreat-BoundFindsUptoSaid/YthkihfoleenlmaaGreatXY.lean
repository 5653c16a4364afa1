/- Walks of functions. -/
import Derived.Test.YthkihfoleenlmaaGreatIsortL
import Derived.Test.YthkihfoleenlmaaGreatXL
import Derived.Test.YthkihfoleenlmaaGreatIsortL
set_option maxRecDepth 100000
set_option maxHeartbeats 1000000
set_option linter.unusedVariables false
set_option linter.unusedSimpArgs false
namespace Go.Proofs.YthkihfoleenlmaaGreat
open Go.RowKit XAF

def fkN (k i:Nat):Int:=((1000003*(k+7)+i:Nat):Int)
def mkM (k i:Nat):G5:=G5.mk (fkN k i) 0
def mkU (m:G5):AV:=.agg (G5.cs m)
def mkC (k i:Nat):List AV:=(mkU (mkM k i)).cells
theorem QN (k i:Nat):(mkC k i).length=2:=rfl
namespace SFF
theorem kX:sliceB Ej 63 137 1=true:=by kernel_rfl
theorem slL:sliceB Ej 137 139 2=true:=by kernel_rfl
theorem scL:Ja Ej 137=true:=by kernel_rfl
theorem szL:Rg Ej 137 1=true:=by kernel_rfl
theorem szT:Rg Ej 139 2=true:=by kernel_rfl
theorem elL:Qd Ej 137 1 24=true:=by kernel_rfl
theorem elT:Qd Ej 139 2 16=true:=by kernel_rfl
theorem zszT:Rr Ej 139 2=true:=by kernel_rfl
theorem Ja5:(Ej.info? 137).bind (fun i=>i.zero.map Value.cells)=some [Value.slice none 0 0].toArray:=by kernel_rfl
theorem Ja4:(Ej.info? 139).bind (fun i=>i.zero.map Value.cells)=some [E0,E0].toArray:=by kernel_rfl
theorem aggT:eY Ej 139 2=true:=by kernel_rfl
theorem agoT:aV Ej 139=true:=by kernel_rfl
theorem egT:Ej.eqGuardType Ej.depth 139=false:=by kernel_rfl
theorem clM:H8 Ej 209=true:=by kernel_rfl
theorem mixed:Ej.follows .mixedOrders=true:=by kernel_rfl
end SFF
open SFF
theorem sF (k i:Nat) (hk:k≤4000) (hi:i≤4000000):Pure Ej 209 [I64 (k:Int),I64 (i:Int)] (·=mkU (mkM k i)):=by
 refine fL (k:Int) (i:Int) (mkM k i) ?_
 have hm:Hi (k:Int) (i:Int)=some (fkN k i):=by
  unfold Hi
  rw [show (k:Int)+7=((k+7:Nat):Int) by omega,pY ⟨by omega,by omega⟩,show (1000003:Int)*((k+7:Nat):Int)=((1000003*(k+7):Nat):Int) by omega,pY ⟨by omega,by omega⟩,show ((1000003*(k+7):Nat):Int)+(i:Int)=fkN k i by unfold fkN; omega,pY ⟨by unfold fkN; omega,by unfold fkN; omega⟩]
 unfold Qy
 rw [hm]; rfl
theorem Jb4 (k i:Nat):pX Ej 4 139 [.int .i64 (mkM k i).Load,.int .i64 (mkM k i).Discharge] [.int .i64 (mkM k i).Load,.int .i64 (mkM k i).Discharge]=some true:=by
 rw [zJ]; exact congrArg some (Nr rfl)
section flt
variable {l:Fr} {H:Hp} {M:Loc} {o:Oper} {e:Raw}
theorem Hd1 (g:Raw):(RA g).flatOk=true:=by rcases g with _ | ⟨b,n,c⟩ <;> rfl
theorem zC {x:Operand} {k i m:Nat} (ho:o.op=.load 139 x) (hx:ev l x=PT (rb e) (i*2)) (hr:RdH 2 (mkC k) H e m) (him:i < m) (hm:m≤rn e):Gv Ej o l (HL 1000000000000 139 H++M) (Is (mkU (mkM k i)) (HL 1000000000000 139 H++M)):=
 J3b (f:=mkC k) (QN k) ho hx aggT hr him hm
theorem G72 {x y:Operand} {L:Loc} {T':TypeId} {k i:Nat} (ho:o.op=.binOp .eql 139 x y T') (hx:ev l x=mkU (mkM k i)) (hy:ev l y=mkU (mkM k i)):Gv Ej o l L (Is (BL true) L):=
 hY (vs:=[.int .i64 (mkM k i).Load,.int .i64 (mkM k i).Discharge]) (us:=[.int .i64 (mkM k i).Load,.int .i64 (mkM k i).Discharge]) 4 rfl (Jb4 k i) agoT egT ho hx hy
end flt
abbrev flM (H:Hp) (gs:List Raw):Loc:=HL 1000000000000 139 H++[(1115,.vec 137 1 0 (gs.map RA))]
abbrev flN (H:Hp) (xs:List G5) (gs:List Raw):Loc:=HL 1000000000000 139 H++[(1116,.vec 139 2 0 (xs.map mkU)),(1115,.vec 137 1 0 (gs.map RA))]
theorem dC {H:Hp} {gs:List Raw}:lk (flM H gs) 1115=some (.vec 137 1 0 (gs.map RA)):=Yo (by decide) H
theorem dP {H:Hp} {gs:List Raw}:(fun i=>(lk (flM H gs) i).isSome) 1115=true:=by show (lk (flM H gs) 1115).isSome=true; rw [dC]; rfl
theorem Jb2 {M:Loc} (h:∀ e∈M,e.1 < 1000000000000):∀ id,1000000000000≤id→lk M id=none:=fun id hid=>by
 induction M with
 | nil=>rfl
 | cons x r ih=>
  rw [show (x::r:Loc)=(x.1,x.2)::r from rfl,Gf,if_neg (by have:=h x (List.mem_cons_self ..); omega)]
  exact ih fun e he=>h e (List.mem_cons_of_mem _ he)
theorem J50 {gs:List Raw}:∀ id,1000000000000≤id→lk [(1115,Jn.vec 137 1 0 (gs.map RA))] id=none:=Jb2 fun e he=>by
 rcases Pc.1 he with rfl; show 1115 < 1000000000000; decide

abbrev Mw (es:List Raw):Fr:=[(0,Ea es),(5,.vec 1115 0 1 es.length)]
theorem Gcd (es:List Raw) (H0:Hp) (O0:Nat→Nat) (hlen:es.length≤1000) (hrn:∀ (j:Nat) e,es[j]? = some e→rn e≤1000000) (hok:∀ (j:Nat) e,es[j]? = some e→∀ b n c,e=some (b,n,c)→∃ cs,hg H0 b=some cs∧n≤c∧c≤maxLen∧cs.length=c*2)
  (hO:Ow O0 es) (hnd:(H0.map Prod.fst).Nodup):R5 Ej 160 [Ea es] (HL 1000000000000 139 H0++[]) (fun r L'=>r=BL true∧∃ H',L'=HL 1000000000000 139 H'++[]∧(H'.map Prod.fst).Nodup∧Bs H0 H'):=by
 refine dA (H0.map fun e=>1000000000000+e.1) [.tmp 2] Tryz.func160 ø ø G5f (Jr fun a7=>(JLm (BL false) ø (G7 (a7 (Rh (X:=Hp) (fun H=>(H.map Prod.fst).Nodup∧Bs H0 H∧IA 2 mkC es H es.length 0) (fun _=>[(0,Ea es)]) (fun H=>HL 1000000000000 139 H++[]) (fun KA eA=>?_) ?_)))))
 ·
  refine Jr fun m=>(JLm (I64 (0:Int)) ø (G7 (m (Gi (bX (X:=Nat×Hp) (fun q=>q.1≤es.length∧(q.2.map Prod.fst).Nodup∧Bs H0 q.2∧IA 2 mkC es q.2 q.1 0) (fun q=>[(0,Ea es),(3,I64 (q.1:Int))]) (fun q=>HL 1000000000000 139 q.2++[]) (fun q=>es.length - q.1) (0,H0) ⟨Nat.zero_le _,hnd,Bs.refl,IA.start hok⟩ (bQ hnd Bs.refl (.sm ø ø) þ) ?_)))))
  rintro⟨k,H⟩ ⟨hk,hn,hB,hI⟩ K3 o
  dsimp only at hk hn hB hI o ⊢
  refine Js fun s=>Jr fun t=>(JLm (I64 (k:Int)) ø (JLm (Ea es) ø (JLh (Ei es.length) (Q4 (f:=RA) (xs:=es) kX ø ø) ø (JLh (BL (decide ((k:Int) < (es.length:Int)))) (Ht ø ø ø) ø (G7 (t (Gm ø (fun hb=>?_) (fun hb=>?_))))))))
  ·
   have hkl:k < es.length:=by have:=Np hb; omega
   obtain⟨e,he⟩:∃ e,es[k]? = some e:=⟨_,Nu hkl⟩
   have hen:=hrn k e he
   refine Gn (s (Js fun v=>Gi (Jr fun w=>(JLm (I64 (0:Int)) ø (G7 (w (Gi (bX (X:=Nat×Hp) (fun q=>q.1≤rn e∧(q.2.map Prod.fst).Nodup∧Bs H0 q.2∧IA 2 mkC es q.2 k q.1) (fun q=>[(0,Ea es),(3,I64 (k:Int)),(4,I64 (q.1:Int))]) (fun q=>HL 1000000000000 139 q.2++[]) (fun q=>rn e - q.1) (0,H) ⟨Nat.zero_le _,hn,hB,hI⟩ (bQ hn hB (.sm ø ø) þ) ?_))))))))
   rintro⟨i,H⟩ ⟨hi,hn,hB,hI⟩ K8 x
   dsimp only at hi hn hB hI x ⊢
   refine Js fun a0=>Jr fun a=>(JLm (I64 (i:Int)) ø (JLm (Ea es) ø (JLm (I64 (k:Int)) ø (JLh (.dptr [RA e]) (Gs (f:=RA) (xs:=es) (y:=e) ø ø ø kX he ø) ø (JLh (RA e) (Gj scL ø ø ø) ø (JLh (I64 (rn e:Int)) (ZT ø slL ø) ø (JLh (BL (decide ((i:Int) < (rn e:Int)))) (Ht ø ø ø) ø (G7 (a (Gm ø (fun hb=>?_) (fun hb=>?_)))))))))))
   ·
    have hil:i < rn e:=by have:=Np hb; omega
    refine Gn (a0 (Js fun h=>Gi (Hd7 9 _ [] [0,0,0,0,0,0,0,0,0,0] [0,0,0,0,0,0,0,0,0,0] [HL 1000000000000 139 H++[]] mixed (by kernel_rfl) rfl rfl rfl (by kernel_rfl) rfl rfl (G9 (u:=Ea es) ø ø ⟨Gg (G3 ø ø) ø,þ⟩ (G9 (u:=I64 (k:Int)) ø ø ⟨Gg (G3 ø ø) ø,þ⟩ (G9 (u:=.dptr [RA e]) ø ø ⟨Gg (Gs (f:=RA) (xs:=es) (y:=e) ø ø ø kX he ø) ø,þ⟩ (G9 (u:=RA e) ø ø ⟨Gg (Gj scL ø ø ø) ø,þ⟩ (G9 (u:=I64 (i:Int)) ø ø ⟨Gg (G3 ø ø) ø,þ⟩ (G9 (u:=I64 (k:Int)) ø ø ⟨Gg (G3 ø ø) ø,þ⟩ (G9 (u:=I64 (i:Int)) ø ø ⟨Gg (G3 ø ø) ø,þ⟩ (G9 (u:=mkU (mkM k i)) rfl rfl ⟨Gg (Gq rfl (sF k i (by omega) (by omega)) clM ⟨rfl,rfl,rfl,rfl,þ⟩) rfl,þ⟩ (G9 (u:=PT (rb e) (i*2)) ø ø ⟨Gg (ZU ø ø ø slL ø hil) ø,þ⟩ (Ri ?_)))))))))))))
    refine Gdd ø ø (Ha1 (f:=mkC k) (u:=mkU (mkM k i)) (QN k) ø ø szT ø (hI.at_ he) hil (fun _ _=>ø) ø ø ø) ?_
    rintro _ _ ⟨rfl,H',rfl,hn',hs⟩
    refine G7 (h (G2 (JLm (I64 (i:Int)) ø (JLh (I64 ((i+1:Nat):Int)) (Hf (by rw [show (i:Int)+1=((i+1:Nat):Int) by omega]; exact cJ (by omega) (by omega)) rfl rfl rfl) ø (JLm (I64 ((i+1:Nat):Int)) ø (G7 (x _ _ (i+1,H') ⟨hil,hn',hB.st hs,hI.store hO he hil hs⟩ (by show rn e - (i+1) < rn e - i; omega) (bQ hn' (hB.st hs) (.sm ø ø) þ))))))))
   ·
    have hie:i=rn e:=by have:=Nq hb; omega
    subst hie
    refine H5 (v (G2 (JLm (I64 (k:Int)) ø (JLh (I64 ((k+1:Nat):Int)) (Hf (by rw [show (k:Int)+1=((k+1:Nat):Int) by omega]; exact cJ (by omega) (by omega)) rfl rfl rfl) ø (JLm (I64 ((k+1:Nat):Int)) ø (G7 (o _ _ (k+1,H) ⟨hkl,hn,hB,hI.next he⟩ (by show es.length - (k+1) < es.length - k; omega) (bQ hn hB (.sm ø ø) þ))))))))
  ·
   have hke:k=es.length:=by have:=Nq hb; omega
   subst hke
   refine H5 (eA _ _ H ⟨hn,hB,hI⟩ (bQ hn hB ⟨.same ø,þ⟩ þ))
 rintro H ⟨hn,hB,hI⟩
 replace hI:=hI.all
 refine Jr fun a5=>(JLm (Ea es) ø (JLh (Ei es.length) (Q4 (f:=RA) (xs:=es) kX ø ø) ø (JLh (.vec 1115 0 1 (List.replicate es.length (none:Raw)).length) (L':=flM H (List.replicate es.length none)) (Hea (eO 1115 (f:=RA) (none:Raw) [Value.slice none 0 0] rfl rfl rfl (Yo (by decide) H) kX elL Ja5 rfl rfl (Nr ⟨by omega,by simp only [maxLen]; omega,by omega⟩) ⟨.inl rfl,trivial⟩ rfl) rfl) ø ?_)))
 rw [List.length_replicate]
 refine JLm (.vec 1115 0 1 es.length) ø (G7 (a5 (Rh (X:=Hp×List Raw×(Nat→Nat)) (fun q=>(q.1.map Prod.fst).Nodup∧Bs H0 q.1∧IG 2 64 mkC es q.1 q.2.1 q.2.2 es.length) (fun _=>(Mw es)) (fun q=>flM q.1 q.2.1) (fun KA eA=>?_) ?_)))
 ·
  refine Jr fun m=>(JLm (I64 (0:Int)) ø (G7 (m (Gi (bX (X:=Nat×Hp×List Raw×(Nat→Nat)) (fun q=>q.1≤es.length∧(q.2.1.map Prod.fst).Nodup∧Bs H0 q.2.1∧IG 2 64 mkC es q.2.1 q.2.2.1 q.2.2.2 q.1) (fun q=>[(0,Ea es),(5,.vec 1115 0 1 es.length),(6,I64 (q.1:Int))]) (fun q=>flM q.2.1 q.2.2.1) (fun q=>es.length - q.1) (0,H,List.replicate es.length none,O0) ⟨Nat.zero_le _,hn,hB,⟨hO,hI,List.length_replicate,fun j g e hj=>absurd hj (Nat.not_lt_zero _)⟩⟩ (bQ hn hB ⟨.same ø,.same dP,.same ø,þ⟩ ⟨⟨_,dC,.vec⟩,þ⟩) ?_)))))
  rintro⟨k,H,gs,O⟩ ⟨hk,hn,hB,hI⟩ K3 o
  dsimp only at hk hn hB hI o ⊢
  refine Js fun s=>Jr fun t=>(JLm (I64 (k:Int)) ø (JLm (Ea es) ø (JLh (Ei es.length) (Q4 (f:=RA) (xs:=es) kX ø ø) ø (JLh (BL (decide ((k:Int) < (es.length:Int)))) (Ht ø ø ø) ø (G7 (t (Gm ø (fun hb=>?_) (fun hb=>?_))))))))
  ·
   have hkl:k < es.length:=by have:=Np hb; omega
   obtain⟨e,he⟩:∃ e,es[k]? = some e:=⟨_,Nu hkl⟩
   have hen:=hrn k e he
   refine Gn (s (Js fun v=>Gi (Jr fun w=>(JLm (Ea es) ø (JLm (I64 (k:Int)) ø (JLh (.dptr [RA e]) (Gs (f:=RA) (xs:=es) (y:=e) ø ø ø kX he ø) ø (JLh (RA e) (Gj scL ø ø ø) ø (JLm (RA e) ø (G7 (w (Rh (X:=Raw×Hp×(Nat→Nat)) (fun q=>(q.2.1.map Prod.fst).Nodup∧Bs H0 q.2.1∧IG 2 64 mkC es q.2.1 gs q.2.2 k∧rn q.1=rn e+64∧RdH 2 (mkC k) q.2.1 q.1 (rn q.1)∧∀ b n c,q.1=some (b,n,c)→q.2.2 b=k) (fun q=>[(0,Ea es),(5,.vec 1115 0 1 es.length),(6,I64 (k:Int)),(7,RA q.1)]) (fun q=>flM q.2.1 gs) (fun KB eB=>?_) ?_)))))))))))
   ·
    refine Jr fun a2=>(JLm (I64 (0:Int)) ø (G7 (a2 (Gi (bX (X:=Nat×Raw×Hp×(Nat→Nat)) (fun q=>q.1≤64∧(q.2.2.1.map Prod.fst).Nodup∧Bs H0 q.2.2.1∧IG 2 64 mkC es q.2.2.1 gs q.2.2.2 k∧rn q.2.1=rn e+q.1∧RdH 2 (mkC k) q.2.2.1 q.2.1 (rn q.2.1)∧∀ b n c,q.2.1=some (b,n,c)→q.2.2.2 b=k) (fun q=>[(0,Ea es),(5,.vec 1115 0 1 es.length),(6,I64 (k:Int)),(7,RA q.2.1),(8,I64 (q.1:Int))]) (fun q=>flM q.2.2.1 gs) (fun q=>64 - q.1) (0,e,H,O) ⟨Nat.zero_le _,hn,hB,hI,ø,hI.ls k e he,fun b n c hb=>hI.ow k e b n c he hb⟩ (bQ hn hB ⟨.same ø,.same dP,.same ø,.same ø,.same ø,þ⟩ ⟨⟨_,dC,.vec⟩,þ⟩) ?_)))))
    rintro⟨i,g,H,O⟩ ⟨hi,hn,hB,hI,hgl,hgr,hgo⟩ K8 x
    dsimp only at hi hn hB hI hgl hgr hgo x ⊢
    refine Js fun a0=>Jr fun a=>(JLm (I64 (i:Int)) ø (JLh (BL (decide ((i:Int) < 64))) (Ht ø ø ø) ø (G7 (a (Gm ø (fun hb=>?_) (fun hb=>?_))))))
    ·
     have hil:i < 64:=by have:=Np hb; omega
     refine Gn (a0 (Js fun h=>Gi (G2 (JLm (RA g) ø (JLm (I64 (k:Int)) ø (JLm (Ea es) ø (JLm (I64 (k:Int)) ø (JLh (.dptr [RA e]) (Gs (f:=RA) (xs:=es) (y:=e) ø ø ø kX he ø) ø (JLh (RA e) (Gj scL ø ø ø) ø (JLh (I64 (rn e:Int)) (ZT ø slL ø) ø (JLm (I64 (i:Int)) ø (JLh (I64 ((rn g:Nat):Int)) (Hf (by rw [show ((rn e:Nat):Int)+(i:Int)=((rn g:Nat):Int) by omega]; exact cJ (by omega) (by omega)) rfl rfl rfl) ø (JLh (mkU (mkM k (rn g))) (Gq rfl (sF k (rn g) (by omega) (by omega)) clM ⟨rfl,rfl,rfl,rfl,þ⟩) ø (JLh (.list 2 [mkU (mkM k (rn g))]) (Hn (xs:=[mkU (mkM k (rn g))]) ø ⟨ø,ø,þ⟩ slL zszT ø ø ø ø) ø ?_))))))))))))))
     refine hU rfl rfl rfl (H70 (ys:=[mkU (mkM k (rn g))]) rfl rfl rfl slL elT (fun y hy=>by rcases Pc.1 hy with rfl; rfl) rfl (Nat.lt_succ_self _) J50 hgr.own (by simp only [maxLen,P6]; omega) (by simp only [P6]; omega)) ?_
     rintro _ _ ⟨g',H',rfl,rfl,hn',ha⟩
     refine JLm (RA g') ø (G7 (h (G2 (JLm (I64 (i:Int)) ø (JLh (I64 ((i+1:Nat):Int)) (Hf (by rw [show (i:Int)+1=((i+1:Nat):Int) by omega]; exact cJ (by omega) (by omega)) rfl rfl rfl) ø (JLm (I64 ((i+1:Nat):Int)) ø (G7 ?_)))))))
     have hgl':=ha.len
     have hgr':=ha.next (QN k) hgr rfl
     have a8:rn g'=rn g+1:=hgl'
     exact x _ _ (i+1,g',H',fun b=>if b=rb g' then k else O b) ⟨hil,hn',hB.app ha,hI.app he (by omega) hgo ha,by show rn g'=rn e+(i+1); omega,by show RdH 2 (mkC k) H' g' (rn g'); rw [a8]; exact hgr',ha.own O k⟩ (by show 64 - (i+1) < 64 - i; omega) (bQ hn' (hB.app ha) ⟨.same rfl,.same dP,.same rfl,.same rfl,.same rfl,trivial⟩ ⟨⟨_,dC,.vec⟩,trivial⟩)
    ·
     have hie:i=64:=by have:=Nq hb; omega
     subst hie
     refine H5 (eB _ _ (g,H,O) ⟨hn,hB,hI,hgl,hgr,hgo⟩ (bQ hn hB ⟨.same ø,.same dP,.same ø,.same ø,þ⟩ ⟨⟨_,dC,.vec⟩,þ⟩))
   rintro⟨g,H,O⟩ ⟨hn,hB,hI,hgl,hgr,hgo⟩
   dsimp only at hn hB hI hgl hgr hgo ⊢
   obtain⟨y,hy⟩:∃ y,gs[k]? = some y:=⟨_,Nu (by rw [hI.len]; exact hkl)⟩
   refine G2 (JLm (.vec 1115 0 1 es.length) ø (JLm (I64 (k:Int)) ø (JLm (RA g) ø (JLh (.vptr 1115 0 k 0) (R2 (f:=RA) (xs:=gs) (y:=y) ø ø ø dC kX hy ø) ø (J7 (u:=.junk) (L':=HL 1000000000000 139 H++[(1115,.vec 137 1 0 ((gs.set k g).map RA)),(1115,.vec 137 1 0 (gs.map RA))]) (Hea (bR (f:=RA) (xs:=gs) (z:=g) szL rfl rfl rfl dC (by rw [hI.len]; exact hkl) (Hd1 g) rfl rfl rfl) rfl) (G7 (v (G2 (JLm (I64 (k:Int)) ø (JLh (I64 ((k+1:Nat):Int)) (Hf (by rw [show (k:Int)+1=((k+1:Nat):Int) by omega]; exact cJ (by omega) (by omega)) rfl rfl rfl) ø (JLm (I64 ((k+1:Nat):Int)) ø (G7 ?_))))))))))))
   exact o _ _ (k+1,H,gs.set k g,O) ⟨hkl,hn,hB,hI.set he hgl (by rw [← hgl]; exact hgr) hgo⟩ (by show es.length - (k+1) < es.length - k; omega) (bQ hn hB ⟨.same rfl,.same dP,.same rfl,þ⟩ ⟨⟨_,Yo (by decide) H,.vec⟩,þ⟩)
  ·
   have hke:k=es.length:=by have:=Nq hb; omega
   subst hke
   refine H5 (eA _ _ (H,gs,O) ⟨hn,hB,hI⟩ (bQ hn hB ⟨.same ø,.same dP,þ⟩ ⟨⟨_,dC,.vec⟩,þ⟩))
 rintro⟨H,gs,O⟩ ⟨hn,hB,hI⟩
 dsimp only at hn hB hI ⊢
 refine Rh (X:=Unit) (fun _=>True) (fun _=>(Mw es)) (fun _=>flM H gs) (fun KA eA=>?_) ?_
 ·
  refine Jr fun m=>(JLm (I64 (0:Int)) ø (G7 (m (Gi (bX (X:=Nat) (fun k=>k≤es.length) (fun k=>[(0,Ea es),(5,.vec 1115 0 1 es.length),(9,I64 (k:Int))]) (fun _=>flM H gs) (fun k=>es.length - k) 0 (Nat.zero_le _) (bQ hn hB ⟨.same ø,.same dP,.same ø,þ⟩ ⟨⟨_,dC,.vec⟩,þ⟩) ?_)))))
  intro k hk K3 o
  dsimp only at hk o ⊢
  refine Js fun s=>Jr fun t=>(JLm (I64 (k:Int)) ø (JLm (Ea es) ø (JLh (Ei es.length) (Q4 (f:=RA) (xs:=es) kX ø ø) ø (JLh (BL (decide ((k:Int) < (es.length:Int)))) (Ht ø ø ø) ø (G7 (t (Gm ø (fun hb=>?_) (fun hb=>?_))))))))
  ·
   have hkl:k < es.length:=by have:=Np hb; omega
   obtain⟨e,he⟩:∃ e,es[k]? = some e:=⟨_,Nu hkl⟩
   obtain⟨g,hg⟩:∃ g,gs[k]? = some g:=⟨_,Nu (by rw [hI.len]; exact hkl)⟩
   obtain⟨hgl,hgr,_⟩:=hI.gs k g e hkl hg he
   have hen:=hrn k e he
   have her:=hI.ls k e he
   refine Gn (s (Js fun v=>Gi (Jr fun w=>(JLm (I64 (0:Int)) ø (G7 (w (Gi (bX (X:=Nat) (fun i=>i≤rn g) (fun i=>[(0,Ea es),(5,.vec 1115 0 1 es.length),(9,I64 (k:Int)),(10,I64 (i:Int))]) (fun _=>flM H gs) (fun i=>rn g - i) 0 (Nat.zero_le _) (bQ hn hB ⟨.same ø,.same dP,.same ø,.same ø,þ⟩ ⟨⟨_,dC,.vec⟩,þ⟩) ?_))))))))
   intro i hi K8 x
   dsimp only at hi x ⊢
   refine Js fun a0=>Jr fun a=>(JLm (I64 (i:Int)) ø (JLm (.vec 1115 0 1 es.length) ø (JLm (I64 (k:Int)) ø (JLh (.vptr 1115 0 k 0) (R2 (f:=RA) (xs:=gs) (y:=g) ø ø ø dC kX hg ø) ø (JLh (RA g) (Zs (f:=RA) scL ø ø dC hg ø ø) ø (JLh (I64 (rn g:Int)) (ZT ø slL ø) ø (JLh (BL (decide ((i:Int) < (rn g:Int)))) (Ht ø ø ø) ø (G7 (a (Gm ø (fun hb=>?_) (fun hb=>?_)))))))))))
   ·
    have hil:i < rn g:=by have:=Np hb; omega
    refine Gn (a0 (Js fun h=>Gi (Js fun a1=>JC_d0 mixed (by kernel_rfl) (Dq (.vec 1115 0 1 es.length) (G3 ø ø) ø (Dq (I64 (k:Int)) (G3 ø ø) ø (Dq (.vptr 1115 0 k 0) (R2 (f:=RA) (xs:=gs) (y:=g) ø ø ø dC kX hg ø) ø (Dq (RA g) (Zs (f:=RA) scL ø ø dC hg ø ø) ø (Dq (I64 (i:Int)) (G3 ø ø) ø (Dq (PT (rb g) (i*2)) (ZU rfl rfl rfl slL rfl (by omega)) rfl (Dq (mkU (mkM k i)) (zC rfl rfl hgr (by omega) (by omega)) rfl (Dq (I64 (k:Int)) (G3 ø ø) ø (Dq (I64 (i:Int)) (G3 ø ø) ø (Dq (mkU (mkM k i)) (Gq (args:=[I64 (k:Int),I64 (i:Int)]) rfl (sF k i (by omega) (by omega)) clM ⟨rfl,rfl,rfl,rfl,þ⟩) rfl (Dq (BL true) (G72 ø ø ø) ø (Dq (BL (!true)) (Ym (b:=true) ø ø) ø (Dq (BL false) (G3 ø ø) ø ?_))))))))))))))))
    refine Dg (I64 (i:Int)) (gJ ø ø ø (.scf (b:=false)) (G3 ø ø)) ø (Dg (Ea es) (gJ ø ø ø (.scf (b:=false)) (G3 ø ø)) ø (Dg (I64 (k:Int)) (gJ ø ø ø (.scf (b:=false)) (G3 ø ø)) ø (Dg (.dptr [RA e]) (gJ ø ø ø (.scf (b:=false)) (Gs (f:=RA) (xs:=es) (y:=e) ø ø ø kX he ø)) ø (Dg (RA e) (gJ ø ø ø (.scf (b:=false)) (Gj scL ø ø ø)) ø (Dg (I64 (rn e:Int)) (gJ ø ø ø (.scf (b:=false)) (ZT ø slL ø)) ø (Dg (BL (decide ((i:Int) < ((rn e:Nat):Int)))) (gJ ø ø ø (.scf (b:=false)) (Ht ø ø ø)) ø (Dg (BL (decide ((i:Int) < ((rn e:Nat):Int)))) (gJ ø ø ø (.scf (b:=false)) (G3 ø ø)) ø (Do (Ea es) [] ø .sct þ (fun hc=>G3 ø ø) ø (Do (I64 (k:Int)) [] ø .sct þ (fun hc=>G3 ø ø) ø (Do (.dptr [RA e]) [109,110] ø .sct ⟨Ua,Ua,þ⟩ (fun hc=>Gs (f:=RA) (xs:=es) (y:=e) ø ø ø kX he ø) ø (Do (RA e) [111] ø .sct ⟨Ua,þ⟩ (fun hc=>Gj scL ø ø ø) ø (Do (I64 (i:Int)) [] ø .sct þ (fun hc=>G3 ø ø) ø (Do (PT (rb e) (i*2)) [112,113] rfl .sct ⟨Ua,Ua,þ⟩ (fun hc=>ZU rfl rfl rfl slL rfl (by have:=Np hc; omega)) rfl ?_)))))))))))))
    refine Do (mkU (mkM k i)) [114] rfl .sct ⟨Ua,þ⟩ (fun hc=>zC rfl rfl her (by have:=Np hc; omega) (by omega)) rfl (Do (I64 (k:Int)) [] ø .sct þ (fun hc=>G3 ø ø) ø (Do (I64 (i:Int)) [] ø .sct þ (fun hc=>G3 ø ø) ø (Do (mkU (mkM k i)) [116,117] rfl .sct ⟨Ua,Ua,þ⟩ (fun hc=>Gq (args:=[I64 (k:Int),I64 (i:Int)]) rfl (sF k i (by omega) (by omega)) clM ⟨rfl,rfl,rfl,rfl,þ⟩) rfl (Do (BL true) [115,118] ø .sct ⟨Ua,Ua,þ⟩ (fun hc=>G72 ø ø ø) ø (Do (BL (!true)) [119] ø .sct ⟨Ua,þ⟩ (fun hc=>Ym (b:=true) ø ø) ø (Dg (BL ((decide ((i:Int) < ((rn e:Nat):Int)))&&(!true))) (gJ ø ø ø (.scf (b:=false)) (Jf (b:=decide ((i:Int) < ((rn e:Nat):Int))) (d:=!true) ø ø ø ø)) ø (Dq (BL ((decide ((i:Int) < ((rn e:Nat):Int)))&&(!true))) (jT false ø ø ø) ø (Dnil (a1 ?_)))))))))
    refine Gm ø (fun hb=>?_) (fun hb=>?_)
    ·rw [Bool.not_true,Bool.and_false] at hb; cases hb
    ·
     refine Gn (h (G2 (JLm (I64 (i:Int)) ø (JLh (I64 ((i+1:Nat):Int)) (Hf (by rw [show (i:Int)+1=((i+1:Nat):Int) by omega]; exact cJ (by omega) (by omega)) rfl rfl rfl) ø (JLm (I64 ((i+1:Nat):Int)) ø (G7 (x _ _ (i+1) hil (by show rn g - (i+1) < rn g - i; omega) (bQ hn hB ⟨.same rfl,.same dP,.same rfl,.same rfl,þ⟩ ⟨⟨_,dC,.vec⟩,þ⟩))))))))
   ·
    refine H5 (v (G2 (JLm (I64 (k:Int)) ø (JLh (I64 ((k+1:Nat):Int)) (Hf (by rw [show (k:Int)+1=((k+1:Nat):Int) by omega]; exact cJ (by omega) (by omega)) rfl rfl rfl) ø (JLm (I64 ((k+1:Nat):Int)) ø (G7 (o _ _ (k+1) hkl (by show es.length - (k+1) < es.length - k; omega) (bQ hn hB ⟨.same rfl,.same dP,.same rfl,þ⟩ ⟨⟨_,dC,.vec⟩,þ⟩))))))))
  ·
   refine H5 (eA _ _ () þ (bQ hn hB ⟨.same ø,.same dP,þ⟩ ⟨⟨_,dC,.vec⟩,þ⟩))
 rintro⟨⟩ -
 refine Rh (X:=Hp×List Raw×(Nat→Nat)) (fun q=>(q.1.map Prod.fst).Nodup∧Bs H0 q.1∧IG 2 0 mkC es q.1 q.2.1 q.2.2 es.length) (fun _=>(Mw es)) (fun q=>flM q.1 q.2.1) (fun KA eA=>?_) ?_
 ·
  refine Jr fun m=>(JLm (I64 (0:Int)) ø (G7 (m (Gi (bX (X:=Nat×Hp×List Raw×(Nat→Nat)) (fun q=>q.1≤es.length∧(q.2.1.map Prod.fst).Nodup∧Bs H0 q.2.1∧IG 2 0 mkC es q.2.1 q.2.2.1 q.2.2.2 q.1) (fun q=>[(0,Ea es),(5,.vec 1115 0 1 es.length),(11,I64 (q.1:Int))]) (fun q=>flM q.2.1 q.2.2.1) (fun q=>es.length - q.1) (0,H,gs,O) ⟨Nat.zero_le _,hn,hB,hI.re⟩ (bQ hn hB ⟨.same ø,.same dP,.same ø,þ⟩ ⟨⟨_,dC,.vec⟩,þ⟩) ?_)))))
  rintro⟨k,H,gs,O⟩ ⟨hk,hn,hB,hI⟩ K3 o
  dsimp only at hk hn hB hI o ⊢
  refine Js fun s=>Jr fun t=>(JLm (I64 (k:Int)) ø (JLm (Ea es) ø (JLh (Ei es.length) (Q4 (f:=RA) (xs:=es) kX ø ø) ø (JLh (BL (decide ((k:Int) < (es.length:Int)))) (Ht ø ø ø) ø (G7 (t (Gm ø (fun hb=>?_) (fun hb=>?_))))))))
  ·
   have hkl:k < es.length:=by have:=Np hb; omega
   obtain⟨e,he⟩:∃ e,es[k]? = some e:=⟨_,Nu hkl⟩
   have hen:=hrn k e he
   refine Gn (s (Js fun v=>Gi (Jr fun w=>(JLh (.vec 1116 0 2 (List.replicate 64 (G5.mk 0 0:G5)).length) (L':=HL 1000000000000 139 H++((1116,.vec 139 2 0 ((List.replicate 64 (G5.mk 0 0:G5)).map mkU))::[(1115,.vec 137 1 0 (gs.map RA))])) (Hea (eO (n:=64) 1116 (f:=mkU) (G5.mk 0 0:G5) [E0,E0] rfl rfl rfl ((Yo (by decide) H).trans rfl) slL elT Ja4 rfl rfl rfl (⟨.inl rfl,.inl rfl,þ⟩) rfl) rfl) ø ?_))))
   rw [List.length_replicate]
   refine JLm (.vec 1116 0 2 64) ø (G7 (w (Rh (X:=List G5) (fun q=>q.length=64) (fun q=>[(0,Ea es),(5,.vec 1115 0 1 es.length),(11,I64 (k:Int)),(12,.vec 1116 0 2 64)]) (fun q=>flN H q gs) (fun KB eB=>?_) ?_)))
   ·
    refine Jr fun a2=>(JLm (I64 (0:Int)) ø (G7 (a2 (Gi ?_))))
    have hokM:∀ (q:List G5) (j:Nat),(j=1116∨j=1115)→(fun i=>(lk (flN H q gs) i).isSome) j=true:=fun q j hj=>by rcases hj with rfl | rfl <;> (show (lk _ _).isSome=true; rw [Yo (by decide)]; rfl)
    refine bX (X:=Nat×List G5) (fun q=>q.1≤64∧q.2.length=64) (fun q=>[(0,Ea es),(5,.vec 1115 0 1 es.length),(11,I64 (k:Int)),(12,.vec 1116 0 2 64),(13,I64 (q.1:Int))]) (fun q=>flN H q.2 gs) (fun q=>64 - q.1) (0,List.replicate 64 (G5.mk 0 0)) ⟨Nat.zero_le _,List.length_replicate⟩ (bQ hn hB ⟨.same rfl,.same (hokM (List.replicate 64 (G5.mk 0 0)) _ (.inr rfl)),.same rfl,.same (hokM (List.replicate 64 (G5.mk 0 0)) _ (.inl rfl)),.same rfl,þ⟩ ⟨⟨_,Yo (by decide) H,.vec⟩,⟨_,(Yo (by decide) H).trans rfl,.vec⟩,þ⟩) ?_
    rintro⟨i,xs⟩ ⟨hi,hxl⟩ K9 e9
    dsimp only at hi hxl e9 ⊢
    refine Js fun a=>Jr fun h=>(JLm (I64 (i:Int)) ø (JLh (BL (decide ((i:Int) < 64))) (Ht ø ø ø) ø (G7 (h (Gm ø (fun hb=>?_) (fun hb=>?_))))))
    ·
     have hil:i < 64:=by have:=Np hb; omega
     obtain⟨y,hy⟩:∃ y,xs[i]? = some y:=⟨_,Nu (by omega)⟩
     have hlm:lk (flN H xs gs) 1116=some (.vec 139 2 0 (xs.map mkU)):=Yo (by decide) H
     refine Gn (a (Js fun a1=>Gi (G2 ?_)))
     refine JLm (.vec 1116 0 2 64) ø (JLm (I64 (i:Int)) ø (JLm (I64 (k:Int)) ø (JLm (Ea es) ø (JLh (Ei es.length) (Q4 (f:=RA) (xs:=es) kX ø ø) ø (JLh (I64 ((k+es.length:Nat):Int)) (Hf (by rw [show (k:Int)+(es.length:Int)=((k+es.length:Nat):Int) by omega]; exact cJ (by omega) (by omega)) rfl rfl rfl) ø (JLm (I64 (i:Int)) ø (JLh (mkU (mkM (k+es.length) i)) (Gq rfl (sF (k+es.length) i (by omega) (by omega)) clM ⟨rfl,rfl,rfl,rfl,þ⟩) ø (JLh (.vptr 1116 0 i 0) (R2 (f:=mkU) (xs:=xs) (y:=y) ø ø ø hlm slL hy ø) ø (J7 (u:=.junk) (L':=HL 1000000000000 139 H++((1116,.vec 139 2 0 ((xs.set i (mkM (k+es.length) i)).map mkU))::[(1116,.vec 139 2 0 (xs.map mkU)),(1115,.vec 137 1 0 (gs.map RA))])) (Hea (bR (f:=mkU) (xs:=xs) (z:=mkM (k+es.length) i) szT rfl rfl rfl hlm (by omega) rfl rfl rfl rfl) rfl) (G7 (a1 ?_)))))))))))
     refine G2 (JLm (I64 (i:Int)) ø (JLh (I64 ((i+1:Nat):Int)) (Hf (by rw [show (i:Int)+1=((i+1:Nat):Int) by omega]; exact cJ (by omega) (by omega)) rfl rfl rfl) ø (JLm (I64 ((i+1:Nat):Int)) ø (G7 (e9 _ _ (i+1,xs.set i (mkM (k+es.length) i)) ⟨hil,by rw [List.length_set]; exact hxl⟩ (by show 64 - (i+1) < 64 - i; omega) (bQ hn hB ⟨.same rfl,.same (hokM (xs.set i (mkM (k+es.length) i)) _ (.inr rfl)),.same rfl,.same (hokM (xs.set i (mkM (k+es.length) i)) _ (.inl rfl)),.same rfl,trivial⟩ ⟨⟨_,Yo (by decide) H,.vec⟩,⟨_,(Yo (by decide) H).trans rfl,.vec⟩,trivial⟩))))))
    ·
     refine H5 (eB _ _ xs hxl (bQ hn hB ⟨.same rfl,.same (hokM xs _ (.inr rfl)),.same rfl,.same (hokM xs _ (.inl rfl)),þ⟩ ⟨⟨_,Yo (by decide) H,.vec⟩,⟨_,(Yo (by decide) H).trans rfl,.vec⟩,þ⟩))
   intro xs hxl
   have hfz:=bQ (p:=1000000000000) (E:=139) (l:=[]) (F:=[]) (M:=[(1116,Jn.vec 139 2 0 (xs.map mkU)),(1115,.vec 137 1 0 (gs.map RA))]) (M':=[(1115,.vec 137 1 0 (gs.map RA))]) hn hB trivial ⟨⟨_,(Yo (by decide) H).trans rfl,.vec⟩,trivial⟩
   refine xC [(0,Ea es),(5,.vec 1115 0 1 es.length),(11,I64 (k:Int)),(12,.list 2 (xs.map mkU))] (flM H gs) 1116 (Yo (by decide) H) ((Yo (by decide) H).trans rfl) hfz.loc hfz.base ⟨.conv (.same rfl),.conv (.same dP),.conv (.same rfl),.vec,þ⟩ ?_
   obtain⟨y,hy⟩:∃ y,gs[k]? = some y:=⟨_,Nu (by rw [hI.len]; exact hkl)⟩
   refine G2 (JLm (.vec 1115 0 1 es.length) ø (JLm (I64 (k:Int)) ø (JLm (Ea es) ø (JLm (I64 (k:Int)) ø (JLh (.dptr [RA e]) (Gs (f:=RA) (xs:=es) (y:=e) ø ø ø kX he ø) ø (JLh (RA e) (Gj scL ø ø ø) ø (JLm (.list 2 (xs.map mkU)) ø (hU rfl rfl rfl (H70 (e:=e) (ys:=xs.map mkU) rfl rfl rfl slL elT (fun y hy=>by obtain⟨z,_,rfl⟩:=Pb.1 hy; rfl) rfl (by rw [P9]; omega) J50 (hI.ls k e he).own (by simp only [maxLen,P9]; omega) (by simp only [P9]; omega)) ?_))))))))
   rintro _ _ ⟨g,H',rfl,rfl,hn',ha⟩
   have hgl:=ha.len
   rw [P9,hxl] at hgl
   have hI0:∀ g H',pH 2 H e (xs.map mkU) g H'→RdH 2 (mkC k) H' g (rn e+0):=fun g H' ha=>ha.old (QN k) (hI.ls k e he) (Ny)
   have hI:=hI.app he (Ny) (fun b n c hb=>hI.ow k e b n c he hb) ha
   refine JLh (.vptr 1115 0 k 0) (R2 (f:=RA) (xs:=gs) (y:=y) ø ø ø dC kX hy ø) ø (J7 (u:=.junk) (L':=HL 1000000000000 139 H'++[(1115,.vec 137 1 0 ((gs.set k g).map RA)),(1115,.vec 137 1 0 (gs.map RA))]) (Hea (bR (f:=RA) (xs:=gs) (z:=g) szL rfl rfl rfl dC (by rw [hI.len]; exact hkl) (Hd1 g) rfl rfl rfl) rfl) (G7 (v (G2 (JLm (I64 (k:Int)) ø (JLh (I64 ((k+1:Nat):Int)) (Hf (by rw [show (k:Int)+1=((k+1:Nat):Int) by omega]; exact cJ (by omega) (by omega)) rfl rfl rfl) ø (JLm (I64 ((k+1:Nat):Int)) ø (G7 (o _ _ (k+1,H',gs.set k g,_) ⟨hkl,hn',hB.app ha,hI.set he hgl (hI0 g H' ha) (ha.own O k)⟩ (by show es.length - (k+1) < es.length - k; omega) (bQ hn' (hB.app ha) ⟨.same rfl,.same dP,.same rfl,þ⟩ ⟨⟨_,Yo (by decide) H',.vec⟩,þ⟩))))))))))
  ·
   have hke:k=es.length:=by have:=Nq hb; omega
   subst hke
   refine H5 (eA _ _ (H,gs,O) ⟨hn,hB,hI⟩ (bQ hn hB ⟨.same ø,.same dP,þ⟩ ⟨⟨_,dC,.vec⟩,þ⟩))
 rintro⟨H,gs,O⟩ ⟨hn,hB,hI⟩
 dsimp only at hn hB hI ⊢
 refine Rh (X:=Unit) (fun _=>True) (fun _=>(Mw es)) (fun _=>flM H gs) (fun KA eA=>?_) ?_
 ·
  refine Jr fun m=>(JLm (I64 (0:Int)) ø (G7 (m (Gi (bX (X:=Nat) (fun k=>k≤es.length) (fun k=>[(0,Ea es),(5,.vec 1115 0 1 es.length),(14,I64 (k:Int))]) (fun _=>flM H gs) (fun k=>es.length - k) 0 (Nat.zero_le _) (bQ hn hB ⟨.same ø,.same dP,.same ø,þ⟩ ⟨⟨_,dC,.vec⟩,þ⟩) ?_)))))
  intro k hk K3 o
  dsimp only at hk o ⊢
  refine Js fun s=>Jr fun t=>(JLm (I64 (k:Int)) ø (JLm (Ea es) ø (JLh (Ei es.length) (Q4 (f:=RA) (xs:=es) kX ø ø) ø (JLh (BL (decide ((k:Int) < (es.length:Int)))) (Ht ø ø ø) ø (G7 (t (Gm ø (fun hb=>?_) (fun hb=>?_))))))))
  ·
   have hkl:k < es.length:=by have:=Np hb; omega
   obtain⟨e,he⟩:∃ e,es[k]? = some e:=⟨_,Nu hkl⟩
   obtain⟨g,hg⟩:∃ g,gs[k]? = some g:=⟨_,Nu (by rw [hI.len]; exact hkl)⟩
   obtain⟨hgl,hgr,_⟩:=hI.gs k g e hkl hg he
   have hen:=hrn k e he
   have her:=hI.ls k e he
   refine Gn (s (Js fun v=>Gi (Jr fun w=>(JLm (I64 (0:Int)) ø (G7 (w (Gi (bX (X:=Nat) (fun i=>i≤rn e) (fun i=>[(0,Ea es),(5,.vec 1115 0 1 es.length),(14,I64 (k:Int)),(15,I64 (i:Int))]) (fun _=>flM H gs) (fun i=>rn e - i) 0 (Nat.zero_le _) (bQ hn hB ⟨.same ø,.same dP,.same ø,.same ø,þ⟩ ⟨⟨_,dC,.vec⟩,þ⟩) ?_))))))))
   intro i hi K8 x
   dsimp only at hi x ⊢
   refine Js fun a0=>Jr fun a=>(JLm (I64 (i:Int)) ø (JLm (Ea es) ø (JLm (I64 (k:Int)) ø (JLh (.dptr [RA e]) (Gs (f:=RA) (xs:=es) (y:=e) ø ø ø kX he ø) ø (JLh (RA e) (Gj scL ø ø ø) ø (JLh (I64 (rn e:Int)) (ZT ø slL ø) ø (JLh (BL (decide ((i:Int) < (rn e:Int)))) (Ht ø ø ø) ø (G7 (a (Gm ø (fun hb=>?_) (fun hb=>?_)))))))))))
   ·
    have hil:i < rn e:=by have:=Np hb; omega
    refine Gn (a0 (Js fun h=>Gi (Js fun a1=>JC_d0 mixed (by kernel_rfl) (Dq (Ea es) (G3 ø ø) ø (Dq (I64 (k:Int)) (G3 ø ø) ø (Dq (.dptr [RA e]) (Gs (f:=RA) (xs:=es) (y:=e) ø ø ø kX he ø) ø (Dq (RA e) (Gj scL ø ø ø) ø (Dq (I64 (i:Int)) (G3 ø ø) ø (Dq (PT (rb e) (i*2)) (ZU rfl rfl rfl slL rfl (by omega)) rfl (Dq (mkU (mkM k i)) (zC rfl rfl her (by omega) (by omega)) rfl (Dq (I64 (k:Int)) (G3 ø ø) ø (Dq (I64 (i:Int)) (G3 ø ø) ø (Dq (mkU (mkM k i)) (Gq (args:=[I64 (k:Int),I64 (i:Int)]) rfl (sF k i (by omega) (by omega)) clM ⟨rfl,rfl,rfl,rfl,þ⟩) rfl (Dq (BL true) (G72 ø ø ø) ø (Dq (BL (!true)) (Ym (b:=true) ø ø) ø (Dq (BL false) (G3 ø ø) ø ?_))))))))))))))))
    refine Dg (.vec 1115 0 1 es.length) (gJ ø ø ø (.scf (b:=false)) (G3 ø ø)) ø (Dg (I64 (k:Int)) (gJ ø ø ø (.scf (b:=false)) (G3 ø ø)) ø (Dg (.vptr 1115 0 k 0) (gJ ø ø ø (.scf (b:=false)) (R2 (f:=RA) (xs:=gs) (y:=g) ø ø ø dC kX hg ø)) ø (Dg (RA g) (gJ ø ø ø (.scf (b:=false)) (Zs (f:=RA) scL ø ø dC hg ø ø)) ø (Dg (I64 (i:Int)) (gJ ø ø ø (.scf (b:=false)) (G3 ø ø)) ø (Dg (PT (rb g) (i*2)) (gJ rfl rfl rfl (.scf (b:=false)) (ZU rfl rfl rfl slL rfl (by omega))) rfl (Dg (mkU (mkM k i)) (gJ rfl rfl rfl (.scf (b:=false)) (zC rfl rfl hgr (by omega) (by omega))) rfl (Dg (I64 (k:Int)) (gJ ø ø ø (.scf (b:=false)) (G3 ø ø)) ø (Dg (I64 (i:Int)) (gJ ø ø ø (.scf (b:=false)) (G3 ø ø)) ø (Dg (mkU (mkM k i)) (gJ rfl rfl rfl (.scf (b:=false)) (Gq (args:=[I64 (k:Int),I64 (i:Int)]) rfl (sF k i (by omega) (by omega)) clM ⟨rfl,rfl,rfl,rfl,þ⟩)) rfl (Dg (BL true) (gJ ø ø ø (.scf (b:=false)) (G72 ø ø ø)) ø (Dg (BL (!true)) (gJ ø ø ø (.scf (b:=false)) (Ym (b:=true) ø ø)) ø (Dq (BL false) (jT false ø ø ø) ø (Dnil ?_)))))))))))))
    refine a1 (Gm ø (fun hb=>?_) (fun hb=>?_))
    ·cases hb
    ·
     refine Gn (h (G2 (JLm (I64 (i:Int)) ø (JLh (I64 ((i+1:Nat):Int)) (Hf (by rw [show (i:Int)+1=((i+1:Nat):Int) by omega]; exact cJ (by omega) (by omega)) rfl rfl rfl) ø (JLm (I64 ((i+1:Nat):Int)) ø (G7 (x _ _ (i+1) hil (by show rn e - (i+1) < rn e - i; omega) (bQ hn hB ⟨.same rfl,.same dP,.same rfl,.same rfl,þ⟩ ⟨⟨_,dC,.vec⟩,þ⟩))))))))
   ·
    refine H5 (v (G2 (JLm (I64 (k:Int)) ø (JLh (I64 ((k+1:Nat):Int)) (Hf (by rw [show (k:Int)+1=((k+1:Nat):Int) by omega]; exact cJ (by omega) (by omega)) rfl rfl rfl) ø (JLm (I64 ((k+1:Nat):Int)) ø (G7 (o _ _ (k+1) hkl (by show es.length - (k+1) < es.length - k; omega) (bQ hn hB ⟨.same rfl,.same dP,.same rfl,þ⟩ ⟨⟨_,dC,.vec⟩,þ⟩))))))))
  ·
   refine H5 (eA _ _ () þ (bQ hn hB ⟨.same ø,.same dP,þ⟩ ⟨⟨_,dC,.vec⟩,þ⟩))
 rintro⟨⟩ -
 refine Jr fun a6=>(JLm (BL true) ø (G7 (a6 ?_)))
 have hfz:=bQ (p:=1000000000000) (E:=139) (l:=[]) (F:=[]) (M:=[(1115,Jn.vec 137 1 0 (gs.map RA))]) (M':=[]) hn hB trivial trivial
 refine Gt (⟨[BL true],HL 1000000000000 139 H++[],hfz.loc,hfz.base,⟨⟨_,ø,.conv (.same ø)⟩,þ⟩,ø,H,ø,hn,hB⟩)
end Go.Proofs.YthkihfoleenlmaaGreat
