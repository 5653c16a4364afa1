/- Walks of functions. -/
import Derived.Test.YthkihfoleenlmaaGreatIsortL
import Derived.Test.YthkihfoleenlmaaGreatXL
import Derived.Test.YthkihfoleenlmaaGreatIsortL
set_option maxRecDepth 100000
set_option maxHeartbeats 1000000
set_option linter.unusedVariables false
set_option linter.unusedSimpArgs false
namespace Go.Proofs.YthkihfoleenlmaaGreat
open Go.RowKit

def fkN (k i:Nat):Int:=((1000003*(k+7)+i:Nat):Int)
def mkM (k i:Nat):Int:=fkN k i
def mkU (m:Int):AV:=I64 m
def mkC (k i:Nat):List AV:=(mkU (mkM k i)).cells
theorem Ga6 (k i:Nat):(mkC k i).length=1:=rfl
namespace SFF
theorem mG:sliceB Ek 35 51 1=true:=by kernel_rfl
theorem slL:sliceB Ek 51 3 1=true:=by kernel_rfl
theorem scL:Jc Ek 51=true:=by kernel_rfl
theorem szL:Rc Ek 51 1=true:=by kernel_rfl
theorem szT:Rc Ek 3 1=true:=by kernel_rfl
theorem elL:Qo Ek 51 1 24=true:=by kernel_rfl
theorem elT:Qo Ek 3 1 8=true:=by kernel_rfl
theorem zszT:Yf Ek 3 1=true:=by kernel_rfl
theorem Q20:(Ek.info? 51).bind (fun i=>i.zero.map Value.cells)=some [Value.slice none 0 0].toArray:=by kernel_rfl
theorem Q1f:(Ek.info? 3).bind (fun i=>i.zero.map Value.cells)=some [E0].toArray:=by kernel_rfl
theorem scT:Jc Ek 3=true:=by kernel_rfl
theorem clM:H7 Ek 95=true:=by kernel_rfl
theorem mixed:Ek.follows .mixedOrders=true:=by kernel_rfl
end SFF
open SFF
theorem uL (k i:Nat) (hk:k≤4000) (hi:i≤4000000):Pure Ek 95 [I64 (k:Int),I64 (i:Int)] (·=mkU (mkM k i)):=by
 refine J0 (k:Int) (i:Int) (mkM k i) ?_
 have hm:Ho (k:Int) (i:Int)=some (fkN k i):=by
  unfold Ho
  rw [show (k:Int)+7=((k+7:Nat):Int) by omega,rV ⟨by omega,by omega⟩,show (1000003:Int)*((k+7:Nat):Int)=((1000003*(k+7):Nat):Int) by omega,rV ⟨by omega,by omega⟩,show ((1000003*(k+7):Nat):Int)+(i:Int)=fkN k i by unfold fkN; omega,rV ⟨by unfold fkN; omega,by unfold fkN; omega⟩]
 exact hm

section flt
variable {l:Fr} {H:Hp} {M:Loc} {o:Oper} {e:Raw}
theorem J40 (g:Raw):(RA g).flatOk=true:=by rcases g with _ | ⟨b,n,c⟩ <;> rfl
theorem HI {x:Operand} {k i m:Nat} (ho:o.op=.load 3 x) (hx:ev l x=PT (rb e) (i*1)) (hr:RdH 1 (mkC k) H e m) (him:i < m) (hm:m≤rn e):H2 Ek o l (HL 1000000000000 3 H++M) (Is (mkU (mkM k i)) (HL 1000000000000 3 H++M)):=
 J58 (f:=mkC k) (g:=fun i=>mkU (mkM k i)) (fun i=>rfl) ho hx scT hr him hm
theorem Gc3 {x y:Operand} {L:Loc} {T':TypeId} {k i:Nat} (ho:o.op=.binOp .eql 3 x y T') (hx:ev l x=mkU (mkM k i)) (hy:ev l y=mkU (mkM k i)):H2 Ek o l L (Is (BL true) L):=
 by
  have h:=Qc (P:=Ek) (o:=o) (l:=l) (L:=L) ho hx hy
  rwa [P8 rfl] at h
end flt
abbrev flM (H:Hp) (gs:List Raw):Loc:=HL 1000000000000 3 H++[(1154,.vec 51 1 0 (gs.map RA))]
abbrev flN (H:Hp) (xs:List Int) (gs:List Raw):Loc:=HL 1000000000000 3 H++[(1155,.vec 3 1 0 (xs.map mkU)),(1154,.vec 51 1 0 (gs.map RA))]
theorem eT {H:Hp} {gs:List Raw}:lk (flM H gs) 1154=some (.vec 51 1 0 (gs.map RA)):=Za (by decide) H
theorem eY {H:Hp} {gs:List Raw}:(fun i=>(lk (flM H gs) i).isSome) 1154=true:=by show (lk (flM H gs) 1154).isSome=true; rw [eT]; rfl
theorem Q2c {M:Loc} (h:∀ e∈M,e.1 < 1000000000000):∀ id,1000000000000≤id→lk M id=none:=fun id hid=>by
 induction M with
 | nil=>rfl
 | cons x r ih=>
  rw [show (x::r:Loc)=(x.1,x.2)::r from rfl,Gm,if_neg (by have:=h x (List.mem_cons_self ..); omega)]
  exact ih fun e he=>h e (List.mem_cons_of_mem _ he)
theorem Jcc {gs:List Raw}:∀ id,1000000000000≤id→lk [(1154,Jn.vec 51 1 0 (gs.map RA))] id=none:=Q2c fun e he=>by
 rcases Pu.1 he with rfl; show 1154 < 1000000000000; decide

abbrev N6 (es:List Raw):Fr:=[(0,Ea es),(5,.vec 1154 0 1 es.length)]
theorem Hfe (es:List Raw) (H0:Hp) (O0:Nat→Nat) (hlen:es.length≤1000) (hrn:∀ (j:Nat) e,es[j]? = some e→rn e≤1000000) (hok:∀ (j:Nat) e,es[j]? = some e→∀ b n c,e=some (b,n,c)→∃ cs,hg H0 b=some cs/\n≤c/\c≤maxLen/\cs.length=c*1)
  (hO:Ow O0 es) (hnd:(H0.map Prod.fst).Nodup):Rb Ek 144 [Ea es] (HL 1000000000000 3 H0++[]) (fun r L'=>r=BL true/\∃ H',L'=HL 1000000000000 3 H'++[]/\(H'.map Prod.fst).Nodup/\Bs H0 H'):=by
 refine fL (H0.map fun e=>1000000000000+e.1) [.tmp 2] Tryz.func144 G G Gb0 (Jr fun a7=>(JLm (BL false) G (G5 (a7 (Zc (X:=Hp) (fun H=>(H.map Prod.fst).Nodup/\Bs H0 H/\IA 1 mkC es H es.length 0) (fun _=>[(0,Ea es)]) (fun H=>HL 1000000000000 3 H++[]) (fun KA eA=>?_) ?_)))))
 ·
  refine Jr fun m=>(JLm (I64 (0:Int)) G (G5 (m (Gf (dP (X:=Nat×Hp) (fun q=>q.1≤es.length/\(q.2.map Prod.fst).Nodup/\Bs H0 q.2/\IA 1 mkC es q.2 q.1 0) (fun q=>[(0,Ea es),(3,I64 (q.1:Int))]) (fun q=>HL 1000000000000 3 q.2++[]) (fun q=>es.length - q.1) (0,H0) ⟨Nat.zero_le _,hnd,Bs.refl,IA.start hok⟩ (dC hnd Bs.refl (.sm G G) U) ?_)))))
  rintro⟨k,H⟩ ⟨hk,hn,hB,hI⟩ K3 o
  dsimp only at hk hn hB hI o ⊢
  refine Js fun s=>Jr fun t=>(JLm (I64 (k:Int)) G (JLm (Ea es) G (JLh (Ej es.length) (Q8 (f:=RA) (xs:=es) mG G G) G (JLh (BL (decide ((k:Int) < (es.length:Int)))) (Hr G G G) G (G5 (t (Gg G (fun hb=>?_) (fun hb=>?_))))))))
  ·
   have hkl:k < es.length:=by have:=P6 hb; omega
   obtain⟨e,he⟩:∃ e,es[k]? = some e:=⟨_,Pb hkl⟩
   have hen:=hrn k e he
   refine Gn (s (Js fun v=>Gf (Jr fun w=>(JLm (I64 (0:Int)) G (G5 (w (Gf (dP (X:=Nat×Hp) (fun q=>q.1≤rn e/\(q.2.map Prod.fst).Nodup/\Bs H0 q.2/\IA 1 mkC es q.2 k q.1) (fun q=>[(0,Ea es),(3,I64 (k:Int)),(4,I64 (q.1:Int))]) (fun q=>HL 1000000000000 3 q.2++[]) (fun q=>rn e - q.1) (0,H) ⟨Nat.zero_le _,hn,hB,hI⟩ (dC hn hB (.sm G G) U) ?_))))))))
   rintro⟨i,H⟩ ⟨hi,hn,hB,hI⟩ K8 x
   dsimp only at hi hn hB hI x ⊢
   refine Js fun a0=>Jr fun a=>(JLm (I64 (i:Int)) G (JLm (Ea es) G (JLm (I64 (k:Int)) G (JLh (.dptr [RA e]) (Gr (f:=RA) (xs:=es) (y:=e) G G G mG he G) G (JLh (RA e) (Ge scL G G G) G (JLh (I64 (rn e:Int)) (G3e G slL G) G (JLh (BL (decide ((i:Int) < (rn e:Int)))) (Hr G G G) G (G5 (a (Gg G (fun hb=>?_) (fun hb=>?_)))))))))))
   ·
    have hil:i < rn e:=by have:=P6 hb; omega
    refine Gn (a0 (Js fun h=>Gf (J4b 9 _ [] [0,0,0,0,0,0,0,0,0,0] [0,0,0,0,0,0,0,0,0,0] [HL 1000000000000 3 H++[]] mixed (by kernel_rfl) rfl rfl rfl (by kernel_rfl) rfl rfl (G8 (u:=Ea es) G G ⟨Gp (G3 G G) G,U⟩ (G8 (u:=I64 (k:Int)) G G ⟨Gp (G3 G G) G,U⟩ (G8 (u:=.dptr [RA e]) G G ⟨Gp (Gr (f:=RA) (xs:=es) (y:=e) G G G mG he G) G,U⟩ (G8 (u:=RA e) G G ⟨Gp (Ge scL G G G) G,U⟩ (G8 (u:=I64 (i:Int)) G G ⟨Gp (G3 G G) G,U⟩ (G8 (u:=I64 (k:Int)) G G ⟨Gp (G3 G G) G,U⟩ (G8 (u:=I64 (i:Int)) G G ⟨Gp (G3 G G) G,U⟩ (G8 (u:=mkU (mkM k i)) rfl rfl ⟨Gp (Gi rfl (uL k i (by omega) (by omega)) clM ⟨rfl,rfl,rfl,rfl,U⟩) rfl,U⟩ (G8 (u:=PT (rb e) (i*1)) G G ⟨Gp (G3f G G G slL G hil) G,U⟩ (Rk ?_)))))))))))))
    refine H3b G G (J13 (f:=mkC k) (u:=mkU (mkM k i)) (Ga6 k) G G szT G (hI.at_ he) hil (fun _ _=>G) G G G) ?_
    rintro _ _ ⟨rfl,H',rfl,hn',hs⟩
    refine G5 (h (G1 (JLm (I64 (i:Int)) G (JLh (I64 ((i+1:Nat):Int)) (Hs (by rw [show (i:Int)+1=((i+1:Nat):Int) by omega]; exact dV (by omega) (by omega)) rfl rfl rfl) G (JLm (I64 ((i+1:Nat):Int)) G (G5 (x _ _ (i+1,H') ⟨hil,hn',hB.st hs,hI.store hO he hil hs⟩ (by show rn e - (i+1) < rn e - i; omega) (dC hn' (hB.st hs) (.sm G G) U))))))))
   ·
    have hie:i=rn e:=by have:=P7 hb; omega
    subst hie
    refine H9 (v (G1 (JLm (I64 (k:Int)) G (JLh (I64 ((k+1:Nat):Int)) (Hs (by rw [show (k:Int)+1=((k+1:Nat):Int) by omega]; exact dV (by omega) (by omega)) rfl rfl rfl) G (JLm (I64 ((k+1:Nat):Int)) G (G5 (o _ _ (k+1,H) ⟨hkl,hn,hB,hI.next he⟩ (by show es.length - (k+1) < es.length - k; omega) (dC hn hB (.sm G G) U))))))))
  ·
   have hke:k=es.length:=by have:=P7 hb; omega
   subst hke
   refine H9 (eA _ _ H ⟨hn,hB,hI⟩ (dC hn hB ⟨.same G,U⟩ U))
 rintro H ⟨hn,hB,hI⟩
 replace hI:=hI.all
 refine Jr fun a5=>(JLm (Ea es) G (JLh (Ej es.length) (Q8 (f:=RA) (xs:=es) mG G G) G (JLh (.vec 1154 0 1 (List.replicate es.length (none:Raw)).length) (L':=flM H (List.replicate es.length none)) (J5f (H42 1154 (f:=RA) (none:Raw) [Value.slice none 0 0] rfl rfl rfl (Za (by decide) H) mG elL Q20 rfl rfl (P8 ⟨by omega,by simp only [maxLen]; omega,by omega⟩) ⟨.inl rfl,trivial⟩ rfl) rfl) G ?_)))
 rw [List.length_replicate]
 refine JLm (.vec 1154 0 1 es.length) G (G5 (a5 (Zc (X:=Hp×List Raw×(Nat→Nat)) (fun q=>(q.1.map Prod.fst).Nodup/\Bs H0 q.1/\IG 1 64 mkC es q.1 q.2.1 q.2.2 es.length) (fun _=>(N6 es)) (fun q=>flM q.1 q.2.1) (fun KA eA=>?_) ?_)))
 ·
  refine Jr fun m=>(JLm (I64 (0:Int)) G (G5 (m (Gf (dP (X:=Nat×Hp×List Raw×(Nat→Nat)) (fun q=>q.1≤es.length/\(q.2.1.map Prod.fst).Nodup/\Bs H0 q.2.1/\IG 1 64 mkC es q.2.1 q.2.2.1 q.2.2.2 q.1) (fun q=>[(0,Ea es),(5,.vec 1154 0 1 es.length),(6,I64 (q.1:Int))]) (fun q=>flM q.2.1 q.2.2.1) (fun q=>es.length - q.1) (0,H,List.replicate es.length none,O0) ⟨Nat.zero_le _,hn,hB,⟨hO,hI,List.length_replicate,fun j g e hj=>absurd hj (Nat.not_lt_zero _)⟩⟩ (dC hn hB ⟨.same G,.same eY,.same G,U⟩ ⟨⟨_,eT,.vec⟩,U⟩) ?_)))))
  rintro⟨k,H,gs,O⟩ ⟨hk,hn,hB,hI⟩ K3 o
  dsimp only at hk hn hB hI o ⊢
  refine Js fun s=>Jr fun t=>(JLm (I64 (k:Int)) G (JLm (Ea es) G (JLh (Ej es.length) (Q8 (f:=RA) (xs:=es) mG G G) G (JLh (BL (decide ((k:Int) < (es.length:Int)))) (Hr G G G) G (G5 (t (Gg G (fun hb=>?_) (fun hb=>?_))))))))
  ·
   have hkl:k < es.length:=by have:=P6 hb; omega
   obtain⟨e,he⟩:∃ e,es[k]? = some e:=⟨_,Pb hkl⟩
   have hen:=hrn k e he
   refine Gn (s (Js fun v=>Gf (Jr fun w=>(JLm (Ea es) G (JLm (I64 (k:Int)) G (JLh (.dptr [RA e]) (Gr (f:=RA) (xs:=es) (y:=e) G G G mG he G) G (JLh (RA e) (Ge scL G G G) G (JLm (RA e) G (G5 (w (Zc (X:=Raw×Hp×(Nat→Nat)) (fun q=>(q.2.1.map Prod.fst).Nodup/\Bs H0 q.2.1/\IG 1 64 mkC es q.2.1 gs q.2.2 k/\rn q.1=rn e+64/\RdH 1 (mkC k) q.2.1 q.1 (rn q.1)/\∀ b n c,q.1=some (b,n,c)→q.2.2 b=k) (fun q=>[(0,Ea es),(5,.vec 1154 0 1 es.length),(6,I64 (k:Int)),(7,RA q.1)]) (fun q=>flM q.2.1 gs) (fun KB eB=>?_) ?_)))))))))))
   ·
    refine Jr fun a2=>(JLm (I64 (0:Int)) G (G5 (a2 (Gf (dP (X:=Nat×Raw×Hp×(Nat→Nat)) (fun q=>q.1≤64/\(q.2.2.1.map Prod.fst).Nodup/\Bs H0 q.2.2.1/\IG 1 64 mkC es q.2.2.1 gs q.2.2.2 k/\rn q.2.1=rn e+q.1/\RdH 1 (mkC k) q.2.2.1 q.2.1 (rn q.2.1)/\∀ b n c,q.2.1=some (b,n,c)→q.2.2.2 b=k) (fun q=>[(0,Ea es),(5,.vec 1154 0 1 es.length),(6,I64 (k:Int)),(7,RA q.2.1),(8,I64 (q.1:Int))]) (fun q=>flM q.2.2.1 gs) (fun q=>64 - q.1) (0,e,H,O) ⟨Nat.zero_le _,hn,hB,hI,G,hI.ls k e he,fun b n c hb=>hI.ow k e b n c he hb⟩ (dC hn hB ⟨.same G,.same eY,.same G,.same G,.same G,U⟩ ⟨⟨_,eT,.vec⟩,U⟩) ?_)))))
    rintro⟨i,g,H,O⟩ ⟨hi,hn,hB,hI,hgl,hgr,hgo⟩ K8 x
    dsimp only at hi hn hB hI hgl hgr hgo x ⊢
    refine Js fun a0=>Jr fun a=>(JLm (I64 (i:Int)) G (JLh (BL (decide ((i:Int) < 64))) (Hr G G G) G (G5 (a (Gg G (fun hb=>?_) (fun hb=>?_))))))
    ·
     have hil:i < 64:=by have:=P6 hb; omega
     refine Gn (a0 (Js fun h=>Gf (G1 (JLm (RA g) G (JLm (I64 (k:Int)) G (JLm (Ea es) G (JLm (I64 (k:Int)) G (JLh (.dptr [RA e]) (Gr (f:=RA) (xs:=es) (y:=e) G G G mG he G) G (JLh (RA e) (Ge scL G G G) G (JLh (I64 (rn e:Int)) (G3e G slL G) G (JLm (I64 (i:Int)) G (JLh (I64 ((rn g:Nat):Int)) (Hs (by rw [show ((rn e:Nat):Int)+(i:Int)=((rn g:Nat):Int) by omega]; exact dV (by omega) (by omega)) rfl rfl rfl) G (JLh (mkU (mkM k (rn g))) (Gi rfl (uL k (rn g) (by omega) (by omega)) clM ⟨rfl,rfl,rfl,rfl,U⟩) G (JLh (.list 1 [mkU (mkM k (rn g))]) (Hf (xs:=[mkU (mkM k (rn g))]) G ⟨G,G,U⟩ slL zszT G G G G) G ?_))))))))))))))
     refine uV rfl rfl rfl (Hd5 (ys:=[mkU (mkM k (rn g))]) rfl rfl rfl slL elT (fun y hy=>by rcases Pu.1 hy with rfl; rfl) rfl (Nat.lt_succ_self _) Jcc hgr.own (by simp only [maxLen,Po]; omega) (by simp only [Po]; omega)) ?_
     rintro _ _ ⟨g',H',rfl,rfl,hn',ha⟩
     refine JLm (RA g') G (G5 (h (G1 (JLm (I64 (i:Int)) G (JLh (I64 ((i+1:Nat):Int)) (Hs (by rw [show (i:Int)+1=((i+1:Nat):Int) by omega]; exact dV (by omega) (by omega)) rfl rfl rfl) G (JLm (I64 ((i+1:Nat):Int)) G (G5 ?_)))))))
     have hgl':=ha.len
     have hgr':=ha.next (Ga6 k) hgr rfl
     have a8:rn g'=rn g+1:=hgl'
     exact x _ _ (i+1,g',H',fun b=>if b=rb g' then k else O b) ⟨hil,hn',hB.app ha,hI.app he (by omega) hgo ha,by show rn g'=rn e+(i+1); omega,by show RdH 1 (mkC k) H' g' (rn g'); rw [a8]; exact hgr',ha.own O k⟩ (by show 64 - (i+1) < 64 - i; omega) (dC hn' (hB.app ha) ⟨.same rfl,.same eY,.same rfl,.same rfl,.same rfl,trivial⟩ ⟨⟨_,eT,.vec⟩,trivial⟩)
    ·
     have hie:i=64:=by have:=P7 hb; omega
     subst hie
     refine H9 (eB _ _ (g,H,O) ⟨hn,hB,hI,hgl,hgr,hgo⟩ (dC hn hB ⟨.same G,.same eY,.same G,.same G,U⟩ ⟨⟨_,eT,.vec⟩,U⟩))
   rintro⟨g,H,O⟩ ⟨hn,hB,hI,hgl,hgr,hgo⟩
   dsimp only at hn hB hI hgl hgr hgo ⊢
   obtain⟨y,hy⟩:∃ y,gs[k]? = some y:=⟨_,Pb (by rw [hI.len]; exact hkl)⟩
   refine G1 (JLm (.vec 1154 0 1 es.length) G (JLm (I64 (k:Int)) G (JLm (RA g) G (JLh (.vptr 1154 0 k 0) (fK (f:=RA) (xs:=gs) (y:=y) G G G eT mG hy G) G (J7 (u:=.junk) (L':=HL 1000000000000 3 H++[(1154,.vec 51 1 0 ((gs.set k g).map RA)),(1154,.vec 51 1 0 (gs.map RA))]) (J5f (xS (f:=RA) (xs:=gs) (z:=g) szL rfl rfl rfl eT (by rw [hI.len]; exact hkl) (J40 g) rfl rfl rfl) rfl) (G5 (v (G1 (JLm (I64 (k:Int)) G (JLh (I64 ((k+1:Nat):Int)) (Hs (by rw [show (k:Int)+1=((k+1:Nat):Int) by omega]; exact dV (by omega) (by omega)) rfl rfl rfl) G (JLm (I64 ((k+1:Nat):Int)) G (G5 ?_))))))))))))
   exact o _ _ (k+1,H,gs.set k g,O) ⟨hkl,hn,hB,hI.set he hgl (by rw [← hgl]; exact hgr) hgo⟩ (by show es.length - (k+1) < es.length - k; omega) (dC hn hB ⟨.same rfl,.same eY,.same rfl,U⟩ ⟨⟨_,Za (by decide) H,.vec⟩,U⟩)
  ·
   have hke:k=es.length:=by have:=P7 hb; omega
   subst hke
   refine H9 (eA _ _ (H,gs,O) ⟨hn,hB,hI⟩ (dC hn hB ⟨.same G,.same eY,U⟩ ⟨⟨_,eT,.vec⟩,U⟩))
 rintro⟨H,gs,O⟩ ⟨hn,hB,hI⟩
 dsimp only at hn hB hI ⊢
 refine Zc (X:=Unit) (fun _=>True) (fun _=>(N6 es)) (fun _=>flM H gs) (fun KA eA=>?_) ?_
 ·
  refine Jr fun m=>(JLm (I64 (0:Int)) G (G5 (m (Gf (dP (X:=Nat) (fun k=>k≤es.length) (fun k=>[(0,Ea es),(5,.vec 1154 0 1 es.length),(9,I64 (k:Int))]) (fun _=>flM H gs) (fun k=>es.length - k) 0 (Nat.zero_le _) (dC hn hB ⟨.same G,.same eY,.same G,U⟩ ⟨⟨_,eT,.vec⟩,U⟩) ?_)))))
  intro k hk K3 o
  dsimp only at hk o ⊢
  refine Js fun s=>Jr fun t=>(JLm (I64 (k:Int)) G (JLm (Ea es) G (JLh (Ej es.length) (Q8 (f:=RA) (xs:=es) mG G G) G (JLh (BL (decide ((k:Int) < (es.length:Int)))) (Hr G G G) G (G5 (t (Gg G (fun hb=>?_) (fun hb=>?_))))))))
  ·
   have hkl:k < es.length:=by have:=P6 hb; omega
   obtain⟨e,he⟩:∃ e,es[k]? = some e:=⟨_,Pb hkl⟩
   obtain⟨g,hg⟩:∃ g,gs[k]? = some g:=⟨_,Pb (by rw [hI.len]; exact hkl)⟩
   obtain⟨hgl,hgr,_⟩:=hI.gs k g e hkl hg he
   have hen:=hrn k e he
   have her:=hI.ls k e he
   refine Gn (s (Js fun v=>Gf (Jr fun w=>(JLm (I64 (0:Int)) G (G5 (w (Gf (dP (X:=Nat) (fun i=>i≤rn g) (fun i=>[(0,Ea es),(5,.vec 1154 0 1 es.length),(9,I64 (k:Int)),(10,I64 (i:Int))]) (fun _=>flM H gs) (fun i=>rn g - i) 0 (Nat.zero_le _) (dC hn hB ⟨.same G,.same eY,.same G,.same G,U⟩ ⟨⟨_,eT,.vec⟩,U⟩) ?_))))))))
   intro i hi K8 x
   dsimp only at hi x ⊢
   refine Js fun a0=>Jr fun a=>(JLm (I64 (i:Int)) G (JLm (.vec 1154 0 1 es.length) G (JLm (I64 (k:Int)) G (JLh (.vptr 1154 0 k 0) (fK (f:=RA) (xs:=gs) (y:=g) G G G eT mG hg G) G (JLh (RA g) (jF (f:=RA) scL G G eT hg G G) G (JLh (I64 (rn g:Int)) (G3e G slL G) G (JLh (BL (decide ((i:Int) < (rn g:Int)))) (Hr G G G) G (G5 (a (Gg G (fun hb=>?_) (fun hb=>?_)))))))))))
   ·
    have hil:i < rn g:=by have:=P6 hb; omega
    refine Gn (a0 (Js fun h=>Gf (Js fun a1=>JC_d0 mixed (by kernel_rfl) (Dq (.vec 1154 0 1 es.length) (G3 G G) G (Dq (I64 (k:Int)) (G3 G G) G (Dq (.vptr 1154 0 k 0) (fK (f:=RA) (xs:=gs) (y:=g) G G G eT mG hg G) G (Dq (RA g) (jF (f:=RA) scL G G eT hg G G) G (Dq (I64 (i:Int)) (G3 G G) G (Dq (PT (rb g) (i*1)) (G3f rfl rfl rfl slL rfl (by omega)) rfl (Dq (mkU (mkM k i)) (HI rfl rfl hgr (by omega) (by omega)) rfl (Dq (I64 (k:Int)) (G3 G G) G (Dq (I64 (i:Int)) (G3 G G) G (Dq (mkU (mkM k i)) (Gi (args:=[I64 (k:Int),I64 (i:Int)]) rfl (uL k i (by omega) (by omega)) clM ⟨rfl,rfl,rfl,rfl,U⟩) rfl (Dq (BL true) (Gc3 G G G) G (Dq (BL (!true)) (Qj (b:=true) G G) G (Dq (BL false) (G3 G G) G ?_))))))))))))))))
    refine Dg (I64 (i:Int)) (iQ G G G (.scf (b:=false)) (G3 G G)) G (Dg (Ea es) (iQ G G G (.scf (b:=false)) (G3 G G)) G (Dg (I64 (k:Int)) (iQ G G G (.scf (b:=false)) (G3 G G)) G (Dg (.dptr [RA e]) (iQ G G G (.scf (b:=false)) (Gr (f:=RA) (xs:=es) (y:=e) G G G mG he G)) G (Dg (RA e) (iQ G G G (.scf (b:=false)) (Ge scL G G G)) G (Dg (I64 (rn e:Int)) (iQ G G G (.scf (b:=false)) (G3e G slL G)) G (Dg (BL (decide ((i:Int) < ((rn e:Nat):Int)))) (iQ G G G (.scf (b:=false)) (Hr G G G)) G (Dg (BL (decide ((i:Int) < ((rn e:Nat):Int)))) (iQ G G G (.scf (b:=false)) (G3 G G)) G (Do (Ea es) [] G .sct U (fun hc=>G3 G G) G (Do (I64 (k:Int)) [] G .sct U (fun hc=>G3 G G) G (Do (.dptr [RA e]) [109,110] G .sct ⟨Ua,Ua,U⟩ (fun hc=>Gr (f:=RA) (xs:=es) (y:=e) G G G mG he G) G (Do (RA e) [111] G .sct ⟨Ua,U⟩ (fun hc=>Ge scL G G G) G (Do (I64 (i:Int)) [] G .sct U (fun hc=>G3 G G) G (Do (PT (rb e) (i*1)) [112,113] rfl .sct ⟨Ua,Ua,U⟩ (fun hc=>G3f rfl rfl rfl slL rfl (by have:=P6 hc; omega)) rfl ?_)))))))))))))
    refine Do (mkU (mkM k i)) [114] rfl .sct ⟨Ua,U⟩ (fun hc=>HI rfl rfl her (by have:=P6 hc; omega) (by omega)) rfl (Do (I64 (k:Int)) [] G .sct U (fun hc=>G3 G G) G (Do (I64 (i:Int)) [] G .sct U (fun hc=>G3 G G) G (Do (mkU (mkM k i)) [116,117] rfl .sct ⟨Ua,Ua,U⟩ (fun hc=>Gi (args:=[I64 (k:Int),I64 (i:Int)]) rfl (uL k i (by omega) (by omega)) clM ⟨rfl,rfl,rfl,rfl,U⟩) rfl (Do (BL true) [115,118] G .sct ⟨Ua,Ua,U⟩ (fun hc=>Gc3 G G G) G (Do (BL (!true)) [119] G .sct ⟨Ua,U⟩ (fun hc=>Qj (b:=true) G G) G (Dg (BL ((decide ((i:Int) < ((rn e:Nat):Int)))&&(!true))) (iQ G G G (.scf (b:=false)) (J9 (b:=decide ((i:Int) < ((rn e:Nat):Int))) (d:=!true) G G G G)) G (Dq (BL ((decide ((i:Int) < ((rn e:Nat):Int)))&&(!true))) (rP false G G G) G (Dnil (a1 ?_)))))))))
    refine Gg G (fun hb=>?_) (fun hb=>?_)
    .rw [Bool.not_true,Bool.and_false] at hb; cases hb
    ·
     refine Gn (h (G1 (JLm (I64 (i:Int)) G (JLh (I64 ((i+1:Nat):Int)) (Hs (by rw [show (i:Int)+1=((i+1:Nat):Int) by omega]; exact dV (by omega) (by omega)) rfl rfl rfl) G (JLm (I64 ((i+1:Nat):Int)) G (G5 (x _ _ (i+1) hil (by show rn g - (i+1) < rn g - i; omega) (dC hn hB ⟨.same rfl,.same eY,.same rfl,.same rfl,U⟩ ⟨⟨_,eT,.vec⟩,U⟩))))))))
   ·
    refine H9 (v (G1 (JLm (I64 (k:Int)) G (JLh (I64 ((k+1:Nat):Int)) (Hs (by rw [show (k:Int)+1=((k+1:Nat):Int) by omega]; exact dV (by omega) (by omega)) rfl rfl rfl) G (JLm (I64 ((k+1:Nat):Int)) G (G5 (o _ _ (k+1) hkl (by show es.length - (k+1) < es.length - k; omega) (dC hn hB ⟨.same rfl,.same eY,.same rfl,U⟩ ⟨⟨_,eT,.vec⟩,U⟩))))))))
  ·
   refine H9 (eA _ _ () U (dC hn hB ⟨.same G,.same eY,U⟩ ⟨⟨_,eT,.vec⟩,U⟩))
 rintro⟨⟩ -
 refine Zc (X:=Hp×List Raw×(Nat→Nat)) (fun q=>(q.1.map Prod.fst).Nodup/\Bs H0 q.1/\IG 1 0 mkC es q.1 q.2.1 q.2.2 es.length) (fun _=>(N6 es)) (fun q=>flM q.1 q.2.1) (fun KA eA=>?_) ?_
 ·
  refine Jr fun m=>(JLm (I64 (0:Int)) G (G5 (m (Gf (dP (X:=Nat×Hp×List Raw×(Nat→Nat)) (fun q=>q.1≤es.length/\(q.2.1.map Prod.fst).Nodup/\Bs H0 q.2.1/\IG 1 0 mkC es q.2.1 q.2.2.1 q.2.2.2 q.1) (fun q=>[(0,Ea es),(5,.vec 1154 0 1 es.length),(11,I64 (q.1:Int))]) (fun q=>flM q.2.1 q.2.2.1) (fun q=>es.length - q.1) (0,H,gs,O) ⟨Nat.zero_le _,hn,hB,hI.re⟩ (dC hn hB ⟨.same G,.same eY,.same G,U⟩ ⟨⟨_,eT,.vec⟩,U⟩) ?_)))))
  rintro⟨k,H,gs,O⟩ ⟨hk,hn,hB,hI⟩ K3 o
  dsimp only at hk hn hB hI o ⊢
  refine Js fun s=>Jr fun t=>(JLm (I64 (k:Int)) G (JLm (Ea es) G (JLh (Ej es.length) (Q8 (f:=RA) (xs:=es) mG G G) G (JLh (BL (decide ((k:Int) < (es.length:Int)))) (Hr G G G) G (G5 (t (Gg G (fun hb=>?_) (fun hb=>?_))))))))
  ·
   have hkl:k < es.length:=by have:=P6 hb; omega
   obtain⟨e,he⟩:∃ e,es[k]? = some e:=⟨_,Pb hkl⟩
   have hen:=hrn k e he
   refine Gn (s (Js fun v=>Gf (Jr fun w=>(JLh (.vec 1155 0 1 (List.replicate 64 (0:Int)).length) (L':=HL 1000000000000 3 H++((1155,.vec 3 1 0 ((List.replicate 64 (0:Int)).map mkU))::[(1154,.vec 51 1 0 (gs.map RA))])) (J5f (H42 (n:=64) 1155 (f:=mkU) (0:Int) [E0] rfl rfl rfl ((Za (by decide) H).trans rfl) slL elT Q1f rfl rfl rfl (⟨.inl rfl,U⟩) rfl) rfl) G ?_))))
   rw [List.length_replicate]
   refine JLm (.vec 1155 0 1 64) G (G5 (w (Zc (X:=List Int) (fun q=>q.length=64) (fun q=>[(0,Ea es),(5,.vec 1154 0 1 es.length),(11,I64 (k:Int)),(12,.vec 1155 0 1 64)]) (fun q=>flN H q gs) (fun KB eB=>?_) ?_)))
   ·
    refine Jr fun a2=>(JLm (I64 (0:Int)) G (G5 (a2 (Gf ?_))))
    have hokM:∀ (q:List Int) (j:Nat),(j=1155\/j=1154)→(fun i=>(lk (flN H q gs) i).isSome) j=true:=fun q j hj=>by rcases hj with rfl | rfl <;> (show (lk _ _).isSome=true; rw [Za (by decide)]; rfl)
    refine dP (X:=Nat×List Int) (fun q=>q.1≤64/\q.2.length=64) (fun q=>[(0,Ea es),(5,.vec 1154 0 1 es.length),(11,I64 (k:Int)),(12,.vec 1155 0 1 64),(13,I64 (q.1:Int))]) (fun q=>flN H q.2 gs) (fun q=>64 - q.1) (0,List.replicate 64 (0)) ⟨Nat.zero_le _,List.length_replicate⟩ (dC hn hB ⟨.same rfl,.same (hokM (List.replicate 64 (0)) _ (.inr rfl)),.same rfl,.same (hokM (List.replicate 64 (0)) _ (.inl rfl)),.same rfl,U⟩ ⟨⟨_,Za (by decide) H,.vec⟩,⟨_,(Za (by decide) H).trans rfl,.vec⟩,U⟩) ?_
    rintro⟨i,xs⟩ ⟨hi,hxl⟩ K9 e9
    dsimp only at hi hxl e9 ⊢
    refine Js fun a=>Jr fun h=>(JLm (I64 (i:Int)) G (JLh (BL (decide ((i:Int) < 64))) (Hr G G G) G (G5 (h (Gg G (fun hb=>?_) (fun hb=>?_))))))
    ·
     have hil:i < 64:=by have:=P6 hb; omega
     obtain⟨y,hy⟩:∃ y,xs[i]? = some y:=⟨_,Pb (by omega)⟩
     have hlm:lk (flN H xs gs) 1155=some (.vec 3 1 0 (xs.map mkU)):=Za (by decide) H
     refine Gn (a (Js fun a1=>Gf (G1 ?_)))
     refine JLm (.vec 1155 0 1 64) G (JLm (I64 (i:Int)) G (JLm (I64 (k:Int)) G (JLm (Ea es) G (JLh (Ej es.length) (Q8 (f:=RA) (xs:=es) mG G G) G (JLh (I64 ((k+es.length:Nat):Int)) (Hs (by rw [show (k:Int)+(es.length:Int)=((k+es.length:Nat):Int) by omega]; exact dV (by omega) (by omega)) rfl rfl rfl) G (JLm (I64 (i:Int)) G (JLh (mkU (mkM (k+es.length) i)) (Gi rfl (uL (k+es.length) i (by omega) (by omega)) clM ⟨rfl,rfl,rfl,rfl,U⟩) G (JLh (.vptr 1155 0 i 0) (fK (f:=mkU) (xs:=xs) (y:=y) G G G hlm slL hy G) G (J7 (u:=.junk) (L':=HL 1000000000000 3 H++((1155,.vec 3 1 0 ((xs.set i (mkM (k+es.length) i)).map mkU))::[(1155,.vec 3 1 0 (xs.map mkU)),(1154,.vec 51 1 0 (gs.map RA))])) (J5f (xS (f:=mkU) (xs:=xs) (z:=mkM (k+es.length) i) szT rfl rfl rfl hlm (by omega) rfl rfl rfl rfl) rfl) (G5 (a1 ?_)))))))))))
     refine G1 (JLm (I64 (i:Int)) G (JLh (I64 ((i+1:Nat):Int)) (Hs (by rw [show (i:Int)+1=((i+1:Nat):Int) by omega]; exact dV (by omega) (by omega)) rfl rfl rfl) G (JLm (I64 ((i+1:Nat):Int)) G (G5 (e9 _ _ (i+1,xs.set i (mkM (k+es.length) i)) ⟨hil,by rw [List.length_set]; exact hxl⟩ (by show 64 - (i+1) < 64 - i; omega) (dC hn hB ⟨.same rfl,.same (hokM (xs.set i (mkM (k+es.length) i)) _ (.inr rfl)),.same rfl,.same (hokM (xs.set i (mkM (k+es.length) i)) _ (.inl rfl)),.same rfl,trivial⟩ ⟨⟨_,Za (by decide) H,.vec⟩,⟨_,(Za (by decide) H).trans rfl,.vec⟩,trivial⟩))))))
    ·
     refine H9 (eB _ _ xs hxl (dC hn hB ⟨.same rfl,.same (hokM xs _ (.inr rfl)),.same rfl,.same (hokM xs _ (.inl rfl)),U⟩ ⟨⟨_,Za (by decide) H,.vec⟩,⟨_,(Za (by decide) H).trans rfl,.vec⟩,U⟩))
   intro xs hxl
   have hfz:=dC (p:=1000000000000) (E:=3) (l:=[]) (F:=[]) (M:=[(1155,Jn.vec 3 1 0 (xs.map mkU)),(1154,.vec 51 1 0 (gs.map RA))]) (M':=[(1154,.vec 51 1 0 (gs.map RA))]) hn hB trivial ⟨⟨_,(Za (by decide) H).trans rfl,.vec⟩,trivial⟩
   refine zR [(0,Ea es),(5,.vec 1154 0 1 es.length),(11,I64 (k:Int)),(12,.list 1 (xs.map mkU))] (flM H gs) 1155 (Za (by decide) H) ((Za (by decide) H).trans rfl) hfz.loc hfz.base ⟨.conv (.same rfl),.conv (.same eY),.conv (.same rfl),.vec,U⟩ ?_
   obtain⟨y,hy⟩:∃ y,gs[k]? = some y:=⟨_,Pb (by rw [hI.len]; exact hkl)⟩
   refine G1 (JLm (.vec 1154 0 1 es.length) G (JLm (I64 (k:Int)) G (JLm (Ea es) G (JLm (I64 (k:Int)) G (JLh (.dptr [RA e]) (Gr (f:=RA) (xs:=es) (y:=e) G G G mG he G) G (JLh (RA e) (Ge scL G G G) G (JLm (.list 1 (xs.map mkU)) G (uV rfl rfl rfl (Hd5 (e:=e) (ys:=xs.map mkU) rfl rfl rfl slL elT (fun y hy=>by obtain⟨z,_,rfl⟩:=Pt.1 hy; rfl) rfl (by rw [Pr]; omega) Jcc (hI.ls k e he).own (by simp only [maxLen,Pr]; omega) (by simp only [Pr]; omega)) ?_))))))))
   rintro _ _ ⟨g,H',rfl,rfl,hn',ha⟩
   have hgl:=ha.len
   rw [Pr,hxl] at hgl
   have hI0:∀ g H',qQ 1 H e (xs.map mkU) g H'→RdH 1 (mkC k) H' g (rn e+0):=fun g H' ha=>ha.old (Ga6 k) (hI.ls k e he) (Pf)
   have hI:=hI.app he (Pf) (fun b n c hb=>hI.ow k e b n c he hb) ha
   refine JLh (.vptr 1154 0 k 0) (fK (f:=RA) (xs:=gs) (y:=y) G G G eT mG hy G) G (J7 (u:=.junk) (L':=HL 1000000000000 3 H'++[(1154,.vec 51 1 0 ((gs.set k g).map RA)),(1154,.vec 51 1 0 (gs.map RA))]) (J5f (xS (f:=RA) (xs:=gs) (z:=g) szL rfl rfl rfl eT (by rw [hI.len]; exact hkl) (J40 g) rfl rfl rfl) rfl) (G5 (v (G1 (JLm (I64 (k:Int)) G (JLh (I64 ((k+1:Nat):Int)) (Hs (by rw [show (k:Int)+1=((k+1:Nat):Int) by omega]; exact dV (by omega) (by omega)) rfl rfl rfl) G (JLm (I64 ((k+1:Nat):Int)) G (G5 (o _ _ (k+1,H',gs.set k g,_) ⟨hkl,hn',hB.app ha,hI.set he hgl (hI0 g H' ha) (ha.own O k)⟩ (by show es.length - (k+1) < es.length - k; omega) (dC hn' (hB.app ha) ⟨.same rfl,.same eY,.same rfl,U⟩ ⟨⟨_,Za (by decide) H',.vec⟩,U⟩))))))))))
  ·
   have hke:k=es.length:=by have:=P7 hb; omega
   subst hke
   refine H9 (eA _ _ (H,gs,O) ⟨hn,hB,hI⟩ (dC hn hB ⟨.same G,.same eY,U⟩ ⟨⟨_,eT,.vec⟩,U⟩))
 rintro⟨H,gs,O⟩ ⟨hn,hB,hI⟩
 dsimp only at hn hB hI ⊢
 refine Zc (X:=Unit) (fun _=>True) (fun _=>(N6 es)) (fun _=>flM H gs) (fun KA eA=>?_) ?_
 ·
  refine Jr fun m=>(JLm (I64 (0:Int)) G (G5 (m (Gf (dP (X:=Nat) (fun k=>k≤es.length) (fun k=>[(0,Ea es),(5,.vec 1154 0 1 es.length),(14,I64 (k:Int))]) (fun _=>flM H gs) (fun k=>es.length - k) 0 (Nat.zero_le _) (dC hn hB ⟨.same G,.same eY,.same G,U⟩ ⟨⟨_,eT,.vec⟩,U⟩) ?_)))))
  intro k hk K3 o
  dsimp only at hk o ⊢
  refine Js fun s=>Jr fun t=>(JLm (I64 (k:Int)) G (JLm (Ea es) G (JLh (Ej es.length) (Q8 (f:=RA) (xs:=es) mG G G) G (JLh (BL (decide ((k:Int) < (es.length:Int)))) (Hr G G G) G (G5 (t (Gg G (fun hb=>?_) (fun hb=>?_))))))))
  ·
   have hkl:k < es.length:=by have:=P6 hb; omega
   obtain⟨e,he⟩:∃ e,es[k]? = some e:=⟨_,Pb hkl⟩
   obtain⟨g,hg⟩:∃ g,gs[k]? = some g:=⟨_,Pb (by rw [hI.len]; exact hkl)⟩
   obtain⟨hgl,hgr,_⟩:=hI.gs k g e hkl hg he
   have hen:=hrn k e he
   have her:=hI.ls k e he
   refine Gn (s (Js fun v=>Gf (Jr fun w=>(JLm (I64 (0:Int)) G (G5 (w (Gf (dP (X:=Nat) (fun i=>i≤rn e) (fun i=>[(0,Ea es),(5,.vec 1154 0 1 es.length),(14,I64 (k:Int)),(15,I64 (i:Int))]) (fun _=>flM H gs) (fun i=>rn e - i) 0 (Nat.zero_le _) (dC hn hB ⟨.same G,.same eY,.same G,.same G,U⟩ ⟨⟨_,eT,.vec⟩,U⟩) ?_))))))))
   intro i hi K8 x
   dsimp only at hi x ⊢
   refine Js fun a0=>Jr fun a=>(JLm (I64 (i:Int)) G (JLm (Ea es) G (JLm (I64 (k:Int)) G (JLh (.dptr [RA e]) (Gr (f:=RA) (xs:=es) (y:=e) G G G mG he G) G (JLh (RA e) (Ge scL G G G) G (JLh (I64 (rn e:Int)) (G3e G slL G) G (JLh (BL (decide ((i:Int) < (rn e:Int)))) (Hr G G G) G (G5 (a (Gg G (fun hb=>?_) (fun hb=>?_)))))))))))
   ·
    have hil:i < rn e:=by have:=P6 hb; omega
    refine Gn (a0 (Js fun h=>Gf (Js fun a1=>JC_d0 mixed (by kernel_rfl) (Dq (Ea es) (G3 G G) G (Dq (I64 (k:Int)) (G3 G G) G (Dq (.dptr [RA e]) (Gr (f:=RA) (xs:=es) (y:=e) G G G mG he G) G (Dq (RA e) (Ge scL G G G) G (Dq (I64 (i:Int)) (G3 G G) G (Dq (PT (rb e) (i*1)) (G3f rfl rfl rfl slL rfl (by omega)) rfl (Dq (mkU (mkM k i)) (HI rfl rfl her (by omega) (by omega)) rfl (Dq (I64 (k:Int)) (G3 G G) G (Dq (I64 (i:Int)) (G3 G G) G (Dq (mkU (mkM k i)) (Gi (args:=[I64 (k:Int),I64 (i:Int)]) rfl (uL k i (by omega) (by omega)) clM ⟨rfl,rfl,rfl,rfl,U⟩) rfl (Dq (BL true) (Gc3 G G G) G (Dq (BL (!true)) (Qj (b:=true) G G) G (Dq (BL false) (G3 G G) G ?_))))))))))))))))
    refine Dg (.vec 1154 0 1 es.length) (iQ G G G (.scf (b:=false)) (G3 G G)) G (Dg (I64 (k:Int)) (iQ G G G (.scf (b:=false)) (G3 G G)) G (Dg (.vptr 1154 0 k 0) (iQ G G G (.scf (b:=false)) (fK (f:=RA) (xs:=gs) (y:=g) G G G eT mG hg G)) G (Dg (RA g) (iQ G G G (.scf (b:=false)) (jF (f:=RA) scL G G eT hg G G)) G (Dg (I64 (i:Int)) (iQ G G G (.scf (b:=false)) (G3 G G)) G (Dg (PT (rb g) (i*1)) (iQ rfl rfl rfl (.scf (b:=false)) (G3f rfl rfl rfl slL rfl (by omega))) rfl (Dg (mkU (mkM k i)) (iQ rfl rfl rfl (.scf (b:=false)) (HI rfl rfl hgr (by omega) (by omega))) rfl (Dg (I64 (k:Int)) (iQ G G G (.scf (b:=false)) (G3 G G)) G (Dg (I64 (i:Int)) (iQ G G G (.scf (b:=false)) (G3 G G)) G (Dg (mkU (mkM k i)) (iQ rfl rfl rfl (.scf (b:=false)) (Gi (args:=[I64 (k:Int),I64 (i:Int)]) rfl (uL k i (by omega) (by omega)) clM ⟨rfl,rfl,rfl,rfl,U⟩)) rfl (Dg (BL true) (iQ G G G (.scf (b:=false)) (Gc3 G G G)) G (Dg (BL (!true)) (iQ G G G (.scf (b:=false)) (Qj (b:=true) G G)) G (Dq (BL false) (rP false G G G) G (Dnil ?_)))))))))))))
    refine a1 (Gg G (fun hb=>?_) (fun hb=>?_))
    .cases hb
    ·
     refine Gn (h (G1 (JLm (I64 (i:Int)) G (JLh (I64 ((i+1:Nat):Int)) (Hs (by rw [show (i:Int)+1=((i+1:Nat):Int) by omega]; exact dV (by omega) (by omega)) rfl rfl rfl) G (JLm (I64 ((i+1:Nat):Int)) G (G5 (x _ _ (i+1) hil (by show rn e - (i+1) < rn e - i; omega) (dC hn hB ⟨.same rfl,.same eY,.same rfl,.same rfl,U⟩ ⟨⟨_,eT,.vec⟩,U⟩))))))))
   ·
    refine H9 (v (G1 (JLm (I64 (k:Int)) G (JLh (I64 ((k+1:Nat):Int)) (Hs (by rw [show (k:Int)+1=((k+1:Nat):Int) by omega]; exact dV (by omega) (by omega)) rfl rfl rfl) G (JLm (I64 ((k+1:Nat):Int)) G (G5 (o _ _ (k+1) hkl (by show es.length - (k+1) < es.length - k; omega) (dC hn hB ⟨.same rfl,.same eY,.same rfl,U⟩ ⟨⟨_,eT,.vec⟩,U⟩))))))))
  ·
   refine H9 (eA _ _ () U (dC hn hB ⟨.same G,.same eY,U⟩ ⟨⟨_,eT,.vec⟩,U⟩))
 rintro⟨⟩ -
 refine Jr fun a6=>(JLm (BL true) G (G5 (a6 ?_)))
 have hfz:=dC (p:=1000000000000) (E:=3) (l:=[]) (F:=[]) (M:=[(1154,Jn.vec 51 1 0 (gs.map RA))]) (M':=[]) hn hB trivial trivial
 refine Gs (⟨[BL true],HL 1000000000000 3 H++[],hfz.loc,hfz.base,⟨⟨_,G,.conv (.same G)⟩,U⟩,G,H,G,hn,hB⟩)
end Go.Proofs.YthkihfoleenlmaaGreat
