/-
 Models of functions of the program,and that they return what the models say.
-/
import Derived.Test.YtidpfkmbfgihlaaGreatSpecS
set_option maxRecDepth 100000
set_option maxHeartbeats 1000000
set_option linter.unusedVariables false
set_option linter.unusedSimpArgs false
namespace Go.Proofs.YtidpfkmbfgihlaaGreat
open Go.RowKit
noncomputable section

namespace XKF
open XAF
open XCF
open XSF
theorem Q00:H7 Eo 100=true:=by kernel_rfl
theorem R53:H7 Eo 131=true:=by kernel_rfl
theorem Jf6:H7 Eo 144=true:=by kernel_rfl
theorem Q54:H7 Eo 99=true:=by kernel_rfl
theorem J64:Z5 Eo 43 3 24=true:=by kernel_rfl
theorem H04:Zj Eo 94 3 60=true:=by kernel_rfl
theorem G15:Y4 Eo 94=true:=by kernel_rfl
theorem Jf2:Yt Eo 136 1=true:=by kernel_rfl
theorem Hca:Yt Eo 51 1=true:=by kernel_rfl
end XKF
open XAF
open XCF
open XSF
open XKF


theorem G6f (p1:Gt Int Box):Gb8 Eo 101 [.dptr [DM (fun n:Int=>Value.int .i64 n) Box.av p1]] ([]:List Nat) (Gda (fun a:Int=>[I64 a]) (Gt.keys p1)) (G4d (Gt.keys p1)):=by
 refine Jbb Tryz.func101 O O ?_
 intro E hE hnx
 refine Rh (fun K1 hK1=>Qh (J2 (u:=DM (fun n:Int=>Value.int .i64 n) Box.av p1) hE (Gg G15 O O O) ?_ O O O O))
 refine J2 (u:=.it 1154) hE (H87 1154 (kv:=(fun n:Int=>Value.int .i64 n)) (av:=Box.av) (m:=p1) O O .data O H04) ?_ O O O O
 refine Rf ?_
 refine hK1 _ _ _ (G3f (Q3b (X:=List Nat) (fun _=>True) (fun i2=>[(0,.sc (.func (.yield E.lp) #[] #[])),(5,.it 1154)]) (fun i2=>[(1154,.iter (DM (fun n:Int=>Value.int .i64 n) Box.av p1) p1.l.length i2)]) (fun i2=>i2) (fun i2=>unseen (p1.l.length) i2) [] True.intro ⟨(.sm O O),⟨⟨_,O,.iter O⟩,G⟩,O⟩ O ?_))
 intro i2 _ K2 e2
 refine Rh (fun K3 hK3=>Qh (Qb9 hE O O O (Hf8 (kv:=(fun n:Int=>Value.int .i64 n)) (av:=Box.av) (m:=p1) (fun _=>O) O O O .data) ?_))
 intro u_ L_ hn_
 rcases hn_ with ⟨q2,x2,he2,hs2,rfl,rfl⟩ | ⟨ha2,rfl,rfl⟩
 ·
  refine J2 (u:=BL true) hE (Gz O O O) ?_ O O O O
  refine Rf ?_
  refine hK3 _ _ _ (Rh (fun K4 hK4=>Qb8 O (Gcb (hK4 _ _ _ (G3f (Rh (fun K5 hK5=>Qh (J2 (u:=.tup [I64 x2.1,.agg (Box.cs x2.2)]) hE (J85 (kv:=(fun n:Int=>Value.int .i64 n)) (av:=Box.av) (m:=p1) (q:=q2) (seen:=i2) (e:=x2) (fun _=>O) O O O .data he2) ?_ O O O O))))))))
  refine J2 (u:=I64 x2.1) hE (Gz O O O) ?_ O O O O
  refine J2 (u:=I64 x2.1) hE (G7 O O) ?_ O O O O
  refine Rf ?_
  refine hK5 _ _ _ (Rh (fun K6 hK6=>Qh (J2 (u:=.sc (.func (.yield E.lp) #[] #[])) hE (G6 O O) ?_ O O O O)))
  refine J2 (u:=I64 x2.1) hE (G6 O O) ?_ O O O O
  refine Hc2 (us:=[I64 x2.1]) hE rfl rfl ⟨rfl,rfl,G⟩ (by rw [hnx]; exact R24 he2 hs2) ?_ rfl rfl rfl
  refine J2 (u:=BL false) hE (Qx (b:=true) O O) ?_ O O O O
  refine Rf ?_
  refine hK6 _ _ _ (H3a O (Gcb (e2 _ _ (i2++[q2]) True.intro (Ga4 (List.getElem?_eq_some_iff.1 he2).1 hs2) ⟨(.sm O O),⟨⟨_,O,.iter O⟩,G⟩,O⟩)))
 ·
  refine J2 (u:=BL false) hE (Gz O O O) ?_ O O O O
  refine Rf ?_
  refine hK3 _ _ _ (Rh (fun K7 hK7=>H3a O (Hf6 (Q8b ha2))))


theorem Gb7 (p1:Gt Int Int):Gb8 Eo 104 [.dptr [DM (fun n:Int=>Value.int .i64 n) I64 p1]] ([]:List Nat) (Gda (fun a:Int=>[I64 a]) (Gt.keys p1)) (G4d (Gt.keys p1)):=by
 refine Jbb Tryz.func104 O O ?_
 intro E hE hnx
 refine Rh (fun K1 hK1=>Qh (J2 (u:=DM (fun n:Int=>Value.int .i64 n) I64 p1) hE (Gg G5e O O O) ?_ O O O O))
 refine J2 (u:=.it 1156) hE (H87 1156 (kv:=(fun n:Int=>Value.int .i64 n)) (av:=I64) (m:=p1) O O .data O H5a) ?_ O O O O
 refine Rf ?_
 refine hK1 _ _ _ (G3f (Q3b (X:=List Nat) (fun _=>True) (fun i2=>[(0,.sc (.func (.yield E.lp) #[] #[])),(5,.it 1156)]) (fun i2=>[(1156,.iter (DM (fun n:Int=>Value.int .i64 n) I64 p1) p1.l.length i2)]) (fun i2=>i2) (fun i2=>unseen (p1.l.length) i2) [] True.intro ⟨(.sm O O),⟨⟨_,O,.iter O⟩,G⟩,O⟩ O ?_))
 intro i2 _ K2 e2
 refine Rh (fun K3 hK3=>Qh (Qb9 hE O O O (Hf8 (kv:=(fun n:Int=>Value.int .i64 n)) (av:=I64) (m:=p1) (fun _=>O) O O O .data) ?_))
 intro u_ L_ hn_
 rcases hn_ with ⟨q2,x2,he2,hs2,rfl,rfl⟩ | ⟨ha2,rfl,rfl⟩
 ·
  refine J2 (u:=BL true) hE (Gz O O O) ?_ O O O O
  refine Rf ?_
  refine hK3 _ _ _ (Rh (fun K4 hK4=>Qb8 O (Gcb (hK4 _ _ _ (G3f (Rh (fun K5 hK5=>Qh (J2 (u:=.tup [I64 x2.1,I64 x2.2]) hE (J85 (kv:=(fun n:Int=>Value.int .i64 n)) (av:=I64) (m:=p1) (q:=q2) (seen:=i2) (e:=x2) (fun _=>O) O O O .data he2) ?_ O O O O))))))))
  refine J2 (u:=I64 x2.1) hE (Gz O O O) ?_ O O O O
  refine J2 (u:=I64 x2.1) hE (G7 O O) ?_ O O O O
  refine Rf ?_
  refine hK5 _ _ _ (Rh (fun K6 hK6=>Qh (J2 (u:=.sc (.func (.yield E.lp) #[] #[])) hE (G6 O O) ?_ O O O O)))
  refine J2 (u:=I64 x2.1) hE (G6 O O) ?_ O O O O
  refine Hc2 (us:=[I64 x2.1]) hE rfl rfl ⟨rfl,rfl,G⟩ (by rw [hnx]; exact R24 he2 hs2) ?_ rfl rfl rfl
  refine J2 (u:=BL false) hE (Qx (b:=true) O O) ?_ O O O O
  refine Rf ?_
  refine hK6 _ _ _ (H3a O (Gcb (e2 _ _ (i2++[q2]) True.intro (Ga4 (List.getElem?_eq_some_iff.1 he2).1 hs2) ⟨(.sm O O),⟨⟨_,O,.iter O⟩,G⟩,O⟩)))
 ·
  refine J2 (u:=BL false) hE (Gz O O O) ?_ O O O O
  refine Rf ?_
  refine hK3 _ _ _ (Rh (fun K7 hK7=>H3a O (Hf6 (Q8b ha2))))


theorem Gf8 (p1:Gt Slot Box):Gb8 Eo 132 [.dptr [DM Slot.kv Box.av p1]] ([]:List Nat) (Gda (fun a:Slot=>[.agg [I64 a.G2,I64 a.Tier,U8 a.Half]]) (Gt.keys p1)) (G4d (Gt.keys p1)):=by
 refine Jbb Tryz.func132 O O ?_
 intro E hE hnx
 refine Rh (fun K1 hK1=>Qh (J2 (u:=DM Slot.kv Box.av p1) hE (Gg Yh O O O) ?_ O O O O))
 refine J2 (u:=.it 1182) hE (H87 1182 (kv:=Slot.kv) (av:=Box.av) (m:=p1) O O .data O G4a) ?_ O O O O
 refine Rf ?_
 refine hK1 _ _ _ (G3f (Q3b (X:=List Nat) (fun _=>True) (fun i2=>[(0,.sc (.func (.yield E.lp) #[] #[])),(5,.it 1182)]) (fun i2=>[(1182,.iter (DM Slot.kv Box.av p1) p1.l.length i2)]) (fun i2=>i2) (fun i2=>unseen (p1.l.length) i2) [] True.intro ⟨(.sm O O),⟨⟨_,O,.iter O⟩,G⟩,O⟩ O ?_))
 intro i2 _ K2 e2
 refine Rh (fun K3 hK3=>Qh (Qb9 hE O O O (Hf8 (kv:=Slot.kv) (av:=Box.av) (m:=p1) (fun _=>O) O O O .data) ?_))
 intro u_ L_ hn_
 rcases hn_ with ⟨q2,x2,he2,hs2,rfl,rfl⟩ | ⟨ha2,rfl,rfl⟩
 ·
  refine J2 (u:=BL true) hE (Gz O O O) ?_ O O O O
  refine Rf ?_
  refine hK3 _ _ _ (Rh (fun K4 hK4=>Qb8 O (Gcb (hK4 _ _ _ (G3f (Rh (fun K5 hK5=>Qh (J2 (u:=.tup [.agg (Slot.cs x2.1),.agg (Box.cs x2.2)]) hE (J85 (kv:=Slot.kv) (av:=Box.av) (m:=p1) (q:=q2) (seen:=i2) (e:=x2) (fun _=>O) O O O .data he2) ?_ O O O O))))))))
  refine J2 (u:=.agg (Slot.cs x2.1)) hE (Gz O O O) ?_ O O O O
  refine J2 (u:=.ptr 1181 0) hE (Hp 1181 3 Z4 O O) ?_ O O O O
  refine Y2f (u:=.junk) hE (Hc (u:=.agg (Slot.cs x2.1)) (ds:=[I64 x2.1.G2,I64 x2.1.Tier,U8 x2.1.Half]) Zr O O O O O O O O) ?_ O O O
  refine Rf ?_
  refine hK5 _ _ _ (Rh (fun K6 hK6=>Qh (J2 (u:=.sc (.func (.yield E.lp) #[] #[])) hE (G6 O O) ?_ O O O O)))
  refine J2 (u:=.agg (Slot.cs x2.1)) hE (Ga3 Hu O O O O) ?_ O O O O
  refine Hc2 (us:=[.agg (Slot.cs x2.1)]) hE rfl rfl ⟨rfl,rfl,G⟩ (by rw [hnx]; exact R24 he2 hs2) ?_ rfl rfl rfl
  refine J2 (u:=BL false) hE (Qx (b:=true) O O) ?_ O O O O
  refine Rf ?_
  refine hK6 _ _ _ (H3a O (Gcb (e2 _ _ (i2++[q2]) True.intro (Ga4 (List.getElem?_eq_some_iff.1 he2).1 hs2) ⟨(.sm O O),⟨⟨_,O,.iter O⟩,G⟩,O⟩)))
 ·
  refine J2 (u:=BL false) hE (Gz O O O) ?_ O O O O
  refine Rf ?_
  refine hK3 _ _ _ (Rh (fun K7 hK7=>H3a O (Hf6 (Q8b ha2))))

def G47 (m:Gt Int Box):Option Unit:=
 some ()
theorem G9f (m:Gt Int Box) (r:Unit) (h:G47 m=some r):Pure Eo 42 [DM (fun n:Int=>Value.int .i64 n) Box.av m] (·=.fn 101 [.dptr [DM (fun n:Int=>Value.int .i64 n) Box.av m]]):=by
 unfold G47 at h
 refine Gy [.tmp 2] Tryz.func42 O O (Jr fun hK1=>(JLh (.ptr 1088 0) (Jk (cs:=[DM (fun n:Int=>Value.int .i64 n) Box.av m]) 1088 O O O O O) O (JLm (.sc .nilFunc) O (G5 (hK1 (Gm [(1,.dptr [DM (fun n:Int=>Value.int .i64 n) Box.av m])] [] 1088 rfl rfl rfl G rfl (by exact⟨.ptr,G⟩) (Jr fun hK2=>(JLh (.fn 101 [.dptr [DM (fun n:Int=>Value.int .i64 n) Box.av m]]) (Jy (cs:=[.dptr [DM (fun n:Int=>Value.int .i64 n) Box.av m]]) O O) O (JLm (.fn 101 [.dptr [DM (fun n:Int=>Value.int .i64 n) Box.av m]]) O (G5 (hK2 (Gq (⟨[.fn 101 [.dptr [DM (fun n:Int=>Value.int .i64 n) Box.av m]]],[],G,O,⟨⟨_,O,.conv (.same O)⟩,G⟩,O,congrArg (fun _:Unit=>(.fn 101 [.dptr [DM (fun n:Int=>Value.int .i64 n) Box.av m]]:AV)) (Option.some.inj h)⟩)))))))))))))

def G7b (m:Gt Int Int):Option Unit:=
 some ()
theorem Ge5 (m:Gt Int Int) (r:Unit) (h:G7b m=some r):Pure Eo 49 [DM (fun n:Int=>Value.int .i64 n) I64 m] (·=.fn 104 [.dptr [DM (fun n:Int=>Value.int .i64 n) I64 m]]):=by
 unfold G7b at h
 refine Gy [.tmp 2] Tryz.func49 O O (Jr fun hK1=>(JLh (.ptr 1096 0) (Jk (cs:=[DM (fun n:Int=>Value.int .i64 n) I64 m]) 1096 O O O O O) O (JLm (.sc .nilFunc) O (G5 (hK1 (Gm [(1,.dptr [DM (fun n:Int=>Value.int .i64 n) I64 m])] [] 1096 rfl rfl rfl G rfl (by exact⟨.ptr,G⟩) (Jr fun hK2=>(JLh (.fn 104 [.dptr [DM (fun n:Int=>Value.int .i64 n) I64 m]]) (Jy (cs:=[.dptr [DM (fun n:Int=>Value.int .i64 n) I64 m]]) O O) O (JLm (.fn 104 [.dptr [DM (fun n:Int=>Value.int .i64 n) I64 m]]) O (G5 (hK2 (Gq (⟨[.fn 104 [.dptr [DM (fun n:Int=>Value.int .i64 n) I64 m]]],[],G,O,⟨⟨_,O,.conv (.same O)⟩,G⟩,O,congrArg (fun _:Unit=>(.fn 104 [.dptr [DM (fun n:Int=>Value.int .i64 n) I64 m]]:AV)) (Option.some.inj h)⟩)))))))))))))

def G10 (m:Gt Slot Box):Option Unit:=
 some ()
theorem H12 (m:Gt Slot Box) (r:Unit) (h:G10 m=some r):Pure Eo 93 [DM Slot.kv Box.av m] (·=.fn 132 [.dptr [DM Slot.kv Box.av m]]):=by
 unfold G10 at h
 refine Gy [.tmp 2] Tryz.func93 O O (Jr fun hK1=>(JLh (.ptr 1147 0) (Jk (cs:=[DM Slot.kv Box.av m]) 1147 O O O O O) O (JLm (.sc .nilFunc) O (G5 (hK1 (Gm [(1,.dptr [DM Slot.kv Box.av m])] [] 1147 rfl rfl rfl G rfl (by exact⟨.ptr,G⟩) (Jr fun hK2=>(JLh (.fn 132 [.dptr [DM Slot.kv Box.av m]]) (Jy (cs:=[.dptr [DM Slot.kv Box.av m]]) O O) O (JLm (.fn 132 [.dptr [DM Slot.kv Box.av m]]) O (G5 (hK2 (Gq (⟨[.fn 132 [.dptr [DM Slot.kv Box.av m]]],[],G,O,⟨⟨_,O,.conv (.same O)⟩,G⟩,O,congrArg (fun _:Unit=>(.fn 132 [.dptr [DM Slot.kv Box.av m]]:AV)) (Option.some.inj h)⟩)))))))))))))

def R2 (seq:List (Option Int)) (Rp:(List Int)→Prop):Option Prop:=
 Hfb (fun(x6:Int) (s6:(List Int)) nx6=>
  need (decide ((s6.length+[x6].length)*8≤140737488355328∧s6.length+[x6].length≤maxLen)) <|
  nx6 (s6++[x6]))
 (fun(s6:(List Int))=>
  some (Rp s6)) (seq.filterMap id) []
def Yc (seq:List (Option Slot)) (Rp:(List Slot)→Prop):Option Prop:=
 Hfb (fun(x6:Slot) (s6:(List Slot)) nx6=>
  need (decide ((s6.length+[x6].length)*24≤140737488355328∧s6.length+[x6].length≤maxLen)) <|
  nx6 (s6++[x6]))
 (fun(s6:(List Slot))=>
  some (Rp s6)) (seq.filterMap id) []
theorem G6b (seq:List (Option Slot)) (seq_f:FuncId) (seq_c:List AV) (seq_B:H7 Eo seq_f=true) (seq_d:Qy (fun _=>false) seq_c=true) (seq_w:Gb8 Eo seq_f seq_c ([]:List Nat) (Gda (fun a:Slot=>[.agg [I64 a.G2,I64 a.Tier,U8 a.Half]]) seq) (G4d seq)) (Rp:(List Slot)→Prop) (p:Prop) (h:Yc seq Rp=some p) (hp:p):Pure Eo 131 [.sc (.slice none 0 0),.fn seq_f seq_c] (fun av=>∃ r,Rp r∧av=E9 r):=by
 unfold Yc at h
 refine Gy [.tmp 4] Tryz.func131 O O (Jr fun hK1=>(JLh (.ptr 1178 0) (Jk (cs:=[.sc (.slice none 0 0)]) 1178 O O O O O) O (H84 1178 0 1180 43 3 O O O (cs':=[OW 1180 3 Slot.av ([]:List Slot)]) O (JLh (E9 ([]:List Slot)) (Hk 3 O O) O (G5 (hK1 (Js fun hK2=>Jr fun hK3=>(JLm (.fn seq_f seq_c) O (G5 (hK3 (Gw ?_)))))))))))
 obtain⟨b6,kx6,hb6,hkx6,h⟩:=H28 h
 refine H21 (ps:=[7]) [(2,.ptr 1178 0),(6,.fn seq_f seq_c)] (fun i6 (s6:(List Slot))=>Gc8 b6 kx6 seq i6 s6) (fun s6=>[(1180,.spare 43 3 s6.length s6.length),(1178,.box 136 [OW 1180 3 Slot.av s6])]) [] rfl rfl seq_d seq_B seq_w (Gc8.start h hp) ⟨⟨.same rfl,.same (Jq _ _ seq_d),trivial⟩,⟨⟨_,rfl,.same⟩,⟨_,rfl,.boxL rfl ⟨.same rfl,trivial⟩⟩,trivial⟩,rfl⟩ rfl (fun k_ us_ k2_ hk_=>by obtain⟨_,_,_,_,rfl,_⟩:=hk_; rfl) (fun p_ hp_=>Nat.blt_eq.mp (by revert p_; decide)) (fun _=>⟨.same rfl,.same (Jq _ _ seq_d),trivial⟩) (fun _=>rfl) ?_ ?_
 ·
  clear h hp
  rintro i6 us_ k_ s6 ⟨q6,x6,he6,hs6,rfl,rfl⟩ hi6 lr_ K6 e6
  obtain⟨o6,h,ho1_6,ho2_6⟩:=hi6.step he6 hs6
  replace h:=Q9b hb6 h
  change JC _ _ _ _ [(7,.agg [I64 x6.G2,I64 x6.Tier,U8 x6.Half]),(2,.ptr 1178 0),(6,.fn seq_f seq_c)] [(1180,.spare 43 3 s6.length s6.length),(1178,.box 136 [OW 1180 3 Slot.av s6])]
  refine G1 (JLh (.ptr 1179 0) (Hp 1179 3 Z4 O O) O (Ho (u:=.junk) (Hc (u:=.agg [I64 x6.G2,I64 x6.Tier,U8 x6.Half]) (ds:=[I64 x6.G2,I64 x6.Tier,U8 x6.Half]) Zr O O O O O O O O) (G5 (Qa7 [(2,.ptr 1178 0),(5,.dptr [I64 x6.G2,I64 x6.Tier,U8 x6.Half])] [(1180,.spare 43 3 s6.length s6.length),(1178,.box 136 [OW 1180 3 Slot.av s6])] 1179 rfl rfl rfl ⟨⟨_,rfl,.same⟩,⟨_,rfl,.boxEq rfl rfl⟩,G⟩ rfl (by exact⟨.conv (.same rfl),.ptr,G⟩) (Qa6 (Gw (G1 ?_)))))))
  refine JLh (OW 1180 3 Slot.av s6) (Hx Gbb O O O O) O (JLh (.agg [I64 x6.G2,I64 x6.Tier,U8 x6.Half]) (Gi Hu O O O) O (JLh (E9 [x6]) (H8 (xs:=[.agg [I64 x6.G2,I64 x6.Tier,U8 x6.Half]]) O ⟨O,O,G⟩ Ro Z4 O O O O) O ?_))
  obtain⟨ha7,h⟩:=J7 h
  refine JLh (OW 1180 3 Slot.av (s6++[x6])) (Qk (f:=Slot.av) (xs:=s6) (ys:=[x6]) O O O O Ro J64 ha7 (fun _=>O) (.inl O) O) O (Ho (u:=.junk) (Hc (u:=OW 1180 3 Slot.av (s6++[x6])) (ds:=[OW 1180 3 Slot.av (s6++[x6])]) Jf2 O O O O O O O O) (G5 (e6 _ _ (s6++[x6]) (ho2_6 _ (Option.some.inj h).symm) ⟨G,⟨⟨_,O,.same⟩,⟨_,O,.boxL O ⟨.same O,G⟩⟩,G⟩,O⟩)))
 ·
  clear h hp
  intro k_ s6 hf_ hi6
  obtain⟨p_,h,hp⟩:=hi6.done hf_
  replace h:=app1 hkx6 h
  refine hK2 (Jr fun hK8=>(JLh (OW 1180 3 Slot.av s6) (Hx Gbb O O O O) O (JLm (OW 1180 3 Slot.av s6) O (G5 (hK8 (Qc (l':=[(4,E9 s6)]) (L':=[(1178,.box 136 [E9 s6])]) ⟨⟨.list O,G⟩,⟨⟨_,O,.boxL O ⟨.list O,G⟩⟩,G⟩,O⟩ (Gm [(4,E9 s6)] [] 1178 rfl rfl rfl G rfl (by exact⟨.conv (.same rfl),G⟩) (Gq (⟨[E9 s6],[],G,O,⟨⟨_,O,.conv (.same O)⟩,G⟩,O,s6,Eq.mpr (Option.some.inj h) hp,O⟩)))))))))
def Rj (seq:List (Option Int)) (Rp:(List Int)→Prop):Option Prop:=
 ndM (R2 seq) fun r3=>
 some (Rp r3)
def Yx (seq:List (Option Slot)) (Rp:(List Slot)→Prop):Option Prop:=
 ndM (Yc seq) fun r3=>
 some (Rp r3)
theorem G95 (seq:List (Option Slot)) (seq_f:FuncId) (seq_c:List AV) (seq_B:H7 Eo seq_f=true) (seq_d:Qy (fun _=>false) seq_c=true) (seq_w:Gb8 Eo seq_f seq_c ([]:List Nat) (Gda (fun a:Slot=>[.agg [I64 a.G2,I64 a.Tier,U8 a.Half]]) seq) (G4d seq)) (Rp:(List Slot)→Prop) (p:Prop) (h:Yx seq Rp=some p) (hp:p):Pure Eo 92 [.fn seq_f seq_c] (fun av=>∃ r,Rp r∧av=E9 r):=by
 unfold Yx at h
 refine Gy [.tmp 2] Tryz.func92 O O (Jr fun hK1=>(JLh (E9 ([]:List Slot)) (Hk 3 O O) O (G5 (hK1 (Jr fun hK2=>(JLm (.fn seq_f seq_c) O (Zq O O O (Ra0 (args:=[.sc (.slice none 0 0),.fn seq_f seq_c]) (g:=fun r=>E9 r) O (G6b seq seq_f seq_c seq_B seq_d seq_w _ _ h hp) R53 ⟨O,O,O,seq_d,G⟩) ?_)))))))
 rintro u_ L_ ⟨r3,⟨p4,h,hp⟩,rfl,rfl⟩
 refine JLm (E9 r3) O (G5 (hK2 (Gq (⟨[E9 r3],[],G,O,⟨⟨_,O,.conv (.same O)⟩,G⟩,O,r3,Eq.mpr (Option.some.inj h) hp,O⟩))))
theorem Gb5 (seq:List (Option Int)) (seq_f:FuncId) (seq_c:List AV) (seq_B:H7 Eo seq_f=true) (seq_d:Qy (fun _=>false) seq_c=true) (seq_w:Gb8 Eo seq_f seq_c ([]:List Nat) (Gda (fun a:Int=>[I64 a]) seq) (G4d seq)) (Rp:(List Int)→Prop) (p:Prop) (h:R2 seq Rp=some p) (hp:p):Jg Eo 144 [.sc (.slice none 0 0),.fn seq_f seq_c] [] (fun av L'=>∃ p:Nat,∃ r,Rp r∧av=.vec 1186 p 1 r.length∧L'=[(1186,.vec 3 1 p (r.map I64))]):=by
 unfold R2 at h
 refine Q9 [] [.tmp 4] Tryz.func144 O O (G4e O) (Jr fun hK1=>(JLh (.ptr 1184 0) (Jk (cs:=[.sc (.slice none 0 0)]) 1184 O O O O O) O (Y01 1184 0 1186 3 1 O O O (cs':=[.vec 1186 (([]:List Int).length) 1 (([]:List Int).length)]) O (JLh (.vec 1185 (([]:List Int).length) 1 (([]:List Int).length)) (H44 1185 3 1 O O O) O (G5 (hK1 (Js fun hK2=>Jr fun hK3=>(JLm (.fn seq_f seq_c) O (G5 (hK3 (Gw ?_)))))))))))
 obtain⟨b6,kx6,hb6,hkx6,h⟩:=H28 h
 refine H21 (ps:=[7]) [(2,.ptr 1184 0),(6,.fn seq_f seq_c)] (fun i6 (s6:(List Int))=>Gc8 b6 kx6 seq i6 s6) (fun s6=>[(1186,.vec 3 1 s6.length (s6.map I64)),(1185,.vec 3 1 (([]:List Int).length) (([]:List Int).map I64)),(1184,.box 51 [.vec 1186 s6.length 1 s6.length])]) [] rfl rfl seq_d seq_B seq_w (Gc8.start h hp) ⟨⟨.same rfl,.same (Jq _ _ seq_d),trivial⟩,⟨⟨_,rfl,.vec⟩,⟨_,rfl,.vec⟩,⟨_,rfl,.boxL rfl ⟨.same rfl,trivial⟩⟩,trivial⟩,rfl⟩ rfl (fun k_ us_ k2_ hk_=>by obtain⟨_,_,_,_,rfl,_⟩:=hk_; rfl) (fun p_ hp_=>Nat.blt_eq.mp (by revert p_; decide)) (fun _=>⟨.same rfl,.same (Jq _ _ seq_d),trivial⟩) (fun _=>rfl) ?_ ?_
 ·
  clear h hp
  rintro i6 us_ k_ s6 ⟨q6,x6,he6,hs6,rfl,rfl⟩ hi6 lr_ K6 e6
  obtain⟨o6,h,ho1_6,ho2_6⟩:=hi6.step he6 hs6
  replace h:=Q9b hb6 h
  change JC _ _ _ _ [(7,I64 x6),(2,.ptr 1184 0),(6,.fn seq_f seq_c)] [(1186,.vec 3 1 s6.length (s6.map I64)),(1185,.vec 3 1 (([]:List Int).length) (([]:List Int).map I64)),(1184,.box 51 [.vec 1186 s6.length 1 s6.length])]
  refine G1 (JLm (I64 x6) O (G5 (Qa6 (Gw (G1 (JLh (.vec 1186 s6.length 1 s6.length) (Hx Yi O O O O) O (JLm (I64 x6) O (JLh (E2 [x6]) (H8 (xs:=[I64 x6]) O ⟨O,O,G⟩ Gx R5 O O O O) O ?_))))))))
  obtain⟨ha7,h⟩:=J7 h
  refine JLh (.vec 1186 ((s6++[x6]).length) 1 ((s6++[x6]).length)) (G67 (f:=I64) (xs:=s6) (ys:=[x6]) (ver:=s6.length) (ver1:=(s6++[x6]).length) rfl rfl rfl rfl Gx Zt ha7 (fun _=>rfl) (.inl rfl) (by simp)) O (Ho (u:=.junk) (Hc (u:=.vec 1186 ((s6++[x6]).length) 1 ((s6++[x6]).length)) (ds:=[.vec 1186 ((s6++[x6]).length) 1 ((s6++[x6]).length)]) Hca O O O O O O O O) (G5 (e6 _ _ (s6++[x6]) (ho2_6 _ (Option.some.inj h).symm) ⟨G,⟨⟨_,O,.vec⟩,⟨_,O,.vec⟩,⟨_,O,.boxL O ⟨.same O,G⟩⟩,G⟩,O⟩)))
 ·
  clear h hp
  intro k_ s6 hf_ hi6
  obtain⟨p_,h,hp⟩:=hi6.done hf_
  replace h:=app1 hkx6 h
  refine hK2 (Jr fun hK8=>(JLh (.vec 1186 s6.length 1 s6.length) (Hx Yi O O O O) O (JLm (.vec 1186 s6.length 1 s6.length) O (G5 (hK8 (G81 4 O O (fun hn_=>Gq (⟨[.vec 1186 s6.length 1 s6.length],[(1186,.vec 3 1 s6.length (s6.map I64))],⟨⟨_,O,.vec⟩,G⟩,O,⟨⟨_,O,.conv (.same O)⟩,G⟩,s6.length,s6,Eq.mpr (Option.some.inj h) hp,congrArg (fun n_:Nat=>(.vec 1186 s6.length 1 n_:AV)) (hn_.trans (List.length_map _)),O⟩))))))))
theorem G51 (seq:List (Option Int)) (seq_f:FuncId) (seq_c:List AV) (seq_B:H7 Eo seq_f=true) (seq_d:Qy (fun _=>false) seq_c=true) (seq_w:Gb8 Eo seq_f seq_c ([]:List Nat) (Gda (fun a:Int=>[I64 a]) seq) (G4d seq)) (Rp:(List Int)→Prop) (p:Prop) (h:Rj seq Rp=some p) (hp:p):Jg Eo 99 [.fn seq_f seq_c] [] (fun av L'=>∃ p:Nat,∃ r,Rp r∧av=.vec 1186 p 1 r.length∧L'=[(1186,.vec 3 1 p (r.map I64))]):=by
 unfold Rj at h
 refine Q9 [] [.tmp 2] Tryz.func99 O O (G4e O) (Jr fun hK1=>(JLh (.vec 1153 (([]:List Int).length) 1 (([]:List Int).length)) (H44 1153 3 1 O O O) O (G5 (hK1 (Jr fun hK2=>(JLm (.fn seq_f seq_c) O (Zq O O O (Jec (args:=[.sc (.slice none 0 0),.fn seq_f seq_c]) (u:=fun(p:Nat) (r:List Int)=>.vec 1186 p 1 r.length) (Lr:=fun(p:Nat) (r:List Int)=>[(1186,.vec 3 1 p (r.map I64))]) O (Gb5 seq seq_f seq_c seq_B seq_d seq_w _ _ h hp) Jf6 ⟨.inl O,O,.inl O,(Jq _ _ seq_d),G⟩ (fun _ _=>O)) ?_)))))))
 rintro u_ L_ ⟨v5,r3,⟨p4,h,hp⟩,rfl,rfl⟩
 refine JLm (.vec 1186 v5 1 r3.length) O (G5 (hK2 (G81 2 O O (fun hn_=>Gq (⟨[.vec 1186 v5 1 r3.length],[(1186,.vec 3 1 v5 (r3.map I64))],⟨⟨_,O,.vec⟩,G⟩,O,⟨⟨_,O,.conv (.same O)⟩,G⟩,v5,r3,Eq.mpr (Option.some.inj h) hp,congrArg (fun n_:Nat=>(.vec 1186 v5 1 n_:AV)) (hn_.trans (List.length_map _)),O⟩)))))
def Y0 (seq:List (Option Int)) (Rp:(List Int)→Prop):Option Prop:=
 ndM (Rj seq) fun r3=>
 bnd (H6a r3) fun r7=>
 some (Rp r7)
theorem J09 (seq:List (Option Int)) (seq_f:FuncId) (seq_c:List AV) (seq_B:H7 Eo seq_f=true) (seq_d:Qy (fun _=>false) seq_c=true) (seq_w:Gb8 Eo seq_f seq_c ([]:List Nat) (Gda (fun a:Int=>[I64 a]) seq) (G4d seq)) (Rp:(List Int)→Prop) (p:Prop) (h:Y0 seq Rp=some p) (hp:p):Pure Eo 41 [.fn seq_f seq_c] (fun av=>∃ r,Rp r∧av=E2 r):=by
 unfold Y0 at h
 refine Gy [.tmp 2] Tryz.func41 O O (Jr fun hK1=>(JLh (E2 ([]:List Int)) (Hk 1 O O) O (G5 (hK1 (Jr fun hK2=>(JLm (.fn seq_f seq_c) O (Zq O O O (Jec (args:=[.fn seq_f seq_c]) (u:=fun(p:Nat) (r:List Int)=>.vec 1186 p 1 r.length) (Lr:=fun(p:Nat) (r:List Int)=>[(1186,.vec 3 1 p (r.map I64))]) O (G51 seq seq_f seq_c seq_B seq_d seq_w _ _ h hp) Q54 ⟨.inl O,(Jq _ _ seq_d),G⟩ (fun _ _=>O)) ?_)))))))
 rintro u_ L_ ⟨v5,r3,⟨p4,h,hp⟩,rfl,rfl⟩
 refine JLm (.vec 1186 v5 1 r3.length) O (G5 (hK2 (Jr fun hK6=>(JLm (.vec 1186 v5 1 r3.length) O ?_))))
 obtain⟨r7,hr7,h⟩:=Ga h
 refine JLh (.tup []) (Y39 (F:=100) (xs:=r3) (r:=r7) O J92 J57 Q00 O O O hr7 O) O (G5 (hK6 (Jr fun hK8=>(JLm (.vec 1186 v5 1 r3.length) O (JLm (.vec 1186 v5 1 r3.length) O (G5 (hK8 (Qbb [(2,E2 r7)] [] 1186 rfl rfl G rfl (by exact⟨.vec,G⟩) (Gq (⟨[E2 r7],[],G,O,⟨⟨_,O,.conv (.same O)⟩,G⟩,O,r7,Eq.mpr (Option.some.inj h) hp,O⟩))))))))))
theorem J0a (S_:(List (Option Int))→Option (List Int)) (hS_:∀ seq r,S_ seq=some r→∃ p:Prop,Y0 seq (fun r_=>r_=r)=some p∧p) (seq:List (Option Int)) (seq_f:FuncId) (seq_c:List AV) (seq_B:H7 Eo seq_f=true) (seq_d:Qy (fun _=>false) seq_c=true) (seq_w:Gb8 Eo seq_f seq_c ([]:List Nat) (Gda (fun a:Int=>[I64 a]) seq) (G4d seq)) (r:(List Int)) (h:S_ seq=some r):Pure Eo 41 [.fn seq_f seq_c] (·=E2 r):=by
 obtain⟨p,h1,h2⟩:=hS_ seq r h
 exact(J09 seq seq_f seq_c seq_B seq_d seq_w _ p h1 h2).monoP (fun av hh=>by obtain⟨r_,rfl,ha⟩:=hh; exact ha)


theorem Hf3 (seq:List (Option Int)) (seq_f:FuncId) (seq_c:List AV) (seq_B:H7 Eo seq_f=true) (seq_d:Qy (fun _=>false) seq_c=true) (seq_w:Gb8 Eo seq_f seq_c ([]:List Nat) (Gda (fun a:Int=>[I64 a]) seq) (G4d seq)) (Rp:(List Int)→Prop) (p:Prop) (h:Y0 seq Rp=some p) (hp:p):Jg Eo 41 [.fn seq_f seq_c] [] (fun av L'=>∃ p:Nat,∃ r,Rp r∧av=.vec 1186 p 1 r.length∧L'=[(1186,.vec 3 1 p (r.map I64))]):=by
 unfold Y0 at h
 refine Q9 [] [.tmp 2] Tryz.func41 O O (G4e O) (Jr fun hK1=>(JLh (.vec 1087 (([]:List Int).length) 1 (([]:List Int).length)) (H44 1087 3 1 O O O) O (G5 (hK1 (Jr fun hK2=>(JLm (.fn seq_f seq_c) O (Zq O O O (Jec (args:=[.fn seq_f seq_c]) (u:=fun(p:Nat) (r:List Int)=>.vec 1186 p 1 r.length) (Lr:=fun(p:Nat) (r:List Int)=>[(1186,.vec 3 1 p (r.map I64))]) O (G51 seq seq_f seq_c seq_B seq_d seq_w _ _ h hp) Q54 ⟨.inl O,(Jq _ _ seq_d),G⟩ (fun _ _=>O)) ?_)))))))
 rintro u_ L_ ⟨v5,r3,⟨p4,h,hp⟩,rfl,rfl⟩
 refine JLm (.vec 1186 v5 1 r3.length) O (G5 (hK2 (Jr fun hK6=>(JLm (.vec 1186 v5 1 r3.length) O ?_))))
 obtain⟨r7,hr7,h⟩:=Ga h
 refine JLh (.tup []) (Y39 (F:=100) (xs:=r3) (r:=r7) O J92 J57 Q00 O O O hr7 O) O (G5 (hK6 (Jr fun hK8=>(JLm (.vec 1186 v5 1 r3.length) O (JLm (.vec 1186 v5 1 r3.length) O (G5 (hK8 (G81 2 O O (fun hn_=>Gq (⟨[.vec 1186 v5 1 r3.length],[(1186,.vec 3 1 v5 (r7.map I64))],⟨⟨_,O,.vec⟩,G⟩,O,⟨⟨_,O,.conv (.same O)⟩,G⟩,v5,r7,Eq.mpr (Option.some.inj h) hp,congrArg (fun n_:Nat=>(.vec 1186 v5 1 n_:AV)) (hn_.trans (List.length_map _)),O⟩))))))))))
theorem Hf2 (S_:(List (Option Int))→Option (List Int)) (hS_:∀ seq r,S_ seq=some r→∃ p:Prop,Y0 seq (fun r_=>r_=r)=some p∧p) (seq:List (Option Int)) (seq_f:FuncId) (seq_c:List AV) (seq_B:H7 Eo seq_f=true) (seq_d:Qy (fun _=>false) seq_c=true) (seq_w:Gb8 Eo seq_f seq_c ([]:List Nat) (Gda (fun a:Int=>[I64 a]) seq) (G4d seq)) (r:(List Int)) (h:S_ seq=some r):Jg Eo 41 [.fn seq_f seq_c] [] (fun av L'=>∃ p:Nat,av=.vec 1186 p 1 r.length∧L'=[(1186,.vec 3 1 p (r.map I64))]):=by
 obtain⟨p,h1,h2⟩:=hS_ seq r h
 exact(Hf3 seq seq_f seq_c seq_B seq_d seq_w _ p h1 h2).mono (fun av L hh=>by obtain⟨q,r_,rfl,ha,hb⟩:=hh; exact⟨q,ha,hb⟩)
end
end Go.Proofs.YtidpfkmbfgihlaaGreat
