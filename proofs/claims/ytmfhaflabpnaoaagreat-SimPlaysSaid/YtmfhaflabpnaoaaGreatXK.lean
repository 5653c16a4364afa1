/- Walks of functions. -/
import Derived.Test.YtmfhaflabpnaoaaGreatSpecS
set_option maxRecDepth 100000
set_option maxHeartbeats 1000000
set_option linter.unusedVariables false
set_option linter.unusedSimpArgs false
namespace Go.Proofs.YtmfhaflabpnaoaaGreat
open Go.RowKit
noncomputable section

namespace XKF
open XAF
open XLF
open XCF
open XSF
theorem Qe6:H9 Ek 120=true:=by kernel_rfl
theorem J95:H9 Ek 123=true:=by kernel_rfl
theorem Jec:H9 Ek 91=true:=by kernel_rfl
theorem Jeb:H9 Ek 92=true:=by kernel_rfl
theorem J18:Zd Ek 50 3 24=true:=by kernel_rfl
theorem Ge6:Zc Ek 76 3 84=true:=by kernel_rfl
theorem G14:Rm Ek 76=true:=by kernel_rfl
theorem Qdc:Zh Ek 106 1=true:=by kernel_rfl
theorem G7c:Zh Ek 35 1=true:=by kernel_rfl
end XKF
open XAF
open XLF
open XCF
open XSF
open XKF


theorem G6b (c:Gv Int Box):Ga1 Ek 93 [.dptr [DM Kn Box.av c]] ([]:List Nat) (Gc5 (fun a:Int=>[I64 a]) (Gv.keys c)) (G50 (Gv.keys c)):=by
 refine J62 Tryz.func93 O O ?_
 intro E hE hnx
 refine G5e (fun v j=>G33 (Yt (u:=DM Kn Box.av c) hE (Ge G14 O O O) ?_ O O O O))
 refine Yt (u:=.it 1125) hE (H4a 1125 (kv:=Kn) (av:=Box.av) (m:=c) O O .data O Ge6) ?_ O O O O
 refine G5f ?_
 refine j _ _ _ (H8e (Jd6 (X:=List Nat) (fun _=>True) (fun d=>[(0,.sc (.func (.yield E.lp) #[] #[])),(5,.it 1125)]) (fun d=>[(1125,.iter (DM Kn Box.av c) c.l.length d)]) (fun d=>d) (fun d=>unseen (c.l.length) d) [] True.intro ⟨(.sm O O),⟨⟨_,O,.iter O⟩,G⟩,O⟩ O ?_))
 intro d _ w s
 refine G5e (fun x h=>G33 (Q52 hE O O O (Hb8 (kv:=Kn) (av:=Box.av) (m:=c) (fun _=>O) O O O .data) ?_))
 intro u_ L_ hn_
 rcases hn_ with ⟨k,f,g,i,rfl,rfl⟩ | ⟨n,rfl,rfl⟩
 ·
  refine Yt (u:=BL true) hE (H4 O O O) ?_ O O O O
  refine G5f ?_
  refine h _ _ _ (G5e (fun y o=>Q51 O (Hff (o _ _ _ (H8e (G5e (fun z p=>G33 (Yt (u:=.tup [I64 f.1,.agg (Box.cs f.2)]) hE (J34 (kv:=Kn) (av:=Box.av) (m:=c) (q:=k) (seen:=d) (e:=f) (fun _=>O) O O O .data g) ?_ O O O O))))))))
  refine Yt (u:=I64 f.1) hE (H4 O O O) ?_ O O O O
  refine Yt (u:=I64 f.1) hE (G9 O O) ?_ O O O O
  refine G5f ?_
  refine p _ _ _ (G5e (fun K6 r=>G33 (Yt (u:=.sc (.func (.yield E.lp) #[] #[])) hE (G7 O O) ?_ O O O O)))
  refine Yt (u:=I64 f.1) hE (G7 O O) ?_ O O O O
  refine J8a (us:=[I64 f.1]) hE rfl rfl ⟨rfl,rfl,G⟩ (by rw [hnx]; exact Qb7 g i) ?_ rfl rfl rfl
  refine Yt (u:=BL false) hE (R2 (b:=true) O O) ?_ O O O O
  refine G5f ?_
  refine r _ _ _ (H8d O (Hff (s _ _ (d++[k]) True.intro (G90 (M0 g).1 i) ⟨(.sm O O),⟨⟨_,O,.iter O⟩,G⟩,O⟩)))
 ·
  refine Yt (u:=BL false) hE (H4 O O O) ?_ O O O O
  refine G5f ?_
  refine h _ _ _ (G5e (fun K7 t=>H8d O (Qca (Q2c n))))


theorem Ga0 (c:Gv Int Int):Ga1 Ek 94 [.dptr [DM Kn I64 c]] ([]:List Nat) (Gc5 (fun a:Int=>[I64 a]) (Gv.keys c)) (G50 (Gv.keys c)):=by
 refine J62 Tryz.func94 O O ?_
 intro E hE hnx
 refine G5e (fun v j=>G33 (Yt (u:=DM Kn I64 c) hE (Ge G59 O O O) ?_ O O O O))
 refine Yt (u:=.it 1126) hE (H4a 1126 (kv:=Kn) (av:=I64) (m:=c) O O .data O H2c) ?_ O O O O
 refine G5f ?_
 refine j _ _ _ (H8e (Jd6 (X:=List Nat) (fun _=>True) (fun d=>[(0,.sc (.func (.yield E.lp) #[] #[])),(5,.it 1126)]) (fun d=>[(1126,.iter (DM Kn I64 c) c.l.length d)]) (fun d=>d) (fun d=>unseen (c.l.length) d) [] True.intro ⟨(.sm O O),⟨⟨_,O,.iter O⟩,G⟩,O⟩ O ?_))
 intro d _ w s
 refine G5e (fun x h=>G33 (Q52 hE O O O (Hb8 (kv:=Kn) (av:=I64) (m:=c) (fun _=>O) O O O .data) ?_))
 intro u_ L_ hn_
 rcases hn_ with ⟨k,f,g,i,rfl,rfl⟩ | ⟨n,rfl,rfl⟩
 ·
  refine Yt (u:=BL true) hE (H4 O O O) ?_ O O O O
  refine G5f ?_
  refine h _ _ _ (G5e (fun y o=>Q51 O (Hff (o _ _ _ (H8e (G5e (fun z p=>G33 (Yt (u:=.tup [I64 f.1,I64 f.2]) hE (J34 (kv:=Kn) (av:=I64) (m:=c) (q:=k) (seen:=d) (e:=f) (fun _=>O) O O O .data g) ?_ O O O O))))))))
  refine Yt (u:=I64 f.1) hE (H4 O O O) ?_ O O O O
  refine Yt (u:=I64 f.1) hE (G9 O O) ?_ O O O O
  refine G5f ?_
  refine p _ _ _ (G5e (fun K6 r=>G33 (Yt (u:=.sc (.func (.yield E.lp) #[] #[])) hE (G7 O O) ?_ O O O O)))
  refine Yt (u:=I64 f.1) hE (G7 O O) ?_ O O O O
  refine J8a (us:=[I64 f.1]) hE rfl rfl ⟨rfl,rfl,G⟩ (by rw [hnx]; exact Qb7 g i) ?_ rfl rfl rfl
  refine Yt (u:=BL false) hE (R2 (b:=true) O O) ?_ O O O O
  refine G5f ?_
  refine r _ _ _ (H8d O (Hff (s _ _ (d++[k]) True.intro (G90 (M0 g).1 i) ⟨(.sm O O),⟨⟨_,O,.iter O⟩,G⟩,O⟩)))
 ·
  refine Yt (u:=BL false) hE (H4 O O O) ?_ O O O O
  refine G5f ?_
  refine h _ _ _ (G5e (fun K7 t=>H8d O (Qca (Q2c n))))


theorem Gdb (c:Gv Slot Box):Ga1 Ek 121 [.dptr [DM Slot.kv Box.av c]] ([]:List Nat) (Gc5 (fun a:Slot=>[.agg [I64 a.G1,I64 a.Tier,U8 a.Half]]) (Gv.keys c)) (G50 (Gv.keys c)):=by
 refine J62 Tryz.func121 O O ?_
 intro E hE hnx
 refine G5e (fun v j=>G33 (Yt (u:=DM Slot.kv Box.av c) hE (Ge Y5 O O O) ?_ O O O O))
 refine Yt (u:=.it 1147) hE (H4a 1147 (kv:=Slot.kv) (av:=Box.av) (m:=c) O O .data O G4e) ?_ O O O O
 refine G5f ?_
 refine j _ _ _ (H8e (Jd6 (X:=List Nat) (fun _=>True) (fun f=>[(0,.sc (.func (.yield E.lp) #[] #[])),(5,.it 1147)]) (fun f=>[(1147,.iter (DM Slot.kv Box.av c) c.l.length f)]) (fun f=>f) (fun f=>unseen (c.l.length) f) [] True.intro ⟨(.sm O O),⟨⟨_,O,.iter O⟩,G⟩,O⟩ O ?_))
 intro f _ w s
 refine G5e (fun x h=>G33 (Q52 hE O O O (Hb8 (kv:=Slot.kv) (av:=Box.av) (m:=c) (fun _=>O) O O O .data) ?_))
 intro u_ L_ hn_
 rcases hn_ with ⟨k,d,g,i,rfl,rfl⟩ | ⟨n,rfl,rfl⟩
 ·
  refine Yt (u:=BL true) hE (H4 O O O) ?_ O O O O
  refine G5f ?_
  refine h _ _ _ (G5e (fun y o=>Q51 O (Hff (o _ _ _ (H8e (G5e (fun z p=>G33 (Yt (u:=.tup [.agg (Slot.cs d.1),.agg (Box.cs d.2)]) hE (J34 (kv:=Slot.kv) (av:=Box.av) (m:=c) (q:=k) (seen:=f) (e:=d) (fun _=>O) O O O .data g) ?_ O O O O))))))))
  refine Yt (u:=.agg (Slot.cs d.1)) hE (H4 O O O) ?_ O O O O
  refine Yt (u:=.ptr 1146 0) hE (Jn 1146 3 G19 O O) ?_ O O O O
  refine Y6b (u:=.junk) hE (He (u:=.agg (Slot.cs d.1)) (ds:=[I64 d.1.G1,I64 d.1.Tier,U8 d.1.Half]) G7b O O O O O O O O) ?_ O O O
  refine G5f ?_
  refine p _ _ _ (G5e (fun K6 r=>G33 (Yt (u:=.sc (.func (.yield E.lp) #[] #[])) hE (G7 O O) ?_ O O O O)))
  refine Yt (u:=.agg (Slot.cs d.1)) hE (Ra Hx O O O O) ?_ O O O O
  refine J8a (us:=[.agg (Slot.cs d.1)]) hE rfl rfl ⟨rfl,rfl,G⟩ (by rw [hnx]; exact Qb7 g i) ?_ rfl rfl rfl
  refine Yt (u:=BL false) hE (R2 (b:=true) O O) ?_ O O O O
  refine G5f ?_
  refine r _ _ _ (H8d O (Hff (s _ _ (f++[k]) True.intro (G90 (M0 g).1 i) ⟨(.sm O O),⟨⟨_,O,.iter O⟩,G⟩,O⟩)))
 ·
  refine Yt (u:=BL false) hE (H4 O O O) ?_ O O O O
  refine G5f ?_
  refine h _ _ _ (G5e (fun K7 t=>H8d O (Qca (Q2c n))))

def G4a (m:Gv Int Box):Option Unit:=
 some ()
theorem G8d (m:Gv Int Box) (r:Unit) (h:G4a m=some r):Pure Ek 46 [DM Kn Box.av m] (·=.fn 93 [.dptr [DM Kn Box.av m]]):=by
 unfold G4a at h
 refine H3 [.tmp 2] Tryz.func46 O O (Jr fun a=>(JLh (.ptr 1071 0) (Ju (cs:=[DM Kn Box.av m]) 1071 O O O O O) O (JLm (.sc .nilFunc) O (G8 (a (Gu [(1,.dptr [DM Kn Box.av m])] [] 1071 rfl rfl rfl G rfl (by exact⟨.ptr,G⟩) (Jr fun b=>(JLh (.fn 93 [.dptr [DM Kn Box.av m]]) (R0 (cs:=[.dptr [DM Kn Box.av m]]) O O) O (JLm (.fn 93 [.dptr [DM Kn Box.av m]]) O (G8 (b (Gs (⟨[.fn 93 [.dptr [DM Kn Box.av m]]],[],G,O,⟨⟨_,O,.conv (.same O)⟩,G⟩,O,congrArg (fun _:Unit=>(.fn 93 [.dptr [DM Kn Box.av m]]:AV)) (M2 h)⟩)))))))))))))

def G75 (m:Gv Int Int):Option Unit:=
 some ()
theorem Gcd (m:Gv Int Int) (r:Unit) (h:G75 m=some r):Pure Ek 47 [DM Kn I64 m] (·=.fn 94 [.dptr [DM Kn I64 m]]):=by
 unfold G75 at h
 refine H3 [.tmp 2] Tryz.func47 O O (Jr fun a=>(JLh (.ptr 1072 0) (Ju (cs:=[DM Kn I64 m]) 1072 O O O O O) O (JLm (.sc .nilFunc) O (G8 (a (Gu [(1,.dptr [DM Kn I64 m])] [] 1072 rfl rfl rfl G rfl (by exact⟨.ptr,G⟩) (Jr fun b=>(JLh (.fn 94 [.dptr [DM Kn I64 m]]) (R0 (cs:=[.dptr [DM Kn I64 m]]) O O) O (JLm (.fn 94 [.dptr [DM Kn I64 m]]) O (G8 (b (Gs (⟨[.fn 94 [.dptr [DM Kn I64 m]]],[],G,O,⟨⟨_,O,.conv (.same O)⟩,G⟩,O,congrArg (fun _:Unit=>(.fn 94 [.dptr [DM Kn I64 m]]:AV)) (M2 h)⟩)))))))))))))

def G0f (m:Gv Slot Box):Option Unit:=
 some ()
theorem Gf0 (m:Gv Slot Box) (r:Unit) (h:G0f m=some r):Pure Ek 88 [DM Slot.kv Box.av m] (·=.fn 121 [.dptr [DM Slot.kv Box.av m]]):=by
 unfold G0f at h
 refine H3 [.tmp 2] Tryz.func88 O O (Jr fun a=>(JLh (.ptr 1118 0) (Ju (cs:=[DM Slot.kv Box.av m]) 1118 O O O O O) O (JLm (.sc .nilFunc) O (G8 (a (Gu [(1,.dptr [DM Slot.kv Box.av m])] [] 1118 rfl rfl rfl G rfl (by exact⟨.ptr,G⟩) (Jr fun b=>(JLh (.fn 121 [.dptr [DM Slot.kv Box.av m]]) (R0 (cs:=[.dptr [DM Slot.kv Box.av m]]) O O) O (JLm (.fn 121 [.dptr [DM Slot.kv Box.av m]]) O (G8 (b (Gs (⟨[.fn 121 [.dptr [DM Slot.kv Box.av m]]],[],G,O,⟨⟨_,O,.conv (.same O)⟩,G⟩,O,congrArg (fun _:Unit=>(.fn 121 [.dptr [DM Slot.kv Box.av m]]:AV)) (M2 h)⟩)))))))))))))

def Qv (seq:List (Option Int)) (Rp:(List Int)→Prop):Option Prop:=
 Hbc (fun(b:Int) (a:(List Int)) c=>
  need (decide ((a.length+[b].length)*8≤140737488355328∧a.length+[b].length≤maxLen)) <|
  c (a++[b]))
 (fun(a:(List Int))=>
  some (Rp a)) (seq.filterMap id) []
def Y2 (seq:List (Option Slot)) (Rp:(List Slot)→Prop):Option Prop:=
 Hbc (fun(b:Slot) (a:(List Slot)) c=>
  need (decide ((a.length+[b].length)*24≤140737488355328∧a.length+[b].length≤maxLen)) <|
  c (a++[b]))
 (fun(a:(List Slot))=>
  some (Rp a)) (seq.filterMap id) []
theorem G67 (seq:List (Option Slot)) (seq_f:FuncId) (seq_c:List AV) (seq_B:H9 Ek seq_f=true) (seq_d:Qs (fun _=>false) seq_c=true) (seq_w:Ga1 Ek seq_f seq_c ([]:List Nat) (Gc5 (fun a:Slot=>[.agg [I64 a.G1,I64 a.Tier,U8 a.Half]]) seq) (G50 seq)) (Rp:(List Slot)→Prop) (p:Prop) (h:Y2 seq Rp=some p) (hp:p):Pure Ek 120 [.sc (.slice none 0 0),.fn seq_f seq_c] (fun av=>∃ r,Rp r∧av=E9 r):=by
 unfold Y2 at h
 refine H3 [.tmp 4] Tryz.func120 O O (Jr fun i=>(JLh (.ptr 1143 0) (Ju (cs:=[.sc (.slice none 0 0)]) 1143 O O O O O) O (Q50 1143 0 1145 50 3 O O O (cs':=[OW 1145 3 Slot.av ([]:List Slot)]) O (JLh (E9 ([]:List Slot)) (Jb 3 O O) O (G8 (i (Js fun j=>Jr fun k=>(JLm (.fn seq_f seq_c) O (G8 (k (Gx ?_)))))))))))
 obtain⟨w,l,m,g,h⟩:=H05 h
 refine Gfc (ps:=[7]) [(2,.ptr 1143 0),(6,.fn seq_f seq_c)] (fun n (b:(List Slot))=>Gb5 w l seq n b) (fun b=>[(1145,.spare 50 3 b.length b.length),(1143,.box 106 [OW 1145 3 Slot.av b])]) [] rfl rfl seq_d seq_B seq_w (Gb5.start h hp) ⟨⟨.same rfl,.same (Q7 _ _ seq_d),trivial⟩,⟨⟨_,rfl,.same⟩,fbQ O ⟨.same rfl,trivial⟩,trivial⟩,rfl⟩ rfl (fun k_ us_ k2_ hk_=>by obtain⟨_,_,_,_,rfl,_⟩:=hk_; rfl) (fun p_ hp_=>Nat.blt_eq.mp (by revert p_; decide)) (fun _=>⟨.same rfl,.same (Q7 _ _ seq_d),trivial⟩) (fun _=>rfl) ?_ ?_
 ·
  clear h hp
  rintro n us_ k_ b ⟨y,c,o,q,rfl,rfl⟩ d lr_ z x
  obtain⟨o6,h,v,e⟩:=d.step o q
  replace h:=Jbd m h
  change JC _ _ _ _ [(7,.agg [I64 c.G1,I64 c.Tier,U8 c.Half]),(2,.ptr 1143 0),(6,.fn seq_f seq_c)] [(1145,.spare 50 3 b.length b.length),(1143,.box 106 [OW 1145 3 Slot.av b])]
  refine G2 (JLh (.ptr 1144 0) (Jn 1144 3 G19 O O) O (J9 (u:=.junk) (He (u:=.agg [I64 c.G1,I64 c.Tier,U8 c.Half]) (ds:=[I64 c.G1,I64 c.Tier,U8 c.Half]) G7b O O O O O O O O) (G8 (R88 [(2,.ptr 1143 0),(5,.dptr [I64 c.G1,I64 c.Tier,U8 c.Half])] [(1145,.spare 50 3 b.length b.length),(1143,.box 106 [OW 1145 3 Slot.av b])] 1144 rfl rfl rfl ⟨⟨_,rfl,.same⟩,⟨_,rfl,.boxEq rfl rfl⟩,G⟩ rfl (by exact⟨.conv (.same rfl),.ptr,G⟩) (R87 (Gx (G2 ?_)))))))
  refine JLh (OW 1145 3 Slot.av b) (J8 H62 O O O O) O (JLh (.agg [I64 c.G1,I64 c.Tier,U8 c.Half]) (Gt Hx O O O) O (JLh (E9 [c]) (J2 (xs:=[.agg [I64 c.G1,I64 c.Tier,U8 c.Half]]) O ⟨O,O,G⟩ Rj G19 O O O O) O ?_))
  obtain⟨s,h⟩:=Qa h
  refine JLh (OW 1145 3 Slot.av (b++[c])) (Z1 (f:=Slot.av) (xs:=b) (ys:=[c]) O O O O Rj J18 s (fun _=>O) (.inl O) O) O (J9 (u:=.junk) (He (u:=OW 1145 3 Slot.av (b++[c])) (ds:=[OW 1145 3 Slot.av (b++[c])]) Qdc O O O O O O O O) (G8 (x _ _ (b++[c]) (e _ (M2 h).symm) ⟨G,⟨⟨_,O,.same⟩,⟨_,O,.boxL O ⟨.same O,G⟩⟩,G⟩,O⟩)))
 ·
  clear h hp
  intro k_ b hf_ d
  obtain⟨p_,h,hp⟩:=d.done hf_
  replace h:=app1 g h
  refine j (Jr fun t=>(JLh (OW 1145 3 Slot.av b) (J8 H62 O O O O) O (JLm (OW 1145 3 Slot.av b) O (G8 (t (Qw (l':=[(4,E9 b)]) (L':=[(1143,.box 106 [E9 b])]) ⟨⟨.list O,G⟩,⟨⟨_,O,.boxL O ⟨.list O,G⟩⟩,G⟩,O⟩ (Gu [(4,E9 b)] [] 1143 rfl rfl rfl G rfl (by exact⟨.conv (.same rfl),G⟩) (Gs (⟨[E9 b],[],G,O,⟨⟨_,O,.conv (.same O)⟩,G⟩,O,b,Eq.mpr (M2 h) hp,O⟩)))))))))
def Rh (seq:List (Option Int)) (Rp:(List Int)→Prop):Option Prop:=
 ndM (Qv seq) fun a=>
 some (Rp a)
def Yn (seq:List (Option Slot)) (Rp:(List Slot)→Prop):Option Prop:=
 ndM (Y2 seq) fun a=>
 some (Rp a)
theorem G85 (seq:List (Option Slot)) (seq_f:FuncId) (seq_c:List AV) (seq_B:H9 Ek seq_f=true) (seq_d:Qs (fun _=>false) seq_c=true) (seq_w:Ga1 Ek seq_f seq_c ([]:List Nat) (Gc5 (fun a:Slot=>[.agg [I64 a.G1,I64 a.Tier,U8 a.Half]]) seq) (G50 seq)) (Rp:(List Slot)→Prop) (p:Prop) (h:Yn seq Rp=some p) (hp:p):Pure Ek 87 [.fn seq_f seq_c] (fun av=>∃ r,Rp r∧av=E9 r):=by
 unfold Yn at h
 refine H3 [.tmp 2] Tryz.func87 O O (Jr fun c=>(JLh (E9 ([]:List Slot)) (Jb 3 O O) O (G8 (c (Jr fun d=>(JLm (.fn seq_f seq_c) O (G18 O O O (R29 (args:=[.sc (.slice none 0 0),.fn seq_f seq_c]) (g:=fun r=>E9 r) O (G67 seq seq_f seq_c seq_B seq_d seq_w _ _ h hp) Qe6 ⟨O,O,O,seq_d,G⟩) ?_)))))))
 rintro u_ L_ ⟨b,⟨e,h,hp⟩,rfl,rfl⟩
 refine JLm (E9 b) O (G8 (d (Gs (⟨[E9 b],[],G,O,⟨⟨_,O,.conv (.same O)⟩,G⟩,O,b,Eq.mpr (M2 h) hp,O⟩))))
theorem G9f (seq:List (Option Int)) (seq_f:FuncId) (seq_c:List AV) (seq_B:H9 Ek seq_f=true) (seq_d:Qs (fun _=>false) seq_c=true) (seq_w:Ga1 Ek seq_f seq_c ([]:List Nat) (Gc5 (fun a:Int=>[I64 a]) seq) (G50 seq)) (Rp:(List Int)→Prop) (p:Prop) (h:Qv seq Rp=some p) (hp:p):Jx Ek 123 [.sc (.slice none 0 0),.fn seq_f seq_c] [] (fun av L'=>∃ p:Nat,∃ r,Rp r∧av=.vec 1151 p 1 r.length∧L'=[(1151,.vec 3 1 p (r.map I64))]):=by
 unfold Qv at h
 refine Ye [] [.tmp 4] Tryz.func123 O O (H18 O) (Jr fun i=>(JLh (.ptr 1149 0) (Ju (cs:=[.sc (.slice none 0 0)]) 1149 O O O O O) O (R89 1149 0 1151 3 1 O O O (cs':=[.vec 1151 (([]:List Int).length) 1 (([]:List Int).length)]) O (JLh (.vec 1150 (([]:List Int).length) 1 (([]:List Int).length)) (H49 1150 3 1 O O O) O (G8 (i (Js fun j=>Jr fun k=>(JLm (.fn seq_f seq_c) O (G8 (k (Gx ?_)))))))))))
 obtain⟨w,l,m,g,h⟩:=H05 h
 refine Gfc (ps:=[7]) [(2,.ptr 1149 0),(6,.fn seq_f seq_c)] (fun n (b:(List Int))=>Gb5 w l seq n b) (fun b=>[(1151,.vec 3 1 b.length (b.map I64)),(1150,.vec 3 1 (([]:List Int).length) (([]:List Int).map I64)),(1149,.box 35 [.vec 1151 b.length 1 b.length])]) [] rfl rfl seq_d seq_B seq_w (Gb5.start h hp) ⟨⟨.same rfl,.same (Q7 _ _ seq_d),trivial⟩,⟨⟨_,rfl,.vec⟩,⟨_,rfl,.vec⟩,fbQ O ⟨.same rfl,trivial⟩,trivial⟩,rfl⟩ rfl (fun k_ us_ k2_ hk_=>by obtain⟨_,_,_,_,rfl,_⟩:=hk_; rfl) (fun p_ hp_=>Nat.blt_eq.mp (by revert p_; decide)) (fun _=>⟨.same rfl,.same (Q7 _ _ seq_d),trivial⟩) (fun _=>rfl) ?_ ?_
 ·
  clear h hp
  rintro n us_ k_ b ⟨y,c,o,q,rfl,rfl⟩ d lr_ z x
  obtain⟨o6,h,v,e⟩:=d.step o q
  replace h:=Jbd m h
  change JC _ _ _ _ [(7,I64 c),(2,.ptr 1149 0),(6,.fn seq_f seq_c)] [(1151,.vec 3 1 b.length (b.map I64)),(1150,.vec 3 1 (([]:List Int).length) (([]:List Int).map I64)),(1149,.box 35 [.vec 1151 b.length 1 b.length])]
  refine G2 (JLm (I64 c) O (G8 (R87 (Gx (G2 (JLh (.vec 1151 b.length 1 b.length) (J8 Hq O O O O) O (JLm (I64 c) O (JLh (E1 [c]) (J2 (xs:=[I64 c]) O ⟨O,O,G⟩ Gz Yr O O O O) O ?_))))))))
  obtain⟨s,h⟩:=Qa h
  refine JLh (.vec 1151 ((b++[c]).length) 1 ((b++[c]).length)) (Gf3 (f:=I64) (xs:=b) (ys:=[c]) (ver:=b.length) (ver1:=(b++[c]).length) rfl rfl rfl rfl Gz G31 s (fun _=>rfl) (.inl rfl) (by simp)) O (J9 (u:=.junk) (He (u:=.vec 1151 ((b++[c]).length) 1 ((b++[c]).length)) (ds:=[.vec 1151 ((b++[c]).length) 1 ((b++[c]).length)]) G7c O O O O O O O O) (G8 (x _ _ (b++[c]) (e _ (M2 h).symm) ⟨G,⟨⟨_,O,.vec⟩,⟨_,O,.vec⟩,⟨_,O,.boxL O ⟨.same O,G⟩⟩,G⟩,O⟩)))
 ·
  clear h hp
  intro k_ b hf_ d
  obtain⟨p_,h,hp⟩:=d.done hf_
  replace h:=app1 g h
  refine j (Jr fun t=>(JLh (.vec 1151 b.length 1 b.length) (J8 Hq O O O O) O (JLm (.vec 1151 b.length 1 b.length) O (G8 (t (Gbb 4 O O (fun hn_=>Gs (⟨[.vec 1151 b.length 1 b.length],[(1151,.vec 3 1 b.length (b.map I64))],⟨⟨_,O,.vec⟩,G⟩,O,⟨⟨_,O,.conv (.same O)⟩,G⟩,b.length,b,Eq.mpr (M2 h) hp,congrArg (fun n_:Nat=>(.vec 1151 b.length 1 n_:AV)) (hn_.trans (Mg _)),O⟩))))))))
theorem G51 (seq:List (Option Int)) (seq_f:FuncId) (seq_c:List AV) (seq_B:H9 Ek seq_f=true) (seq_d:Qs (fun _=>false) seq_c=true) (seq_w:Ga1 Ek seq_f seq_c ([]:List Nat) (Gc5 (fun a:Int=>[I64 a]) seq) (G50 seq)) (Rp:(List Int)→Prop) (p:Prop) (h:Rh seq Rp=some p) (hp:p):Jx Ek 91 [.fn seq_f seq_c] [] (fun av L'=>∃ p:Nat,∃ r,Rp r∧av=.vec 1151 p 1 r.length∧L'=[(1151,.vec 3 1 p (r.map I64))]):=by
 unfold Rh at h
 refine Ye [] [.tmp 2] Tryz.func91 O O (H18 O) (Jr fun d=>(JLh (.vec 1124 (([]:List Int).length) 1 (([]:List Int).length)) (H49 1124 3 1 O O O) O (G8 (d (Jr fun e=>(JLm (.fn seq_f seq_c) O (G18 O O O (J8d (args:=[.sc (.slice none 0 0),.fn seq_f seq_c]) (u:=fun(p:Nat) (r:List Int)=>.vec 1151 p 1 r.length) (Lr:=fun(p:Nat) (r:List Int)=>[(1151,.vec 3 1 p (r.map I64))]) O (G9f seq seq_f seq_c seq_B seq_d seq_w _ _ h hp) J95 ⟨.inl O,O,.inl O,(Q7 _ _ seq_d),G⟩ (fun _ _=>O)) ?_)))))))
 rintro u_ L_ ⟨b,c,⟨f,h,hp⟩,rfl,rfl⟩
 refine JLm (.vec 1151 b 1 c.length) O (G8 (e (Gbb 2 O O (fun hn_=>Gs (⟨[.vec 1151 b 1 c.length],[(1151,.vec 3 1 b (c.map I64))],⟨⟨_,O,.vec⟩,G⟩,O,⟨⟨_,O,.conv (.same O)⟩,G⟩,b,c,Eq.mpr (M2 h) hp,congrArg (fun n_:Nat=>(.vec 1151 b 1 n_:AV)) (hn_.trans (Mg _)),O⟩)))))
def Rw (seq:List (Option Int)) (Rp:(List Int)→Prop):Option Prop:=
 ndM (Rh seq) fun a=>
 bnd (H37 a) fun b=>
 some (Rp b)
theorem Hc7 (seq:List (Option Int)) (seq_f:FuncId) (seq_c:List AV) (seq_B:H9 Ek seq_f=true) (seq_d:Qs (fun _=>false) seq_c=true) (seq_w:Ga1 Ek seq_f seq_c ([]:List Nat) (Gc5 (fun a:Int=>[I64 a]) seq) (G50 seq)) (Rp:(List Int)→Prop) (p:Prop) (h:Rw seq Rp=some p) (hp:p):Pure Ek 45 [.fn seq_f seq_c] (fun av=>∃ r,Rp r∧av=E1 r):=by
 unfold Rw at h
 refine H3 [.tmp 2] Tryz.func45 O O (Jr fun e=>(JLh (E1 ([]:List Int)) (Jb 1 O O) O (G8 (e (Jr fun f=>(JLm (.fn seq_f seq_c) O (G18 O O O (J8d (args:=[.fn seq_f seq_c]) (u:=fun(p:Nat) (r:List Int)=>.vec 1151 p 1 r.length) (Lr:=fun(p:Nat) (r:List Int)=>[(1151,.vec 3 1 p (r.map I64))]) O (G51 seq seq_f seq_c seq_B seq_d seq_w _ _ h hp) Jec ⟨.inl O,(Q7 _ _ seq_d),G⟩ (fun _ _=>O)) ?_)))))))
 rintro u_ L_ ⟨c,b,⟨k,h,hp⟩,rfl,rfl⟩
 refine JLm (.vec 1151 c 1 b.length) O (G8 (f (Jr fun g=>(JLm (.vec 1151 c 1 b.length) O ?_))))
 obtain⟨d,i,h⟩:=Gj h
 refine JLh (.tup []) (Rbd (F:=92) (xs:=b) (r:=d) O Ja2 J3c Jeb O O O i O) O (G8 (g (Jr fun j=>(JLm (.vec 1151 c 1 b.length) O (JLm (.vec 1151 c 1 b.length) O (G8 (j (Q53 [(2,E1 d)] [] 1151 rfl rfl G rfl (by exact⟨.vec,G⟩) (Gs (⟨[E1 d],[],G,O,⟨⟨_,O,.conv (.same O)⟩,G⟩,O,d,Eq.mpr (M2 h) hp,O⟩))))))))))
theorem Hc8 (S_:(List (Option Int))→Option (List Int)) (hS_:∀ seq r,S_ seq=some r→∃ p:Prop,Rw seq (fun r_=>r_=r)=some p∧p) (seq:List (Option Int)) (seq_f:FuncId) (seq_c:List AV) (seq_B:H9 Ek seq_f=true) (seq_d:Qs (fun _=>false) seq_c=true) (seq_w:Ga1 Ek seq_f seq_c ([]:List Nat) (Gc5 (fun a:Int=>[I64 a]) seq) (G50 seq)) (r:(List Int)) (h:S_ seq=some r):Pure Ek 45 [.fn seq_f seq_c] (·=E1 r):=by
 obtain⟨p,b,c⟩:=hS_ seq r h
 exact(Hc7 seq seq_f seq_c seq_B seq_d seq_w _ p b c).monoP (fun av hh=>by obtain⟨r_,rfl,ha⟩:=hh; exact ha)


theorem Hb4 (seq:List (Option Int)) (seq_f:FuncId) (seq_c:List AV) (seq_B:H9 Ek seq_f=true) (seq_d:Qs (fun _=>false) seq_c=true) (seq_w:Ga1 Ek seq_f seq_c ([]:List Nat) (Gc5 (fun a:Int=>[I64 a]) seq) (G50 seq)) (Rp:(List Int)→Prop) (p:Prop) (h:Rw seq Rp=some p) (hp:p):Jx Ek 45 [.fn seq_f seq_c] [] (fun av L'=>∃ p:Nat,∃ r,Rp r∧av=.vec 1151 p 1 r.length∧L'=[(1151,.vec 3 1 p (r.map I64))]):=by
 unfold Rw at h
 refine Ye [] [.tmp 2] Tryz.func45 O O (H18 O) (Jr fun e=>(JLh (.vec 1070 (([]:List Int).length) 1 (([]:List Int).length)) (H49 1070 3 1 O O O) O (G8 (e (Jr fun f=>(JLm (.fn seq_f seq_c) O (G18 O O O (J8d (args:=[.fn seq_f seq_c]) (u:=fun(p:Nat) (r:List Int)=>.vec 1151 p 1 r.length) (Lr:=fun(p:Nat) (r:List Int)=>[(1151,.vec 3 1 p (r.map I64))]) O (G51 seq seq_f seq_c seq_B seq_d seq_w _ _ h hp) Jec ⟨.inl O,(Q7 _ _ seq_d),G⟩ (fun _ _=>O)) ?_)))))))
 rintro u_ L_ ⟨b,c,⟨k,h,hp⟩,rfl,rfl⟩
 refine JLm (.vec 1151 b 1 c.length) O (G8 (f (Jr fun g=>(JLm (.vec 1151 b 1 c.length) O ?_))))
 obtain⟨d,i,h⟩:=Gj h
 refine JLh (.tup []) (Rbd (F:=92) (xs:=c) (r:=d) O Ja2 J3c Jeb O O O i O) O (G8 (g (Jr fun j=>(JLm (.vec 1151 b 1 c.length) O (JLm (.vec 1151 b 1 c.length) O (G8 (j (Gbb 2 O O (fun hn_=>Gs (⟨[.vec 1151 b 1 c.length],[(1151,.vec 3 1 b (d.map I64))],⟨⟨_,O,.vec⟩,G⟩,O,⟨⟨_,O,.conv (.same O)⟩,G⟩,b,d,Eq.mpr (M2 h) hp,congrArg (fun n_:Nat=>(.vec 1151 b 1 n_:AV)) (hn_.trans (Mg _)),O⟩))))))))))
theorem Hb3 (S_:(List (Option Int))→Option (List Int)) (hS_:∀ seq r,S_ seq=some r→∃ p:Prop,Rw seq (fun r_=>r_=r)=some p∧p) (seq:List (Option Int)) (seq_f:FuncId) (seq_c:List AV) (seq_B:H9 Ek seq_f=true) (seq_d:Qs (fun _=>false) seq_c=true) (seq_w:Ga1 Ek seq_f seq_c ([]:List Nat) (Gc5 (fun a:Int=>[I64 a]) seq) (G50 seq)) (r:(List Int)) (h:S_ seq=some r):Jx Ek 45 [.fn seq_f seq_c] [] (fun av L'=>∃ p:Nat,av=.vec 1151 p 1 r.length∧L'=[(1151,.vec 3 1 p (r.map I64))]):=by
 obtain⟨p,b,c⟩:=hS_ seq r h
 exact(Hb4 seq seq_f seq_c seq_B seq_d seq_w _ p b c).mono (fun av L hh=>by obtain⟨q,r_,rfl,ha,hb⟩:=hh; exact⟨q,ha,hb⟩)
end
end Go.Proofs.YtmfhaflabpnaoaaGreat
