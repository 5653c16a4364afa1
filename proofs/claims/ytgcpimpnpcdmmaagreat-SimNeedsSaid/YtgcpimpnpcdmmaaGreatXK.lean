/- Walks of functions. -/
import Derived.Test.YtgcpimpnpcdmmaaGreatSpecS
set_option maxRecDepth 100000
set_option maxHeartbeats 1000000
set_option linter.unusedVariables false
set_option linter.unusedSimpArgs false
namespace Go.Proofs.YtgcpimpnpcdmmaaGreat
open Go.RowKit
noncomputable section

namespace XKF
open XAF
open XCF
open XSF
theorem Rb2:H1 En 124=true:=by kernel_rfl
theorem Q45:H1 En 137=true:=by kernel_rfl
theorem Jb1:H1 En 72=true:=by kernel_rfl
theorem Qa6:H1 En 94=true:=by kernel_rfl
theorem Jae:Yy En 57 3 24=true:=by kernel_rfl
theorem H84:Zk En 91 3 103=true:=by kernel_rfl
theorem G43:Rb En 91=true:=by kernel_rfl
theorem Q40:Yg En 133 1=true:=by kernel_rfl
theorem J09:Yg En 49 1=true:=by kernel_rfl
end XKF
open XAF
open XCF
open XSF
open XKF


theorem G8a (c:Gw Int Box):Gd0 En 96 [.dptr [DM Ks Box.av c]] ([]:List Nat) (Gfd (fun a:Int=>[I64 a]) (Gw.keys c)) (G67 (Gw.keys c)):=by
 refine Q06 Tryz.func96 O O ?_
 intro E hE hnx
 refine Yb (fun v j=>Qt (Jq (u:=DM Ks Box.av c) hE (Gg G43 O O O) ?_ O O O O))
 refine Jq (u:=.it 1163) hE (Hb4 1163 (kv:=Ks) (av:=Box.av) (m:=c) O O .data O H84) ?_ O O O O
 refine Y5 ?_
 refine j _ _ _ (G8d (Q8a (X:=List Nat) (fun _=>True) (fun d=>[(0,.sc (.func (.yield E.lp) #[] #[])),(5,.it 1163)]) (fun d=>[(1163,.iter (DM Ks Box.av c) c.l.length d)]) (fun d=>d) (fun d=>unseen (c.l.length) d) [] True.intro ⟨(.sm O O),⟨⟨_,O,.iter O⟩,ø⟩,O⟩ O ?_))
 intro d _ w s
 refine Yb (fun x h=>Qt (R0d hE O O O (J2d (kv:=Ks) (av:=Box.av) (m:=c) (fun _=>O) O O O .data) ?_))
 intro u_ L_ hn_
 rcases hn_ with ⟨k,f,g,i,rfl,rfl⟩ | ⟨n,rfl,rfl⟩
 ·
  refine Jq (u:=BL true) hE (Gv O O O) ?_ O O O O
  refine Y5 ?_
  refine h _ _ _ (Yb (fun y o=>R0c O (H53 (o _ _ _ (G8d (Yb (fun z p=>Qt (Jq (u:=.tup [I64 f.1,.agg (Box.cs f.2)]) hE (Jd4 (kv:=Ks) (av:=Box.av) (m:=c) (q:=k) (seen:=d) (e:=f) (fun _=>O) O O O .data g) ?_ O O O O))))))))
  refine Jq (u:=I64 f.1) hE (Gv O O O) ?_ O O O O
  refine Jq (u:=I64 f.1) hE (G7 O O) ?_ O O O O
  refine Y5 ?_
  refine p _ _ _ (Yb (fun K6 r=>Qt (Jq (u:=.sc (.func (.yield E.lp) #[] #[])) hE (G5 O O) ?_ O O O O)))
  refine Jq (u:=I64 f.1) hE (G5 O O) ?_ O O O O
  refine J90 (us:=[I64 f.1]) hE rfl rfl ⟨rfl,rfl,ø⟩ (by rw [hnx]; exact R73 g i) ?_ rfl rfl rfl
  refine Jq (u:=BL false) hE (Yc (b:=true) O O) ?_ O O O O
  refine Y5 ?_
  refine r _ _ _ (Hb2 O (H53 (s _ _ (d++[k]) True.intro (Gbd (M6 g).1 i) ⟨(.sm O O),⟨⟨_,O,.iter O⟩,ø⟩,O⟩)))
 ·
  refine Jq (u:=BL false) hE (Gv O O O) ?_ O O O O
  refine Y5 ?_
  refine h _ _ _ (Yb (fun K7 t=>Hb2 O (J8f (Qdd n))))


theorem Gcf (c:Gw Int Int):Gd0 En 95 [.dptr [DM Ks I64 c]] ([]:List Nat) (Gfd (fun a:Int=>[I64 a]) (Gw.keys c)) (G67 (Gw.keys c)):=by
 refine Q06 Tryz.func95 O O ?_
 intro E hE hnx
 refine Yb (fun v j=>Qt (Jq (u:=DM Ks I64 c) hE (Gg G7a O O O) ?_ O O O O))
 refine Jq (u:=.it 1162) hE (Hb4 1162 (kv:=Ks) (av:=I64) (m:=c) O O .data O Gf8) ?_ O O O O
 refine Y5 ?_
 refine j _ _ _ (G8d (Q8a (X:=List Nat) (fun _=>True) (fun d=>[(0,.sc (.func (.yield E.lp) #[] #[])),(5,.it 1162)]) (fun d=>[(1162,.iter (DM Ks I64 c) c.l.length d)]) (fun d=>d) (fun d=>unseen (c.l.length) d) [] True.intro ⟨(.sm O O),⟨⟨_,O,.iter O⟩,ø⟩,O⟩ O ?_))
 intro d _ w s
 refine Yb (fun x h=>Qt (R0d hE O O O (J2d (kv:=Ks) (av:=I64) (m:=c) (fun _=>O) O O O .data) ?_))
 intro u_ L_ hn_
 rcases hn_ with ⟨k,f,g,i,rfl,rfl⟩ | ⟨n,rfl,rfl⟩
 ·
  refine Jq (u:=BL true) hE (Gv O O O) ?_ O O O O
  refine Y5 ?_
  refine h _ _ _ (Yb (fun y o=>R0c O (H53 (o _ _ _ (G8d (Yb (fun z p=>Qt (Jq (u:=.tup [I64 f.1,I64 f.2]) hE (Jd4 (kv:=Ks) (av:=I64) (m:=c) (q:=k) (seen:=d) (e:=f) (fun _=>O) O O O .data g) ?_ O O O O))))))))
  refine Jq (u:=I64 f.1) hE (Gv O O O) ?_ O O O O
  refine Jq (u:=I64 f.1) hE (G7 O O) ?_ O O O O
  refine Y5 ?_
  refine p _ _ _ (Yb (fun K6 r=>Qt (Jq (u:=.sc (.func (.yield E.lp) #[] #[])) hE (G5 O O) ?_ O O O O)))
  refine Jq (u:=I64 f.1) hE (G5 O O) ?_ O O O O
  refine J90 (us:=[I64 f.1]) hE rfl rfl ⟨rfl,rfl,ø⟩ (by rw [hnx]; exact R73 g i) ?_ rfl rfl rfl
  refine Jq (u:=BL false) hE (Yc (b:=true) O O) ?_ O O O O
  refine Y5 ?_
  refine r _ _ _ (Hb2 O (H53 (s _ _ (d++[k]) True.intro (Gbd (M6 g).1 i) ⟨(.sm O O),⟨⟨_,O,.iter O⟩,ø⟩,O⟩)))
 ·
  refine Jq (u:=BL false) hE (Gv O O O) ?_ O O O O
  refine Y5 ?_
  refine h _ _ _ (Yb (fun K7 t=>Hb2 O (J8f (Qdd n))))


theorem H20 (c:Gw Slot Box):Gd0 En 125 [.dptr [DM Slot.kv Box.av c]] ([]:List Nat) (Gfd (fun a:Slot=>[.agg [I64 a.G3,I64 a.Tier,U8 a.Half]]) (Gw.keys c)) (G67 (Gw.keys c)):=by
 refine Q06 Tryz.func125 O O ?_
 intro E hE hnx
 refine Yb (fun v j=>Qt (Jq (u:=DM Slot.kv Box.av c) hE (Gg Z2 O O O) ?_ O O O O))
 refine Jq (u:=.it 1199) hE (Hb4 1199 (kv:=Slot.kv) (av:=Box.av) (m:=c) O O .data O G91) ?_ O O O O
 refine Y5 ?_
 refine j _ _ _ (G8d (Q8a (X:=List Nat) (fun _=>True) (fun f=>[(0,.sc (.func (.yield E.lp) #[] #[])),(5,.it 1199)]) (fun f=>[(1199,.iter (DM Slot.kv Box.av c) c.l.length f)]) (fun f=>f) (fun f=>unseen (c.l.length) f) [] True.intro ⟨(.sm O O),⟨⟨_,O,.iter O⟩,ø⟩,O⟩ O ?_))
 intro f _ w s
 refine Yb (fun x h=>Qt (R0d hE O O O (J2d (kv:=Slot.kv) (av:=Box.av) (m:=c) (fun _=>O) O O O .data) ?_))
 intro u_ L_ hn_
 rcases hn_ with ⟨k,d,g,i,rfl,rfl⟩ | ⟨n,rfl,rfl⟩
 ·
  refine Jq (u:=BL true) hE (Gv O O O) ?_ O O O O
  refine Y5 ?_
  refine h _ _ _ (Yb (fun y o=>R0c O (H53 (o _ _ _ (G8d (Yb (fun z p=>Qt (Jq (u:=.tup [.agg (Slot.cs d.1),.agg (Box.cs d.2)]) hE (Jd4 (kv:=Slot.kv) (av:=Box.av) (m:=c) (q:=k) (seen:=f) (e:=d) (fun _=>O) O O O .data g) ?_ O O O O))))))))
  refine Jq (u:=.agg (Slot.cs d.1)) hE (Gv O O O) ?_ O O O O
  refine Jq (u:=.ptr 1198 0) hE (Hj 1198 3 Rr O O) ?_ O O O O
  refine Ya4 (u:=.junk) hE (H7 (u:=.agg (Slot.cs d.1)) (ds:=[I64 d.1.G3,I64 d.1.Tier,U8 d.1.Half]) Yq O O O O O O O O) ?_ O O O
  refine Y5 ?_
  refine p _ _ _ (Yb (fun K6 r=>Qt (Jq (u:=.sc (.func (.yield E.lp) #[] #[])) hE (G5 O O) ?_ O O O O)))
  refine Jq (u:=.agg (Slot.cs d.1)) hE (J31 J4 O O O O) ?_ O O O O
  refine J90 (us:=[.agg (Slot.cs d.1)]) hE rfl rfl ⟨rfl,rfl,ø⟩ (by rw [hnx]; exact R73 g i) ?_ rfl rfl rfl
  refine Jq (u:=BL false) hE (Yc (b:=true) O O) ?_ O O O O
  refine Y5 ?_
  refine r _ _ _ (Hb2 O (H53 (s _ _ (f++[k]) True.intro (Gbd (M6 g).1 i) ⟨(.sm O O),⟨⟨_,O,.iter O⟩,ø⟩,O⟩)))
 ·
  refine Jq (u:=BL false) hE (Gv O O O) ?_ O O O O
  refine Y5 ?_
  refine h _ _ _ (Yb (fun K7 t=>Hb2 O (J8f (Qdd n))))

def G5f (m:Gw Int Box):Option Unit:=
 some ()
theorem Gbc (m:Gw Int Box) (r:Unit) (h:G5f m=some r):Pure En 50 [DM Ks Box.av m] (·=.fn 96 [.dptr [DM Ks Box.av m]]):=by
 unfold G5f at h
 refine Gz [.tmp 2] Tryz.func50 O O (Jr fun a=>(JLh (.ptr 1092 0) (Q6 (cs:=[DM Ks Box.av m]) 1092 O O O O O) O (JLm (.sc .nilFunc) O (G6 (a (Gr [(1,.dptr [DM Ks Box.av m])] [] 1092 rfl rfl rfl ø rfl (by exact⟨.ptr,ø⟩) (Jr fun b=>(JLh (.fn 96 [.dptr [DM Ks Box.av m]]) (Q4 (cs:=[.dptr [DM Ks Box.av m]]) O O) O (JLm (.fn 96 [.dptr [DM Ks Box.av m]]) O (G6 (b (Gs (⟨[.fn 96 [.dptr [DM Ks Box.av m]]],[],ø,O,⟨⟨_,O,.conv (.same O)⟩,ø⟩,O,congrArg (fun _:Unit=>(.fn 96 [.dptr [DM Ks Box.av m]]:AV)) (M8 h)⟩)))))))))))))

def G9b (m:Gw Int Int):Option Unit:=
 some ()
theorem H03 (m:Gw Int Int) (r:Unit) (h:G9b m=some r):Pure En 49 [DM Ks I64 m] (·=.fn 95 [.dptr [DM Ks I64 m]]):=by
 unfold G9b at h
 refine Gz [.tmp 2] Tryz.func49 O O (Jr fun a=>(JLh (.ptr 1091 0) (Q6 (cs:=[DM Ks I64 m]) 1091 O O O O O) O (JLm (.sc .nilFunc) O (G6 (a (Gr [(1,.dptr [DM Ks I64 m])] [] 1091 rfl rfl rfl ø rfl (by exact⟨.ptr,ø⟩) (Jr fun b=>(JLh (.fn 95 [.dptr [DM Ks I64 m]]) (Q4 (cs:=[.dptr [DM Ks I64 m]]) O O) O (JLm (.fn 95 [.dptr [DM Ks I64 m]]) O (G6 (b (Gs (⟨[.fn 95 [.dptr [DM Ks I64 m]]],[],ø,O,⟨⟨_,O,.conv (.same O)⟩,ø⟩,O,congrArg (fun _:Unit=>(.fn 95 [.dptr [DM Ks I64 m]]:AV)) (M8 h)⟩)))))))))))))

def G1d (m:Gw Slot Box):Option Unit:=
 some ()
theorem H42 (m:Gw Slot Box) (r:Unit) (h:G1d m=some r):Pure En 88 [DM Slot.kv Box.av m] (·=.fn 125 [.dptr [DM Slot.kv Box.av m]]):=by
 unfold G1d at h
 refine Gz [.tmp 2] Tryz.func88 O O (Jr fun a=>(JLh (.ptr 1155 0) (Q6 (cs:=[DM Slot.kv Box.av m]) 1155 O O O O O) O (JLm (.sc .nilFunc) O (G6 (a (Gr [(1,.dptr [DM Slot.kv Box.av m])] [] 1155 rfl rfl rfl ø rfl (by exact⟨.ptr,ø⟩) (Jr fun b=>(JLh (.fn 125 [.dptr [DM Slot.kv Box.av m]]) (Q4 (cs:=[.dptr [DM Slot.kv Box.av m]]) O O) O (JLm (.fn 125 [.dptr [DM Slot.kv Box.av m]]) O (G6 (b (Gs (⟨[.fn 125 [.dptr [DM Slot.kv Box.av m]]],[],ø,O,⟨⟨_,O,.conv (.same O)⟩,ø⟩,O,congrArg (fun _:Unit=>(.fn 125 [.dptr [DM Slot.kv Box.av m]]:AV)) (M8 h)⟩)))))))))))))

def Qv (seq:List (Option Int)) (Rp:(List Int)→Prop):Option Prop:=
 J32 (fun(b:Int) (a:(List Int)) c=>
  need (decide ((a.length+[b].length)*8≤140737488355328∧a.length+[b].length≤maxLen)) <|
  c (a++[b]))
 (fun(a:(List Int))=>
  some (Rp a)) (seq.filterMap id) []
def Y9 (seq:List (Option Slot)) (Rp:(List Slot)→Prop):Option Prop:=
 J32 (fun(b:Slot) (a:(List Slot)) c=>
  need (decide ((a.length+[b].length)*24≤140737488355328∧a.length+[b].length≤maxLen)) <|
  c (a++[b]))
 (fun(a:(List Slot))=>
  some (Rp a)) (seq.filterMap id) []
theorem G85 (seq:List (Option Slot)) (seq_f:FuncId) (seq_c:List AV) (seq_B:H1 En seq_f=true) (seq_d:Qb (fun _=>false) seq_c=true) (seq_w:Gd0 En seq_f seq_c ([]:List Nat) (Gfd (fun a:Slot=>[.agg [I64 a.G3,I64 a.Tier,U8 a.Half]]) seq) (G67 seq)) (Rp:(List Slot)→Prop) (p:Prop) (h:Y9 seq Rp=some p) (hp:p):Pure En 124 [.sc (.slice none 0 0),.fn seq_f seq_c] (fun av=>∃ r,Rp r∧av=Ea r):=by
 unfold Y9 at h
 refine Gz [.tmp 4] Tryz.func124 O O (Jr fun i=>(JLh (.ptr 1195 0) (Q6 (cs:=[.sc (.slice none 0 0)]) 1195 O O O O O) O (Gf5 1195 0 1197 57 3 O O O (cs':=[OW 1197 3 Slot.av ([]:List Slot)]) O (JLh (Ea ([]:List Slot)) (Jd 3 O O) O (G6 (i (Js fun j=>Jr fun k=>(JLm (.fn seq_f seq_c) O (G6 (k (Gq ?_)))))))))))
 obtain⟨w,l,m,g,h⟩:=H60 h
 refine H54 (ps:=[7]) [(2,.ptr 1195 0),(6,.fn seq_f seq_c)] (fun n (b:(List Slot))=>Ge3 w l seq n b) (fun b=>[(1197,.spare 57 3 b.length b.length),(1195,.box 133 [OW 1197 3 Slot.av b])]) [] rfl rfl seq_d seq_B seq_w (Ge3.start h hp) ⟨⟨.same rfl,.same (Hk _ _ seq_d),trivial⟩,⟨⟨_,rfl,.same⟩,fbQ O ⟨.same rfl,trivial⟩,trivial⟩,rfl⟩ rfl (fun k_ us_ k2_ hk_=>by obtain⟨_,_,_,_,rfl,_⟩:=hk_; rfl) (fun p_ hp_=>Nat.blt_eq.mp (by revert p_; decide)) (fun _=>⟨.same rfl,.same (Hk _ _ seq_d),trivial⟩) (fun _=>rfl) ?_ ?_
 ·
  clear h hp
  rintro n us_ k_ b ⟨y,c,o,q,rfl,rfl⟩ d lr_ z x
  obtain⟨o6,h,v,e⟩:=d.step o q
  replace h:=Jc7 m h
  change JC _ _ _ _ [(7,.agg [I64 c.G3,I64 c.Tier,U8 c.Half]),(2,.ptr 1195 0),(6,.fn seq_f seq_c)] [(1197,.spare 57 3 b.length b.length),(1195,.box 133 [OW 1197 3 Slot.av b])]
  refine G2 (JLh (.ptr 1196 0) (Hj 1196 3 Rr O O) O (Hq (u:=.junk) (H7 (u:=.agg [I64 c.G3,I64 c.Tier,U8 c.Half]) (ds:=[I64 c.G3,I64 c.Tier,U8 c.Half]) Yq O O O O O O O O) (G6 (Qfe [(2,.ptr 1195 0),(5,.dptr [I64 c.G3,I64 c.Tier,U8 c.Half])] [(1197,.spare 57 3 b.length b.length),(1195,.box 133 [OW 1197 3 Slot.av b])] 1196 rfl rfl rfl ⟨⟨_,rfl,.same⟩,⟨_,rfl,.boxEq rfl rfl⟩,ø⟩ rfl (by exact⟨.conv (.same rfl),.ptr,ø⟩) (R88 (Gq (G2 ?_)))))))
  refine JLh (OW 1197 3 Slot.av b) (J2 Gd4 O O O O) O (JLh (.agg [I64 c.G3,I64 c.Tier,U8 c.Half]) (Gm J4 O O O) O (JLh (Ea [c]) (He (xs:=[.agg [I64 c.G3,I64 c.Tier,U8 c.Half]]) O ⟨O,O,ø⟩ Yi Rr O O O O) O ?_))
  obtain⟨s,h⟩:=Jf h
  refine JLh (OW 1197 3 Slot.av (b++[c])) (Yo (f:=Slot.av) (xs:=b) (ys:=[c]) O O O O Yi Jae s (fun _=>O) (.inl O) O) O (Hq (u:=.junk) (H7 (u:=OW 1197 3 Slot.av (b++[c])) (ds:=[OW 1197 3 Slot.av (b++[c])]) Q40 O O O O O O O O) (G6 (x _ _ (b++[c]) (e _ (M8 h).symm) ⟨ø,⟨⟨_,O,.same⟩,⟨_,O,.boxL O ⟨.same O,ø⟩⟩,ø⟩,O⟩)))
 ·
  clear h hp
  intro k_ b hf_ d
  obtain⟨p_,h,hp⟩:=d.done hf_
  replace h:=app1 g h
  refine j (Jr fun t=>(JLh (OW 1197 3 Slot.av b) (J2 Gd4 O O O O) O (JLm (OW 1197 3 Slot.av b) O (G6 (t (Qn (l':=[(4,Ea b)]) (L':=[(1195,.box 133 [Ea b])]) ⟨⟨.list O,ø⟩,⟨⟨_,O,.boxL O ⟨.list O,ø⟩⟩,ø⟩,O⟩ (Gr [(4,Ea b)] [] 1195 rfl rfl rfl ø rfl (by exact⟨.conv (.same rfl),ø⟩) (Gs (⟨[Ea b],[],ø,O,⟨⟨_,O,.conv (.same O)⟩,ø⟩,O,b,Eq.mpr (M8 h) hp,O⟩)))))))))
def R7 (seq:List (Option Int)) (Rp:(List Int)→Prop):Option Prop:=
 ndM (Qv seq) fun a=>
 some (Rp a)
def Yz (seq:List (Option Slot)) (Rp:(List Slot)→Prop):Option Prop:=
 ndM (Y9 seq) fun a=>
 some (Rp a)
theorem Gb4 (seq:List (Option Slot)) (seq_f:FuncId) (seq_c:List AV) (seq_B:H1 En seq_f=true) (seq_d:Qb (fun _=>false) seq_c=true) (seq_w:Gd0 En seq_f seq_c ([]:List Nat) (Gfd (fun a:Slot=>[.agg [I64 a.G3,I64 a.Tier,U8 a.Half]]) seq) (G67 seq)) (Rp:(List Slot)→Prop) (p:Prop) (h:Yz seq Rp=some p) (hp:p):Pure En 87 [.fn seq_f seq_c] (fun av=>∃ r,Rp r∧av=Ea r):=by
 unfold Yz at h
 refine Gz [.tmp 2] Tryz.func87 O O (Jr fun c=>(JLh (Ea ([]:List Slot)) (Jd 3 O O) O (G6 (c (Jr fun d=>(JLm (.fn seq_f seq_c) O (Rn O O O (Y05 (args:=[.sc (.slice none 0 0),.fn seq_f seq_c]) (g:=fun r=>Ea r) O (G85 seq seq_f seq_c seq_B seq_d seq_w _ _ h hp) Rb2 ⟨O,O,O,seq_d,ø⟩) ?_)))))))
 rintro u_ L_ ⟨b,⟨e,h,hp⟩,rfl,rfl⟩
 refine JLm (Ea b) O (G6 (d (Gs (⟨[Ea b],[],ø,O,⟨⟨_,O,.conv (.same O)⟩,ø⟩,O,b,Eq.mpr (M8 h) hp,O⟩))))
theorem Gce (seq:List (Option Int)) (seq_f:FuncId) (seq_c:List AV) (seq_B:H1 En seq_f=true) (seq_d:Qb (fun _=>false) seq_c=true) (seq_w:Gd0 En seq_f seq_c ([]:List Nat) (Gfd (fun a:Int=>[I64 a]) seq) (G67 seq)) (Rp:(List Int)→Prop) (p:Prop) (h:Qv seq Rp=some p) (hp:p):Hx En 137 [.sc (.slice none 0 0),.fn seq_f seq_c] [] (fun av L'=>∃ p:Nat,∃ r,Rp r∧av=.vec 1203 p 1 r.length∧L'=[(1203,.vec 3 1 p (r.map I64))]):=by
 unfold Qv at h
 refine Ji [] [.tmp 4] Tryz.func137 O O (G0c O) (Jr fun i=>(JLh (.ptr 1201 0) (Q6 (cs:=[.sc (.slice none 0 0)]) 1201 O O O O O) O (R0a 1201 0 1203 3 1 O O O (cs':=[.vec 1203 (([]:List Int).length) 1 (([]:List Int).length)]) O (JLh (.vec 1202 (([]:List Int).length) 1 (([]:List Int).length)) (G73 1202 3 1 O O O) O (G6 (i (Js fun j=>Jr fun k=>(JLm (.fn seq_f seq_c) O (G6 (k (Gq ?_)))))))))))
 obtain⟨w,l,m,g,h⟩:=H60 h
 refine H54 (ps:=[7]) [(2,.ptr 1201 0),(6,.fn seq_f seq_c)] (fun n (b:(List Int))=>Ge3 w l seq n b) (fun b=>[(1203,.vec 3 1 b.length (b.map I64)),(1202,.vec 3 1 (([]:List Int).length) (([]:List Int).map I64)),(1201,.box 49 [.vec 1203 b.length 1 b.length])]) [] rfl rfl seq_d seq_B seq_w (Ge3.start h hp) ⟨⟨.same rfl,.same (Hk _ _ seq_d),trivial⟩,⟨⟨_,rfl,.vec⟩,⟨_,rfl,.vec⟩,fbQ O ⟨.same rfl,trivial⟩,trivial⟩,rfl⟩ rfl (fun k_ us_ k2_ hk_=>by obtain⟨_,_,_,_,rfl,_⟩:=hk_; rfl) (fun p_ hp_=>Nat.blt_eq.mp (by revert p_; decide)) (fun _=>⟨.same rfl,.same (Hk _ _ seq_d),trivial⟩) (fun _=>rfl) ?_ ?_
 ·
  clear h hp
  rintro n us_ k_ b ⟨y,c,o,q,rfl,rfl⟩ d lr_ z x
  obtain⟨o6,h,v,e⟩:=d.step o q
  replace h:=Jc7 m h
  change JC _ _ _ _ [(7,I64 c),(2,.ptr 1201 0),(6,.fn seq_f seq_c)] [(1203,.vec 3 1 b.length (b.map I64)),(1202,.vec 3 1 (([]:List Int).length) (([]:List Int).map I64)),(1201,.box 49 [.vec 1203 b.length 1 b.length])]
  refine G2 (JLm (I64 c) O (G6 (R88 (Gq (G2 (JLh (.vec 1203 b.length 1 b.length) (J2 Rv O O O O) O (JLm (I64 c) O (JLh (E2 [c]) (He (xs:=[I64 c]) O ⟨O,O,ø⟩ H3 Y6 O O O O) O ?_))))))))
  obtain⟨s,h⟩:=Jf h
  refine JLh (.vec 1203 ((b++[c]).length) 1 ((b++[c]).length)) (G1f (f:=I64) (xs:=b) (ys:=[c]) (ver:=b.length) (ver1:=(b++[c]).length) rfl rfl rfl rfl H3 G94 s (fun _=>rfl) (.inl rfl) (by simp)) O (Hq (u:=.junk) (H7 (u:=.vec 1203 ((b++[c]).length) 1 ((b++[c]).length)) (ds:=[.vec 1203 ((b++[c]).length) 1 ((b++[c]).length)]) J09 O O O O O O O O) (G6 (x _ _ (b++[c]) (e _ (M8 h).symm) ⟨ø,⟨⟨_,O,.vec⟩,⟨_,O,.vec⟩,⟨_,O,.boxL O ⟨.same O,ø⟩⟩,ø⟩,O⟩)))
 ·
  clear h hp
  intro k_ b hf_ d
  obtain⟨p_,h,hp⟩:=d.done hf_
  replace h:=app1 g h
  refine j (Jr fun t=>(JLh (.vec 1203 b.length 1 b.length) (J2 Rv O O O O) O (JLm (.vec 1203 b.length 1 b.length) O (G6 (t (G3c 4 O O (fun hn_=>Gs (⟨[.vec 1203 b.length 1 b.length],[(1203,.vec 3 1 b.length (b.map I64))],⟨⟨_,O,.vec⟩,ø⟩,O,⟨⟨_,O,.conv (.same O)⟩,ø⟩,b.length,b,Eq.mpr (M8 h) hp,congrArg (fun n_:Nat=>(.vec 1203 b.length 1 n_:AV)) (hn_.trans (Mn _)),O⟩))))))))
theorem G6c (seq:List (Option Int)) (seq_f:FuncId) (seq_c:List AV) (seq_B:H1 En seq_f=true) (seq_d:Qb (fun _=>false) seq_c=true) (seq_w:Gd0 En seq_f seq_c ([]:List Nat) (Gfd (fun a:Int=>[I64 a]) seq) (G67 seq)) (Rp:(List Int)→Prop) (p:Prop) (h:R7 seq Rp=some p) (hp:p):Hx En 94 [.fn seq_f seq_c] [] (fun av L'=>∃ p:Nat,∃ r,Rp r∧av=.vec 1203 p 1 r.length∧L'=[(1203,.vec 3 1 p (r.map I64))]):=by
 unfold R7 at h
 refine Ji [] [.tmp 2] Tryz.func94 O O (G0c O) (Jr fun d=>(JLh (.vec 1161 (([]:List Int).length) 1 (([]:List Int).length)) (G73 1161 3 1 O O O) O (G6 (d (Jr fun e=>(JLm (.fn seq_f seq_c) O (Rn O O O (Q3b (args:=[.sc (.slice none 0 0),.fn seq_f seq_c]) (u:=fun(p:Nat) (r:List Int)=>.vec 1203 p 1 r.length) (Lr:=fun(p:Nat) (r:List Int)=>[(1203,.vec 3 1 p (r.map I64))]) O (Gce seq seq_f seq_c seq_B seq_d seq_w _ _ h hp) Q45 ⟨.inl O,O,.inl O,(Hk _ _ seq_d),ø⟩ (fun _ _=>O)) ?_)))))))
 rintro u_ L_ ⟨b,c,⟨f,h,hp⟩,rfl,rfl⟩
 refine JLm (.vec 1203 b 1 c.length) O (G6 (e (G3c 2 O O (fun hn_=>Gs (⟨[.vec 1203 b 1 c.length],[(1203,.vec 3 1 b (c.map I64))],⟨⟨_,O,.vec⟩,ø⟩,O,⟨⟨_,O,.conv (.same O)⟩,ø⟩,b,c,Eq.mpr (M8 h) hp,congrArg (fun n_:Nat=>(.vec 1203 b 1 n_:AV)) (hn_.trans (Mn _)),O⟩)))))
def Rt (seq:List (Option Int)) (Rp:(List Int)→Prop):Option Prop:=
 ndM (R7 seq) fun a=>
 bnd (Ga7 a) fun b=>
 some (Rp b)
theorem J28 (seq:List (Option Int)) (seq_f:FuncId) (seq_c:List AV) (seq_B:H1 En seq_f=true) (seq_d:Qb (fun _=>false) seq_c=true) (seq_w:Gd0 En seq_f seq_c ([]:List Nat) (Gfd (fun a:Int=>[I64 a]) seq) (G67 seq)) (Rp:(List Int)→Prop) (p:Prop) (h:Rt seq Rp=some p) (hp:p):Hx En 48 [.fn seq_f seq_c] [] (fun av L'=>∃ p:Nat,∃ r,Rp r∧av=.vec 1203 p 1 r.length∧L'=[(1203,.vec 3 1 p (r.map I64))]):=by
 unfold Rt at h
 refine Ji [] [.tmp 2] Tryz.func48 O O (G0c O) (Jr fun e=>(JLh (.vec 1090 (([]:List Int).length) 1 (([]:List Int).length)) (G73 1090 3 1 O O O) O (G6 (e (Jr fun f=>(JLm (.fn seq_f seq_c) O (Rn O O O (Q3b (args:=[.fn seq_f seq_c]) (u:=fun(p:Nat) (r:List Int)=>.vec 1203 p 1 r.length) (Lr:=fun(p:Nat) (r:List Int)=>[(1203,.vec 3 1 p (r.map I64))]) O (G6c seq seq_f seq_c seq_B seq_d seq_w _ _ h hp) Qa6 ⟨.inl O,(Hk _ _ seq_d),ø⟩ (fun _ _=>O)) ?_)))))))
 rintro u_ L_ ⟨b,c,⟨k,h,hp⟩,rfl,rfl⟩
 refine JLm (.vec 1203 b 1 c.length) O (G6 (f (Jr fun g=>(JLm (.vec 1203 b 1 c.length) O ?_))))
 obtain⟨d,i,h⟩:=Gd h
 refine JLh (.tup []) (R8e (F:=72) (xs:=c) (r:=d) O J53 J18 Jb1 O O O i O) O (G6 (g (Jr fun j=>(JLm (.vec 1203 b 1 c.length) O (JLm (.vec 1203 b 1 c.length) O (G6 (j (G3c 2 O O (fun hn_=>Gs (⟨[.vec 1203 b 1 c.length],[(1203,.vec 3 1 b (d.map I64))],⟨⟨_,O,.vec⟩,ø⟩,O,⟨⟨_,O,.conv (.same O)⟩,ø⟩,b,d,Eq.mpr (M8 h) hp,congrArg (fun n_:Nat=>(.vec 1203 b 1 n_:AV)) (hn_.trans (Mn _)),O⟩))))))))))
theorem J27 (S_:(List (Option Int))→Option (List Int)) (hS_:∀ seq r,S_ seq=some r→∃ p:Prop,Rt seq (fun r_=>r_=r)=some p∧p) (seq:List (Option Int)) (seq_f:FuncId) (seq_c:List AV) (seq_B:H1 En seq_f=true) (seq_d:Qb (fun _=>false) seq_c=true) (seq_w:Gd0 En seq_f seq_c ([]:List Nat) (Gfd (fun a:Int=>[I64 a]) seq) (G67 seq)) (r:(List Int)) (h:S_ seq=some r):Hx En 48 [.fn seq_f seq_c] [] (fun av L'=>∃ p:Nat,av=.vec 1203 p 1 r.length∧L'=[(1203,.vec 3 1 p (r.map I64))]):=by
 obtain⟨p,b,c⟩:=hS_ seq r h
 exact(J28 seq seq_f seq_c seq_B seq_d seq_w _ p b c).mono (fun av L hh=>by obtain⟨q,r_,rfl,ha,hb⟩:=hh; exact⟨q,ha,hb⟩)
end
end Go.Proofs.YtgcpimpnpcdmmaaGreat
