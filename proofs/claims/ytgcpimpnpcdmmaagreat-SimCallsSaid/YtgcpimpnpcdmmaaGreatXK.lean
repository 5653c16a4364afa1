/- Walks of functions. -/
import Derived.Test.YtgcpimpnpcdmmaaGreatSpecS
set_option maxRecDepth 100000
set_option maxHeartbeats 1000000
set_option linter.unusedVariables false
set_option linter.unusedSimpArgs false
namespace Go.Proofs.YtgcpimpnpcdmmaaGreat
open Go.RowKit
noncomputable section

namespace XKF
open XAF
open XCF
open XSF
theorem R86:Gz En 124=true:=by kernel_rfl
theorem Q15:Gz En 137=true:=by kernel_rfl
theorem J88:Gz En 72=true:=by kernel_rfl
theorem Q77:Gz En 94=true:=by kernel_rfl
theorem J85:Z0 En 57 3 24=true:=by kernel_rfl
theorem H67:Z1 En 91 3 103=true:=by kernel_rfl
theorem G2a:R4 En 91=true:=by kernel_rfl
theorem Q10:Y2 En 133 1=true:=by kernel_rfl
theorem He6:Y2 En 49 1=true:=by kernel_rfl
end XKF
open XAF
open XCF
open XSF
open XKF


theorem G6c (c:Gu Int Box):Gb8 En 96 [.dptr [DM Ks Box.av c]] ([]:List Nat) (Ge5 (fun a:Int=>[I64 a]) (Gu.keys c)) (G48 (Gu.keys c)):=by
 refine Jd7 Tryz.func96 O O ?_
 intro E hE hnx
 refine Ry (fun v j=>Qn (Jk (u:=DM Ks Box.av c) hE (Gg G2a O O O) ?_ O O O O))
 refine Jk (u:=.it 1154) hE (H92 1154 (kv:=Ks) (av:=Box.av) (m:=c) O O .data O H67) ?_ O O O O
 refine Rt ?_
 refine j _ _ _ (G6f (Q5b (X:=List Nat) (fun _=>True) (fun d=>[(0,.sc (.func (.yield E.lp) #[] #[])),(5,.it 1154)]) (fun d=>[(1154,.iter (DM Ks Box.av c) c.l.length d)]) (fun d=>d) (fun d=>unseen (c.l.length) d) [] True.intro ⟨(.sm O O),⟨⟨_,O,.iter O⟩,ø⟩,O⟩ O ?_))
 intro d _ w s
 refine Ry (fun x h=>Qn (Qe5 hE O O O (J04 (kv:=Ks) (av:=Box.av) (m:=c) (fun _=>O) O O O .data) ?_))
 intro u_ L_ hn_
 rcases hn_ with ⟨k,f,g,i,rfl,rfl⟩ | ⟨n,rfl,rfl⟩
 ·
  refine Jk (u:=BL true) hE (H3 O O O) ?_ O O O O
  refine Rt ?_
  refine h _ _ _ (Ry (fun y o=>Qe4 O (H38 (o _ _ _ (G6f (Ry (fun z p=>Qn (Jk (u:=.tup [I64 f.1,.agg (Box.cs f.2)]) hE (Ja7 (kv:=Ks) (av:=Box.av) (m:=c) (q:=k) (seen:=d) (e:=f) (fun _=>O) O O O .data g) ?_ O O O O))))))))
  refine Jk (u:=I64 f.1) hE (H3 O O O) ?_ O O O O
  refine Jk (u:=I64 f.1) hE (G7 O O) ?_ O O O O
  refine Rt ?_
  refine p _ _ _ (Ry (fun K6 r=>Qn (Jk (u:=.sc (.func (.yield E.lp) #[] #[])) hE (G6 O O) ?_ O O O O)))
  refine Jk (u:=I64 f.1) hE (G6 O O) ?_ O O O O
  refine J65 (us:=[I64 f.1]) hE rfl rfl ⟨rfl,rfl,ø⟩ (by rw [hnx]; exact R47 g i) ?_ rfl rfl rfl
  refine Jk (u:=BL false) hE (Yc (b:=true) O O) ?_ O O O O
  refine Rt ?_
  refine r _ _ _ (H8f O (H38 (s _ _ (d++[k]) True.intro (Ga1 (M5 g).1 i) ⟨(.sm O O),⟨⟨_,O,.iter O⟩,ø⟩,O⟩)))
 ·
  refine Jk (u:=BL false) hE (H3 O O O) ?_ O O O O
  refine Rt ?_
  refine h _ _ _ (Ry (fun K7 t=>H8f O (J64 (Qb5 n))))


theorem Gb7 (c:Gu Int Int):Gb8 En 95 [.dptr [DM Ks I64 c]] ([]:List Nat) (Ge5 (fun a:Int=>[I64 a]) (Gu.keys c)) (G48 (Gu.keys c)):=by
 refine Jd7 Tryz.func95 O O ?_
 intro E hE hnx
 refine Ry (fun v j=>Qn (Jk (u:=DM Ks I64 c) hE (Gg G5b O O O) ?_ O O O O))
 refine Jk (u:=.it 1153) hE (H92 1153 (kv:=Ks) (av:=I64) (m:=c) O O .data O Ge0) ?_ O O O O
 refine Rt ?_
 refine j _ _ _ (G6f (Q5b (X:=List Nat) (fun _=>True) (fun d=>[(0,.sc (.func (.yield E.lp) #[] #[])),(5,.it 1153)]) (fun d=>[(1153,.iter (DM Ks I64 c) c.l.length d)]) (fun d=>d) (fun d=>unseen (c.l.length) d) [] True.intro ⟨(.sm O O),⟨⟨_,O,.iter O⟩,ø⟩,O⟩ O ?_))
 intro d _ w s
 refine Ry (fun x h=>Qn (Qe5 hE O O O (J04 (kv:=Ks) (av:=I64) (m:=c) (fun _=>O) O O O .data) ?_))
 intro u_ L_ hn_
 rcases hn_ with ⟨k,f,g,i,rfl,rfl⟩ | ⟨n,rfl,rfl⟩
 ·
  refine Jk (u:=BL true) hE (H3 O O O) ?_ O O O O
  refine Rt ?_
  refine h _ _ _ (Ry (fun y o=>Qe4 O (H38 (o _ _ _ (G6f (Ry (fun z p=>Qn (Jk (u:=.tup [I64 f.1,I64 f.2]) hE (Ja7 (kv:=Ks) (av:=I64) (m:=c) (q:=k) (seen:=d) (e:=f) (fun _=>O) O O O .data g) ?_ O O O O))))))))
  refine Jk (u:=I64 f.1) hE (H3 O O O) ?_ O O O O
  refine Jk (u:=I64 f.1) hE (G7 O O) ?_ O O O O
  refine Rt ?_
  refine p _ _ _ (Ry (fun K6 r=>Qn (Jk (u:=.sc (.func (.yield E.lp) #[] #[])) hE (G6 O O) ?_ O O O O)))
  refine Jk (u:=I64 f.1) hE (G6 O O) ?_ O O O O
  refine J65 (us:=[I64 f.1]) hE rfl rfl ⟨rfl,rfl,ø⟩ (by rw [hnx]; exact R47 g i) ?_ rfl rfl rfl
  refine Jk (u:=BL false) hE (Yc (b:=true) O O) ?_ O O O O
  refine Rt ?_
  refine r _ _ _ (H8f O (H38 (s _ _ (d++[k]) True.intro (Ga1 (M5 g).1 i) ⟨(.sm O O),⟨⟨_,O,.iter O⟩,ø⟩,O⟩)))
 ·
  refine Jk (u:=BL false) hE (H3 O O O) ?_ O O O O
  refine Rt ?_
  refine h _ _ _ (Ry (fun K7 t=>H8f O (J64 (Qb5 n))))


theorem H07 (c:Gu Slot Box):Gb8 En 125 [.dptr [DM Slot.kv Box.av c]] ([]:List Nat) (Ge5 (fun a:Slot=>[.agg [I64 a.G3,I64 a.Tier,U8 a.Half]]) (Gu.keys c)) (G48 (Gu.keys c)):=by
 refine Jd7 Tryz.func125 O O ?_
 intro E hE hnx
 refine Ry (fun v j=>Qn (Jk (u:=DM Slot.kv Box.av c) hE (Gg Yk O O O) ?_ O O O O))
 refine Jk (u:=.it 1190) hE (H92 1190 (kv:=Slot.kv) (av:=Box.av) (m:=c) O O .data O G72) ?_ O O O O
 refine Rt ?_
 refine j _ _ _ (G6f (Q5b (X:=List Nat) (fun _=>True) (fun f=>[(0,.sc (.func (.yield E.lp) #[] #[])),(5,.it 1190)]) (fun f=>[(1190,.iter (DM Slot.kv Box.av c) c.l.length f)]) (fun f=>f) (fun f=>unseen (c.l.length) f) [] True.intro ⟨(.sm O O),⟨⟨_,O,.iter O⟩,ø⟩,O⟩ O ?_))
 intro f _ w s
 refine Ry (fun x h=>Qn (Qe5 hE O O O (J04 (kv:=Slot.kv) (av:=Box.av) (m:=c) (fun _=>O) O O O .data) ?_))
 intro u_ L_ hn_
 rcases hn_ with ⟨k,d,g,i,rfl,rfl⟩ | ⟨n,rfl,rfl⟩
 ·
  refine Jk (u:=BL true) hE (H3 O O O) ?_ O O O O
  refine Rt ?_
  refine h _ _ _ (Ry (fun y o=>Qe4 O (H38 (o _ _ _ (G6f (Ry (fun z p=>Qn (Jk (u:=.tup [.agg (Slot.cs d.1),.agg (Box.cs d.2)]) hE (Ja7 (kv:=Slot.kv) (av:=Box.av) (m:=c) (q:=k) (seen:=f) (e:=d) (fun _=>O) O O O .data g) ?_ O O O O))))))))
  refine Jk (u:=.agg (Slot.cs d.1)) hE (H3 O O O) ?_ O O O O
  refine Jk (u:=.ptr 1189 0) hE (Hm 1189 3 Rc O O) ?_ O O O O
  refine Y6c (u:=.junk) hE (H7 (u:=.agg (Slot.cs d.1)) (ds:=[I64 d.1.G3,I64 d.1.Tier,U8 d.1.Half]) Y9 O O O O O O O O) ?_ O O O
  refine Rt ?_
  refine p _ _ _ (Ry (fun K6 r=>Qn (Jk (u:=.sc (.func (.yield E.lp) #[] #[])) hE (G6 O O) ?_ O O O O)))
  refine Jk (u:=.agg (Slot.cs d.1)) hE (J08 J0 O O O O) ?_ O O O O
  refine J65 (us:=[.agg (Slot.cs d.1)]) hE rfl rfl ⟨rfl,rfl,ø⟩ (by rw [hnx]; exact R47 g i) ?_ rfl rfl rfl
  refine Jk (u:=BL false) hE (Yc (b:=true) O O) ?_ O O O O
  refine Rt ?_
  refine r _ _ _ (H8f O (H38 (s _ _ (f++[k]) True.intro (Ga1 (M5 g).1 i) ⟨(.sm O O),⟨⟨_,O,.iter O⟩,ø⟩,O⟩)))
 ·
  refine Jk (u:=BL false) hE (H3 O O O) ?_ O O O O
  refine Rt ?_
  refine h _ _ _ (Ry (fun K7 t=>H8f O (J64 (Qb5 n))))

def G40 (m:Gu Int Box):Option Unit:=
 some ()
theorem G9f (m:Gu Int Box) (r:Unit) (h:G40 m=some r):Pure En 50 [DM Ks Box.av m] (·=.fn 96 [.dptr [DM Ks Box.av m]]):=by
 unfold G40 at h
 refine Gx [.tmp 2] Tryz.func50 O O (Jr fun a=>(JLh (.ptr 1084 0) (Q2 (cs:=[DM Ks Box.av m]) 1084 O O O O O) O (JLm (.sc .nilFunc) O (G5 (a (Gp [(1,.dptr [DM Ks Box.av m])] [] 1084 rfl rfl rfl ø rfl (by exact⟨.ptr,ø⟩) (Jr fun b=>(JLh (.fn 96 [.dptr [DM Ks Box.av m]]) (Q4 (cs:=[.dptr [DM Ks Box.av m]]) O O) O (JLm (.fn 96 [.dptr [DM Ks Box.av m]]) O (G5 (b (Gs (⟨[.fn 96 [.dptr [DM Ks Box.av m]]],[],ø,O,⟨⟨_,O,.conv (.same O)⟩,ø⟩,O,congrArg (fun _:Unit=>(.fn 96 [.dptr [DM Ks Box.av m]]:AV)) (M7 h)⟩)))))))))))))

def G7c (m:Gu Int Int):Option Unit:=
 some ()
theorem Gec (m:Gu Int Int) (r:Unit) (h:G7c m=some r):Pure En 49 [DM Ks I64 m] (·=.fn 95 [.dptr [DM Ks I64 m]]):=by
 unfold G7c at h
 refine Gx [.tmp 2] Tryz.func49 O O (Jr fun a=>(JLh (.ptr 1083 0) (Q2 (cs:=[DM Ks I64 m]) 1083 O O O O O) O (JLm (.sc .nilFunc) O (G5 (a (Gp [(1,.dptr [DM Ks I64 m])] [] 1083 rfl rfl rfl ø rfl (by exact⟨.ptr,ø⟩) (Jr fun b=>(JLh (.fn 95 [.dptr [DM Ks I64 m]]) (Q4 (cs:=[.dptr [DM Ks I64 m]]) O O) O (JLm (.fn 95 [.dptr [DM Ks I64 m]]) O (G5 (b (Gs (⟨[.fn 95 [.dptr [DM Ks I64 m]]],[],ø,O,⟨⟨_,O,.conv (.same O)⟩,ø⟩,O,congrArg (fun _:Unit=>(.fn 95 [.dptr [DM Ks I64 m]]:AV)) (M7 h)⟩)))))))))))))

def G09 (m:Gu Slot Box):Option Unit:=
 some ()
theorem H27 (m:Gu Slot Box) (r:Unit) (h:G09 m=some r):Pure En 88 [DM Slot.kv Box.av m] (·=.fn 125 [.dptr [DM Slot.kv Box.av m]]):=by
 unfold G09 at h
 refine Gx [.tmp 2] Tryz.func88 O O (Jr fun a=>(JLh (.ptr 1146 0) (Q2 (cs:=[DM Slot.kv Box.av m]) 1146 O O O O O) O (JLm (.sc .nilFunc) O (G5 (a (Gp [(1,.dptr [DM Slot.kv Box.av m])] [] 1146 rfl rfl rfl ø rfl (by exact⟨.ptr,ø⟩) (Jr fun b=>(JLh (.fn 125 [.dptr [DM Slot.kv Box.av m]]) (Q4 (cs:=[.dptr [DM Slot.kv Box.av m]]) O O) O (JLm (.fn 125 [.dptr [DM Slot.kv Box.av m]]) O (G5 (b (Gs (⟨[.fn 125 [.dptr [DM Slot.kv Box.av m]]],[],ø,O,⟨⟨_,O,.conv (.same O)⟩,ø⟩,O,congrArg (fun _:Unit=>(.fn 125 [.dptr [DM Slot.kv Box.av m]]:AV)) (M7 h)⟩)))))))))))))

def Qp (seq:List (Option Int)) (Rp:(List Int)→Prop):Option Prop:=
 J09 (fun(b:Int) (a:(List Int)) c=>
  need (decide ((a.length+[b].length)*8≤140737488355328∧a.length+[b].length≤maxLen)) <|
  c (a++[b]))
 (fun(a:(List Int))=>
  some (Rp a)) (seq.filterMap id) []
def Rx (seq:List (Option Slot)) (Rp:(List Slot)→Prop):Option Prop:=
 J09 (fun(b:Slot) (a:(List Slot)) c=>
  need (decide ((a.length+[b].length)*24≤140737488355328∧a.length+[b].length≤maxLen)) <|
  c (a++[b]))
 (fun(a:(List Slot))=>
  some (Rp a)) (seq.filterMap id) []
theorem G66 (seq:List (Option Slot)) (seq_f:FuncId) (seq_c:List AV) (seq_B:Gz En seq_f=true) (seq_d:Q9 (fun _=>false) seq_c=true) (seq_w:Gb8 En seq_f seq_c ([]:List Nat) (Ge5 (fun a:Slot=>[.agg [I64 a.G3,I64 a.Tier,U8 a.Half]]) seq) (G48 seq)) (Rp:(List Slot)→Prop) (p:Prop) (h:Rx seq Rp=some p) (hp:p):Pure En 124 [.sc (.slice none 0 0),.fn seq_f seq_c] (fun av=>∃ r,Rp r∧av=E9 r):=by
 unfold Rx at h
 refine Gx [.tmp 4] Tryz.func124 O O (Jr fun i=>(JLh (.ptr 1186 0) (Q2 (cs:=[.sc (.slice none 0 0)]) 1186 O O O O O) O (Gdd 1186 0 1188 57 3 O O O (cs':=[OW 1188 3 Slot.av ([]:List Slot)]) O (JLh (E9 ([]:List Slot)) (Ji 3 O O) O (G5 (i (Js fun j=>Jr fun k=>(JLm (.fn seq_f seq_c) O (G5 (k (Gq ?_)))))))))))
 obtain⟨w,l,m,g,h⟩:=H42 h
 refine H39 (ps:=[7]) [(2,.ptr 1186 0),(6,.fn seq_f seq_c)] (fun n (b:(List Slot))=>Gcb w l seq n b) (fun b=>[(1188,.spare 57 3 b.length b.length),(1186,.box 133 [OW 1188 3 Slot.av b])]) [] rfl rfl seq_d seq_B seq_w (Gcb.start h hp) ⟨⟨.same rfl,.same (Hf _ _ seq_d),trivial⟩,⟨⟨_,rfl,.same⟩,fbQ O ⟨.same rfl,trivial⟩,trivial⟩,rfl⟩ rfl (fun k_ us_ k2_ hk_=>by obtain⟨_,_,_,_,rfl,_⟩:=hk_; rfl) (fun p_ hp_=>Nat.blt_eq.mp (by revert p_; decide)) (fun _=>⟨.same rfl,.same (Hf _ _ seq_d),trivial⟩) (fun _=>rfl) ?_ ?_
 ·
  clear h hp
  rintro n us_ k_ b ⟨y,c,o,q,rfl,rfl⟩ d lr_ z x
  obtain⟨o6,h,v,e⟩:=d.step o q
  replace h:=J9a m h
  change JC _ _ _ _ [(7,.agg [I64 c.G3,I64 c.Tier,U8 c.Half]),(2,.ptr 1186 0),(6,.fn seq_f seq_c)] [(1188,.spare 57 3 b.length b.length),(1186,.box 133 [OW 1188 3 Slot.av b])]
  refine G2 (JLh (.ptr 1187 0) (Hm 1187 3 Rc O O) O (Ho (u:=.junk) (H7 (u:=.agg [I64 c.G3,I64 c.Tier,U8 c.Half]) (ds:=[I64 c.G3,I64 c.Tier,U8 c.Half]) Y9 O O O O O O O O) (G5 (Qd4 [(2,.ptr 1186 0),(5,.dptr [I64 c.G3,I64 c.Tier,U8 c.Half])] [(1188,.spare 57 3 b.length b.length),(1186,.box 133 [OW 1188 3 Slot.av b])] 1187 rfl rfl rfl ⟨⟨_,rfl,.same⟩,⟨_,rfl,.boxEq rfl rfl⟩,ø⟩ rfl (by exact⟨.conv (.same rfl),.ptr,ø⟩) (R5c (Gq (G2 ?_)))))))
  refine JLh (OW 1188 3 Slot.av b) (Hz Gbb O O O O) O (JLh (.agg [I64 c.G3,I64 c.Tier,U8 c.Half]) (Gk J0 O O O) O (JLh (E9 [c]) (Hd (xs:=[.agg [I64 c.G3,I64 c.Tier,U8 c.Half]]) O ⟨O,O,ø⟩ Y4 Rc O O O O) O ?_))
  obtain⟨s,h⟩:=Jf h
  refine JLh (OW 1188 3 Slot.av (b++[c])) (Y7 (f:=Slot.av) (xs:=b) (ys:=[c]) O O O O Y4 J85 s (fun _=>O) (.inl O) O) O (Ho (u:=.junk) (H7 (u:=OW 1188 3 Slot.av (b++[c])) (ds:=[OW 1188 3 Slot.av (b++[c])]) Q10 O O O O O O O O) (G5 (x _ _ (b++[c]) (e _ (M7 h).symm) ⟨ø,⟨⟨_,O,.same⟩,⟨_,O,.boxL O ⟨.same O,ø⟩⟩,ø⟩,O⟩)))
 ·
  clear h hp
  intro k_ b hf_ d
  obtain⟨p_,h,hp⟩:=d.done hf_
  replace h:=app1 g h
  refine j (Jr fun t=>(JLh (OW 1188 3 Slot.av b) (Hz Gbb O O O O) O (JLm (OW 1188 3 Slot.av b) O (G5 (t (Qs (l':=[(4,E9 b)]) (L':=[(1186,.box 133 [E9 b])]) ⟨⟨.list O,ø⟩,⟨⟨_,O,.boxL O ⟨.list O,ø⟩⟩,ø⟩,O⟩ (Gp [(4,E9 b)] [] 1186 rfl rfl rfl ø rfl (by exact⟨.conv (.same rfl),ø⟩) (Gs (⟨[E9 b],[],ø,O,⟨⟨_,O,.conv (.same O)⟩,ø⟩,O,b,Eq.mpr (M7 h) hp,O⟩)))))))))
def R1 (seq:List (Option Int)) (Rp:(List Int)→Prop):Option Prop:=
 ndM (Qp seq) fun a=>
 some (Rp a)
def Yi (seq:List (Option Slot)) (Rp:(List Slot)→Prop):Option Prop:=
 ndM (Rx seq) fun a=>
 some (Rp a)
theorem G96 (seq:List (Option Slot)) (seq_f:FuncId) (seq_c:List AV) (seq_B:Gz En seq_f=true) (seq_d:Q9 (fun _=>false) seq_c=true) (seq_w:Gb8 En seq_f seq_c ([]:List Nat) (Ge5 (fun a:Slot=>[.agg [I64 a.G3,I64 a.Tier,U8 a.Half]]) seq) (G48 seq)) (Rp:(List Slot)→Prop) (p:Prop) (h:Yi seq Rp=some p) (hp:p):Pure En 87 [.fn seq_f seq_c] (fun av=>∃ r,Rp r∧av=E9 r):=by
 unfold Yi at h
 refine Gx [.tmp 2] Tryz.func87 O O (Jr fun c=>(JLh (E9 ([]:List Slot)) (Ji 3 O O) O (G5 (c (Jr fun d=>(JLm (.fn seq_f seq_c) O (Yb O O O (Rd2 (args:=[.sc (.slice none 0 0),.fn seq_f seq_c]) (g:=fun r=>E9 r) O (G66 seq seq_f seq_c seq_B seq_d seq_w _ _ h hp) R86 ⟨O,O,O,seq_d,ø⟩) ?_)))))))
 rintro u_ L_ ⟨b,⟨e,h,hp⟩,rfl,rfl⟩
 refine JLm (E9 b) O (G5 (d (Gs (⟨[E9 b],[],ø,O,⟨⟨_,O,.conv (.same O)⟩,ø⟩,O,b,Eq.mpr (M7 h) hp,O⟩))))
theorem Gb6 (seq:List (Option Int)) (seq_f:FuncId) (seq_c:List AV) (seq_B:Gz En seq_f=true) (seq_d:Q9 (fun _=>false) seq_c=true) (seq_w:Gb8 En seq_f seq_c ([]:List Nat) (Ge5 (fun a:Int=>[I64 a]) seq) (G48 seq)) (Rp:(List Int)→Prop) (p:Prop) (h:Qp seq Rp=some p) (hp:p):J3 En 137 [.sc (.slice none 0 0),.fn seq_f seq_c] [] (fun av L'=>∃ p:Nat,∃ r,Rp r∧av=.vec 1194 p 1 r.length∧L'=[(1194,.vec 3 1 p (r.map I64))]):=by
 unfold Qp at h
 refine Jj [] [.tmp 4] Tryz.func137 O O (G0d O) (Jr fun i=>(JLh (.ptr 1192 0) (Q2 (cs:=[.sc (.slice none 0 0)]) 1192 O O O O O) O (Qe2 1192 0 1194 3 1 O O O (cs':=[.vec 1194 (([]:List Int).length) 1 (([]:List Int).length)]) O (JLh (.vec 1193 (([]:List Int).length) 1 (([]:List Int).length)) (G7d 1193 3 1 O O O) O (G5 (i (Js fun j=>Jr fun k=>(JLm (.fn seq_f seq_c) O (G5 (k (Gq ?_)))))))))))
 obtain⟨w,l,m,g,h⟩:=H42 h
 refine H39 (ps:=[7]) [(2,.ptr 1192 0),(6,.fn seq_f seq_c)] (fun n (b:(List Int))=>Gcb w l seq n b) (fun b=>[(1194,.vec 3 1 b.length (b.map I64)),(1193,.vec 3 1 (([]:List Int).length) (([]:List Int).map I64)),(1192,.box 49 [.vec 1194 b.length 1 b.length])]) [] rfl rfl seq_d seq_B seq_w (Gcb.start h hp) ⟨⟨.same rfl,.same (Hf _ _ seq_d),trivial⟩,⟨⟨_,rfl,.vec⟩,⟨_,rfl,.vec⟩,fbQ O ⟨.same rfl,trivial⟩,trivial⟩,rfl⟩ rfl (fun k_ us_ k2_ hk_=>by obtain⟨_,_,_,_,rfl,_⟩:=hk_; rfl) (fun p_ hp_=>Nat.blt_eq.mp (by revert p_; decide)) (fun _=>⟨.same rfl,.same (Hf _ _ seq_d),trivial⟩) (fun _=>rfl) ?_ ?_
 ·
  clear h hp
  rintro n us_ k_ b ⟨y,c,o,q,rfl,rfl⟩ d lr_ z x
  obtain⟨o6,h,v,e⟩:=d.step o q
  replace h:=J9a m h
  change JC _ _ _ _ [(7,I64 c),(2,.ptr 1192 0),(6,.fn seq_f seq_c)] [(1194,.vec 3 1 b.length (b.map I64)),(1193,.vec 3 1 (([]:List Int).length) (([]:List Int).map I64)),(1192,.box 49 [.vec 1194 b.length 1 b.length])]
  refine G2 (JLm (I64 c) O (G5 (R5c (Gq (G2 (JLh (.vec 1194 b.length 1 b.length) (Hz Ri O O O O) O (JLm (I64 c) O (JLh (E2 [c]) (Hd (xs:=[I64 c]) O ⟨O,O,ø⟩ H0 Y8 O O O O) O ?_))))))))
  obtain⟨s,h⟩:=Jf h
  refine JLh (.vec 1194 ((b++[c]).length) 1 ((b++[c]).length)) (G41 (f:=I64) (xs:=b) (ys:=[c]) (ver:=b.length) (ver1:=(b++[c]).length) rfl rfl rfl rfl H0 G75 s (fun _=>rfl) (.inl rfl) (by simp)) O (Ho (u:=.junk) (H7 (u:=.vec 1194 ((b++[c]).length) 1 ((b++[c]).length)) (ds:=[.vec 1194 ((b++[c]).length) 1 ((b++[c]).length)]) He6 O O O O O O O O) (G5 (x _ _ (b++[c]) (e _ (M7 h).symm) ⟨ø,⟨⟨_,O,.vec⟩,⟨_,O,.vec⟩,⟨_,O,.boxL O ⟨.same O,ø⟩⟩,ø⟩,O⟩)))
 ·
  clear h hp
  intro k_ b hf_ d
  obtain⟨p_,h,hp⟩:=d.done hf_
  replace h:=app1 g h
  refine j (Jr fun t=>(JLh (.vec 1194 b.length 1 b.length) (Hz Ri O O O O) O (JLm (.vec 1194 b.length 1 b.length) O (G5 (t (G43 4 O O (fun hn_=>Gs (⟨[.vec 1194 b.length 1 b.length],[(1194,.vec 3 1 b.length (b.map I64))],⟨⟨_,O,.vec⟩,ø⟩,O,⟨⟨_,O,.conv (.same O)⟩,ø⟩,b.length,b,Eq.mpr (M7 h) hp,congrArg (fun n_:Nat=>(.vec 1194 b.length 1 n_:AV)) (hn_.trans (Mm _)),O⟩))))))))
theorem G4e (seq:List (Option Int)) (seq_f:FuncId) (seq_c:List AV) (seq_B:Gz En seq_f=true) (seq_d:Q9 (fun _=>false) seq_c=true) (seq_w:Gb8 En seq_f seq_c ([]:List Nat) (Ge5 (fun a:Int=>[I64 a]) seq) (G48 seq)) (Rp:(List Int)→Prop) (p:Prop) (h:R1 seq Rp=some p) (hp:p):J3 En 94 [.fn seq_f seq_c] [] (fun av L'=>∃ p:Nat,∃ r,Rp r∧av=.vec 1194 p 1 r.length∧L'=[(1194,.vec 3 1 p (r.map I64))]):=by
 unfold R1 at h
 refine Jj [] [.tmp 2] Tryz.func94 O O (G0d O) (Jr fun d=>(JLh (.vec 1152 (([]:List Int).length) 1 (([]:List Int).length)) (G7d 1152 3 1 O O O) O (G5 (d (Jr fun e=>(JLm (.fn seq_f seq_c) O (Yb O O O (Q0a (args:=[.sc (.slice none 0 0),.fn seq_f seq_c]) (u:=fun(p:Nat) (r:List Int)=>.vec 1194 p 1 r.length) (Lr:=fun(p:Nat) (r:List Int)=>[(1194,.vec 3 1 p (r.map I64))]) O (Gb6 seq seq_f seq_c seq_B seq_d seq_w _ _ h hp) Q15 ⟨.inl O,O,.inl O,(Hf _ _ seq_d),ø⟩ (fun _ _=>O)) ?_)))))))
 rintro u_ L_ ⟨b,c,⟨f,h,hp⟩,rfl,rfl⟩
 refine JLm (.vec 1194 b 1 c.length) O (G5 (e (G43 2 O O (fun hn_=>Gs (⟨[.vec 1194 b 1 c.length],[(1194,.vec 3 1 b (c.map I64))],⟨⟨_,O,.vec⟩,ø⟩,O,⟨⟨_,O,.conv (.same O)⟩,ø⟩,b,c,Eq.mpr (M7 h) hp,congrArg (fun n_:Nat=>(.vec 1194 b 1 n_:AV)) (hn_.trans (Mm _)),O⟩)))))
def Rg (seq:List (Option Int)) (Rp:(List Int)→Prop):Option Prop:=
 ndM (R1 seq) fun a=>
 bnd (G8a a) fun b=>
 some (Rp b)
theorem J00 (seq:List (Option Int)) (seq_f:FuncId) (seq_c:List AV) (seq_B:Gz En seq_f=true) (seq_d:Q9 (fun _=>false) seq_c=true) (seq_w:Gb8 En seq_f seq_c ([]:List Nat) (Ge5 (fun a:Int=>[I64 a]) seq) (G48 seq)) (Rp:(List Int)→Prop) (p:Prop) (h:Rg seq Rp=some p) (hp:p):J3 En 48 [.fn seq_f seq_c] [] (fun av L'=>∃ p:Nat,∃ r,Rp r∧av=.vec 1194 p 1 r.length∧L'=[(1194,.vec 3 1 p (r.map I64))]):=by
 unfold Rg at h
 refine Jj [] [.tmp 2] Tryz.func48 O O (G0d O) (Jr fun e=>(JLh (.vec 1082 (([]:List Int).length) 1 (([]:List Int).length)) (G7d 1082 3 1 O O O) O (G5 (e (Jr fun f=>(JLm (.fn seq_f seq_c) O (Yb O O O (Q0a (args:=[.fn seq_f seq_c]) (u:=fun(p:Nat) (r:List Int)=>.vec 1194 p 1 r.length) (Lr:=fun(p:Nat) (r:List Int)=>[(1194,.vec 3 1 p (r.map I64))]) O (G4e seq seq_f seq_c seq_B seq_d seq_w _ _ h hp) Q77 ⟨.inl O,(Hf _ _ seq_d),ø⟩ (fun _ _=>O)) ?_)))))))
 rintro u_ L_ ⟨b,c,⟨k,h,hp⟩,rfl,rfl⟩
 refine JLm (.vec 1194 b 1 c.length) O (G5 (f (Jr fun g=>(JLm (.vec 1194 b 1 c.length) O ?_))))
 obtain⟨d,i,h⟩:=Ge h
 refine JLh (.tup []) (R64 (F:=72) (xs:=c) (r:=d) O J29 Hf0 J88 O O O i O) O (G5 (g (Jr fun j=>(JLm (.vec 1194 b 1 c.length) O (JLm (.vec 1194 b 1 c.length) O (G5 (j (G43 2 O O (fun hn_=>Gs (⟨[.vec 1194 b 1 c.length],[(1194,.vec 3 1 b (d.map I64))],⟨⟨_,O,.vec⟩,ø⟩,O,⟨⟨_,O,.conv (.same O)⟩,ø⟩,b,d,Eq.mpr (M7 h) hp,congrArg (fun n_:Nat=>(.vec 1194 b 1 n_:AV)) (hn_.trans (Mm _)),O⟩))))))))))
theorem Hff (S_:(List (Option Int))→Option (List Int)) (hS_:∀ seq r,S_ seq=some r→∃ p:Prop,Rg seq (fun r_=>r_=r)=some p∧p) (seq:List (Option Int)) (seq_f:FuncId) (seq_c:List AV) (seq_B:Gz En seq_f=true) (seq_d:Q9 (fun _=>false) seq_c=true) (seq_w:Gb8 En seq_f seq_c ([]:List Nat) (Ge5 (fun a:Int=>[I64 a]) seq) (G48 seq)) (r:(List Int)) (h:S_ seq=some r):J3 En 48 [.fn seq_f seq_c] [] (fun av L'=>∃ p:Nat,av=.vec 1194 p 1 r.length∧L'=[(1194,.vec 3 1 p (r.map I64))]):=by
 obtain⟨p,b,c⟩:=hS_ seq r h
 exact(J00 seq seq_f seq_c seq_B seq_d seq_w _ p b c).mono (fun av L hh=>by obtain⟨q,r_,rfl,ha,hb⟩:=hh; exact⟨q,ha,hb⟩)
end
end Go.Proofs.YtgcpimpnpcdmmaaGreat
