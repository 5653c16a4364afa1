/- Walks of functions. -/
import Derived.Test.YtidpfkmbfgihlaaGreatSpecS
set_option maxRecDepth 100000
set_option maxHeartbeats 1000000
set_option linter.unusedVariables false
set_option linter.unusedSimpArgs false
namespace Go.Proofs.YtidpfkmbfgihlaaGreat
open Go.RowKit
noncomputable section

namespace XKF
open XAF
open XCF
open XSF
theorem Q0c:H7 Eo 100=true:=by kernel_rfl
theorem R61:H7 Eo 131=true:=by kernel_rfl
theorem Q02:H7 Eo 144=true:=by kernel_rfl
theorem Q60:H7 Eo 99=true:=by kernel_rfl
theorem J6c:Z8 Eo 43 3 24=true:=by kernel_rfl
theorem H0a:Zo Eo 94 3 60=true:=by kernel_rfl
theorem G1b:Y6 Eo 94=true:=by kernel_rfl
theorem Jfe:Yx Eo 136 1=true:=by kernel_rfl
theorem Hd3:Yx Eo 51 1=true:=by kernel_rfl
end XKF
open XAF
open XCF
open XSF
open XKF


theorem G76 (c:Gu Int Box):Gbd Eo 101 [.dptr [DM Kq Box.av c]] ([]:List Nat) (Gde (fun a:Int=>[I64 a]) (Gu.keys c)) (G55 (Gu.keys c)):=by
 refine Jc6 Tryz.func101 O O ?_
 intro E hE hnx
 refine Rj (fun v j=>Qh (J2 (u:=DM Kq Box.av c) hE (Gh G1b O O O) ?_ O O O O))
 refine J2 (u:=.it 1154) hE (H8f 1154 (kv:=Kq) (av:=Box.av) (m:=c) O O .data O H0a) ?_ O O O O
 refine Rh ?_
 refine j _ _ _ (G47 (Q47 (X:=List Nat) (fun _=>True) (fun d=>[(0,.sc (.func (.yield E.lp) #[] #[])),(5,.it 1154)]) (fun d=>[(1154,.iter (DM Kq Box.av c) c.l.length d)]) (fun d=>d) (fun d=>unseen (c.l.length) d) [] True.intro ⟨(.sm O O),⟨⟨_,O,.iter O⟩,G⟩,O⟩ O ?_))
 intro d _ w s
 refine Rj (fun x h=>Qh (Qc5 hE O O O (Hfd (kv:=Kq) (av:=Box.av) (m:=c) (fun _=>O) O O O .data) ?_))
 intro u_ L_ hn_
 rcases hn_ with ⟨k,f,g,i,rfl,rfl⟩ | ⟨n,rfl,rfl⟩
 ·
  refine J2 (u:=BL true) hE (H1 O O O) ?_ O O O O
  refine Rh ?_
  refine h _ _ _ (Rj (fun y o=>Qc4 O (Gcf (o _ _ _ (G47 (Rj (fun z p=>Qh (J2 (u:=.tup [I64 f.1,.agg (Box.cs f.2)]) hE (J90 (kv:=Kq) (av:=Box.av) (m:=c) (q:=k) (seen:=d) (e:=f) (fun _=>O) O O O .data g) ?_ O O O O))))))))
  refine J2 (u:=I64 f.1) hE (H1 O O O) ?_ O O O O
  refine J2 (u:=I64 f.1) hE (G7 O O) ?_ O O O O
  refine Rh ?_
  refine p _ _ _ (Rj (fun K6 r=>Qh (J2 (u:=.sc (.func (.yield E.lp) #[] #[])) hE (G6 O O) ?_ O O O O)))
  refine J2 (u:=I64 f.1) hE (G6 O O) ?_ O O O O
  refine Hcb (us:=[I64 f.1]) hE rfl rfl ⟨rfl,rfl,G⟩ (by rw [hnx]; exact R32 g i) ?_ rfl rfl rfl
  refine J2 (u:=BL false) hE (Qx (b:=true) O O) ?_ O O O O
  refine Rh ?_
  refine r _ _ _ (H3e O (Gcf (s _ _ (d++[k]) True.intro (Gaa (M3 g).1 i) ⟨(.sm O O),⟨⟨_,O,.iter O⟩,G⟩,O⟩)))
 ·
  refine J2 (u:=BL false) hE (H1 O O O) ?_ O O O O
  refine Rh ?_
  refine h _ _ _ (Rj (fun K7 t=>H3e O (Hfb (Q96 n))))


theorem Gbc (c:Gu Int Int):Gbd Eo 104 [.dptr [DM Kq I64 c]] ([]:List Nat) (Gde (fun a:Int=>[I64 a]) (Gu.keys c)) (G55 (Gu.keys c)):=by
 refine Jc6 Tryz.func104 O O ?_
 intro E hE hnx
 refine Rj (fun v j=>Qh (J2 (u:=DM Kq I64 c) hE (Gh G65 O O O) ?_ O O O O))
 refine J2 (u:=.it 1156) hE (H8f 1156 (kv:=Kq) (av:=I64) (m:=c) O O .data O H62) ?_ O O O O
 refine Rh ?_
 refine j _ _ _ (G47 (Q47 (X:=List Nat) (fun _=>True) (fun d=>[(0,.sc (.func (.yield E.lp) #[] #[])),(5,.it 1156)]) (fun d=>[(1156,.iter (DM Kq I64 c) c.l.length d)]) (fun d=>d) (fun d=>unseen (c.l.length) d) [] True.intro ⟨(.sm O O),⟨⟨_,O,.iter O⟩,G⟩,O⟩ O ?_))
 intro d _ w s
 refine Rj (fun x h=>Qh (Qc5 hE O O O (Hfd (kv:=Kq) (av:=I64) (m:=c) (fun _=>O) O O O .data) ?_))
 intro u_ L_ hn_
 rcases hn_ with ⟨k,f,g,i,rfl,rfl⟩ | ⟨n,rfl,rfl⟩
 ·
  refine J2 (u:=BL true) hE (H1 O O O) ?_ O O O O
  refine Rh ?_
  refine h _ _ _ (Rj (fun y o=>Qc4 O (Gcf (o _ _ _ (G47 (Rj (fun z p=>Qh (J2 (u:=.tup [I64 f.1,I64 f.2]) hE (J90 (kv:=Kq) (av:=I64) (m:=c) (q:=k) (seen:=d) (e:=f) (fun _=>O) O O O .data g) ?_ O O O O))))))))
  refine J2 (u:=I64 f.1) hE (H1 O O O) ?_ O O O O
  refine J2 (u:=I64 f.1) hE (G7 O O) ?_ O O O O
  refine Rh ?_
  refine p _ _ _ (Rj (fun K6 r=>Qh (J2 (u:=.sc (.func (.yield E.lp) #[] #[])) hE (G6 O O) ?_ O O O O)))
  refine J2 (u:=I64 f.1) hE (G6 O O) ?_ O O O O
  refine Hcb (us:=[I64 f.1]) hE rfl rfl ⟨rfl,rfl,G⟩ (by rw [hnx]; exact R32 g i) ?_ rfl rfl rfl
  refine J2 (u:=BL false) hE (Qx (b:=true) O O) ?_ O O O O
  refine Rh ?_
  refine r _ _ _ (H3e O (Gcf (s _ _ (d++[k]) True.intro (Gaa (M3 g).1 i) ⟨(.sm O O),⟨⟨_,O,.iter O⟩,G⟩,O⟩)))
 ·
  refine J2 (u:=BL false) hE (H1 O O O) ?_ O O O O
  refine Rh ?_
  refine h _ _ _ (Rj (fun K7 t=>H3e O (Hfb (Q96 n))))


theorem Gfe (c:Gu Slot Box):Gbd Eo 132 [.dptr [DM Slot.kv Box.av c]] ([]:List Nat) (Gde (fun a:Slot=>[.agg [I64 a.G2,I64 a.Tier,U8 a.Half]]) (Gu.keys c)) (G55 (Gu.keys c)):=by
 refine Jc6 Tryz.func132 O O ?_
 intro E hE hnx
 refine Rj (fun v j=>Qh (J2 (u:=DM Slot.kv Box.av c) hE (Gh Yj O O O) ?_ O O O O))
 refine J2 (u:=.it 1182) hE (H8f 1182 (kv:=Slot.kv) (av:=Box.av) (m:=c) O O .data O G52) ?_ O O O O
 refine Rh ?_
 refine j _ _ _ (G47 (Q47 (X:=List Nat) (fun _=>True) (fun f=>[(0,.sc (.func (.yield E.lp) #[] #[])),(5,.it 1182)]) (fun f=>[(1182,.iter (DM Slot.kv Box.av c) c.l.length f)]) (fun f=>f) (fun f=>unseen (c.l.length) f) [] True.intro ⟨(.sm O O),⟨⟨_,O,.iter O⟩,G⟩,O⟩ O ?_))
 intro f _ w s
 refine Rj (fun x h=>Qh (Qc5 hE O O O (Hfd (kv:=Slot.kv) (av:=Box.av) (m:=c) (fun _=>O) O O O .data) ?_))
 intro u_ L_ hn_
 rcases hn_ with ⟨k,d,g,i,rfl,rfl⟩ | ⟨n,rfl,rfl⟩
 ·
  refine J2 (u:=BL true) hE (H1 O O O) ?_ O O O O
  refine Rh ?_
  refine h _ _ _ (Rj (fun y o=>Qc4 O (Gcf (o _ _ _ (G47 (Rj (fun z p=>Qh (J2 (u:=.tup [.agg (Slot.cs d.1),.agg (Box.cs d.2)]) hE (J90 (kv:=Slot.kv) (av:=Box.av) (m:=c) (q:=k) (seen:=f) (e:=d) (fun _=>O) O O O .data g) ?_ O O O O))))))))
  refine J2 (u:=.agg (Slot.cs d.1)) hE (H1 O O O) ?_ O O O O
  refine J2 (u:=.ptr 1181 0) hE (Hq 1181 3 Z7 O O) ?_ O O O O
  refine Y3e (u:=.junk) hE (Hc (u:=.agg (Slot.cs d.1)) (ds:=[I64 d.1.G2,I64 d.1.Tier,U8 d.1.Half]) Zv O O O O O O O O) ?_ O O O
  refine Rh ?_
  refine p _ _ _ (Rj (fun K6 r=>Qh (J2 (u:=.sc (.func (.yield E.lp) #[] #[])) hE (G6 O O) ?_ O O O O)))
  refine J2 (u:=.agg (Slot.cs d.1)) hE (Ga9 Hu O O O O) ?_ O O O O
  refine Hcb (us:=[.agg (Slot.cs d.1)]) hE rfl rfl ⟨rfl,rfl,G⟩ (by rw [hnx]; exact R32 g i) ?_ rfl rfl rfl
  refine J2 (u:=BL false) hE (Qx (b:=true) O O) ?_ O O O O
  refine Rh ?_
  refine r _ _ _ (H3e O (Gcf (s _ _ (f++[k]) True.intro (Gaa (M3 g).1 i) ⟨(.sm O O),⟨⟨_,O,.iter O⟩,G⟩,O⟩)))
 ·
  refine J2 (u:=BL false) hE (H1 O O O) ?_ O O O O
  refine Rh ?_
  refine h _ _ _ (Rj (fun K7 t=>H3e O (Hfb (Q96 n))))

def G4e (m:Gu Int Box):Option Unit:=
 some ()
theorem Ga5 (m:Gu Int Box) (r:Unit) (h:G4e m=some r):Pure Eo 42 [DM Kq Box.av m] (·=.fn 101 [.dptr [DM Kq Box.av m]]):=by
 unfold G4e at h
 refine H0 [.tmp 2] Tryz.func42 O O (Jr fun a=>(JLh (.ptr 1088 0) (Jm (cs:=[DM Kq Box.av m]) 1088 O O O O O) O (JLm (.sc .nilFunc) O (G5 (a (Gm [(1,.dptr [DM Kq Box.av m])] [] 1088 rfl rfl rfl G rfl (by exact⟨.ptr,G⟩) (Jr fun b=>(JLh (.fn 101 [.dptr [DM Kq Box.av m]]) (Jz (cs:=[.dptr [DM Kq Box.av m]]) O O) O (JLm (.fn 101 [.dptr [DM Kq Box.av m]]) O (G5 (b (Gq (⟨[.fn 101 [.dptr [DM Kq Box.av m]]],[],G,O,⟨⟨_,O,.conv (.same O)⟩,G⟩,O,congrArg (fun _:Unit=>(.fn 101 [.dptr [DM Kq Box.av m]]:AV)) (M5 h)⟩)))))))))))))

def G81 (m:Gu Int Int):Option Unit:=
 some ()
theorem Ge9 (m:Gu Int Int) (r:Unit) (h:G81 m=some r):Pure Eo 49 [DM Kq I64 m] (·=.fn 104 [.dptr [DM Kq I64 m]]):=by
 unfold G81 at h
 refine H0 [.tmp 2] Tryz.func49 O O (Jr fun a=>(JLh (.ptr 1096 0) (Jm (cs:=[DM Kq I64 m]) 1096 O O O O O) O (JLm (.sc .nilFunc) O (G5 (a (Gm [(1,.dptr [DM Kq I64 m])] [] 1096 rfl rfl rfl G rfl (by exact⟨.ptr,G⟩) (Jr fun b=>(JLh (.fn 104 [.dptr [DM Kq I64 m]]) (Jz (cs:=[.dptr [DM Kq I64 m]]) O O) O (JLm (.fn 104 [.dptr [DM Kq I64 m]]) O (G5 (b (Gq (⟨[.fn 104 [.dptr [DM Kq I64 m]]],[],G,O,⟨⟨_,O,.conv (.same O)⟩,G⟩,O,congrArg (fun _:Unit=>(.fn 104 [.dptr [DM Kq I64 m]]:AV)) (M5 h)⟩)))))))))))))

def G16 (m:Gu Slot Box):Option Unit:=
 some ()
theorem H18 (m:Gu Slot Box) (r:Unit) (h:G16 m=some r):Pure Eo 93 [DM Slot.kv Box.av m] (·=.fn 132 [.dptr [DM Slot.kv Box.av m]]):=by
 unfold G16 at h
 refine H0 [.tmp 2] Tryz.func93 O O (Jr fun a=>(JLh (.ptr 1147 0) (Jm (cs:=[DM Slot.kv Box.av m]) 1147 O O O O O) O (JLm (.sc .nilFunc) O (G5 (a (Gm [(1,.dptr [DM Slot.kv Box.av m])] [] 1147 rfl rfl rfl G rfl (by exact⟨.ptr,G⟩) (Jr fun b=>(JLh (.fn 132 [.dptr [DM Slot.kv Box.av m]]) (Jz (cs:=[.dptr [DM Slot.kv Box.av m]]) O O) O (JLm (.fn 132 [.dptr [DM Slot.kv Box.av m]]) O (G5 (b (Gq (⟨[.fn 132 [.dptr [DM Slot.kv Box.av m]]],[],G,O,⟨⟨_,O,.conv (.same O)⟩,G⟩,O,congrArg (fun _:Unit=>(.fn 132 [.dptr [DM Slot.kv Box.av m]]:AV)) (M5 h)⟩)))))))))))))

def R2 (seq:List (Option Int)) (Rp:(List Int)→Prop):Option Prop:=
 J00 (fun(b:Int) (a:(List Int)) c=>
  need (decide ((a.length+[b].length)*8≤140737488355328∧a.length+[b].length≤maxLen)) <|
  c (a++[b]))
 (fun(a:(List Int))=>
  some (Rp a)) (seq.filterMap id) []
def Yf (seq:List (Option Slot)) (Rp:(List Slot)→Prop):Option Prop:=
 J00 (fun(b:Slot) (a:(List Slot)) c=>
  need (decide ((a.length+[b].length)*24≤140737488355328∧a.length+[b].length≤maxLen)) <|
  c (a++[b]))
 (fun(a:(List Slot))=>
  some (Rp a)) (seq.filterMap id) []
theorem G72 (seq:List (Option Slot)) (seq_f:FuncId) (seq_c:List AV) (seq_B:H7 Eo seq_f=true) (seq_d:Qz (fun _=>false) seq_c=true) (seq_w:Gbd Eo seq_f seq_c ([]:List Nat) (Gde (fun a:Slot=>[.agg [I64 a.G2,I64 a.Tier,U8 a.Half]]) seq) (G55 seq)) (Rp:(List Slot)→Prop) (p:Prop) (h:Yf seq Rp=some p) (hp:p):Pure Eo 131 [.sc (.slice none 0 0),.fn seq_f seq_c] (fun av=>∃ r,Rp r∧av=E9 r):=by
 unfold Yf at h
 refine H0 [.tmp 4] Tryz.func131 O O (Jr fun i=>(JLh (.ptr 1178 0) (Jm (cs:=[.sc (.slice none 0 0)]) 1178 O O O O O) O (H8c 1178 0 1180 43 3 O O O (cs':=[OW 1180 3 Slot.av ([]:List Slot)]) O (JLh (E9 ([]:List Slot)) (Hm 3 O O) O (G5 (i (Js fun j=>Jr fun k=>(JLm (.fn seq_f seq_c) O (G5 (k (Gx ?_)))))))))))
 obtain⟨w,l,m,g,h⟩:=H2f h
 refine H27 (ps:=[7]) [(2,.ptr 1178 0),(6,.fn seq_f seq_c)] (fun n (b:(List Slot))=>Gcc w l seq n b) (fun b=>[(1180,.spare 43 3 b.length b.length),(1178,.box 136 [OW 1180 3 Slot.av b])]) [] rfl rfl seq_d seq_B seq_w (Gcc.start h hp) ⟨⟨.same rfl,.same (Jt _ _ seq_d),trivial⟩,⟨⟨_,rfl,.same⟩,fbQ O ⟨.same rfl,trivial⟩,trivial⟩,rfl⟩ rfl (fun k_ us_ k2_ hk_=>by obtain⟨_,_,_,_,rfl,_⟩:=hk_; rfl) (fun p_ hp_=>Nat.blt_eq.mp (by revert p_; decide)) (fun _=>⟨.same rfl,.same (Jt _ _ seq_d),trivial⟩) (fun _=>rfl) ?_ ?_
 ·
  clear h hp
  rintro n us_ k_ b ⟨y,c,o,q,rfl,rfl⟩ d lr_ z x
  obtain⟨o6,h,v,e⟩:=d.step o q
  replace h:=Qa7 m h
  change JC _ _ _ _ [(7,.agg [I64 c.G2,I64 c.Tier,U8 c.Half]),(2,.ptr 1178 0),(6,.fn seq_f seq_c)] [(1180,.spare 43 3 b.length b.length),(1178,.box 136 [OW 1180 3 Slot.av b])]
  refine G1 (JLh (.ptr 1179 0) (Hq 1179 3 Z7 O O) O (Hp (u:=.junk) (Hc (u:=.agg [I64 c.G2,I64 c.Tier,U8 c.Half]) (ds:=[I64 c.G2,I64 c.Tier,U8 c.Half]) Zv O O O O O O O O) (G5 (Qb3 [(2,.ptr 1178 0),(5,.dptr [I64 c.G2,I64 c.Tier,U8 c.Half])] [(1180,.spare 43 3 b.length b.length),(1178,.box 136 [OW 1180 3 Slot.av b])] 1179 rfl rfl rfl ⟨⟨_,rfl,.same⟩,⟨_,rfl,.boxEq rfl rfl⟩,G⟩ rfl (by exact⟨.conv (.same rfl),.ptr,G⟩) (Qb2 (Gx (G1 ?_)))))))
  refine JLh (OW 1180 3 Slot.av b) (Hx Gc0 O O O O) O (JLh (.agg [I64 c.G2,I64 c.Tier,U8 c.Half]) (Gj Hu O O O) O (JLh (E9 [c]) (H9 (xs:=[.agg [I64 c.G2,I64 c.Tier,U8 c.Half]]) O ⟨O,O,G⟩ Rr Z7 O O O O) O ?_))
  obtain⟨s,h⟩:=J8 h
  refine JLh (OW 1180 3 Slot.av (b++[c])) (Qk (f:=Slot.av) (xs:=b) (ys:=[c]) O O O O Rr J6c s (fun _=>O) (.inl O) O) O (Hp (u:=.junk) (Hc (u:=OW 1180 3 Slot.av (b++[c])) (ds:=[OW 1180 3 Slot.av (b++[c])]) Jfe O O O O O O O O) (G5 (x _ _ (b++[c]) (e _ (M5 h).symm) ⟨G,⟨⟨_,O,.same⟩,⟨_,O,.boxL O ⟨.same O,G⟩⟩,G⟩,O⟩)))
 ·
  clear h hp
  intro k_ b hf_ d
  obtain⟨p_,h,hp⟩:=d.done hf_
  replace h:=app1 g h
  refine j (Jr fun t=>(JLh (OW 1180 3 Slot.av b) (Hx Gc0 O O O O) O (JLm (OW 1180 3 Slot.av b) O (G5 (t (Qc (l':=[(4,E9 b)]) (L':=[(1178,.box 136 [E9 b])]) ⟨⟨.list O,G⟩,⟨⟨_,O,.boxL O ⟨.list O,G⟩⟩,G⟩,O⟩ (Gm [(4,E9 b)] [] 1178 rfl rfl rfl G rfl (by exact⟨.conv (.same rfl),G⟩) (Gq (⟨[E9 b],[],G,O,⟨⟨_,O,.conv (.same O)⟩,G⟩,O,b,Eq.mpr (M5 h) hp,O⟩)))))))))
def Rm (seq:List (Option Int)) (Rp:(List Int)→Prop):Option Prop:=
 ndM (R2 seq) fun a=>
 some (Rp a)
def Z2 (seq:List (Option Slot)) (Rp:(List Slot)→Prop):Option Prop:=
 ndM (Yf seq) fun a=>
 some (Rp a)
theorem G9b (seq:List (Option Slot)) (seq_f:FuncId) (seq_c:List AV) (seq_B:H7 Eo seq_f=true) (seq_d:Qz (fun _=>false) seq_c=true) (seq_w:Gbd Eo seq_f seq_c ([]:List Nat) (Gde (fun a:Slot=>[.agg [I64 a.G2,I64 a.Tier,U8 a.Half]]) seq) (G55 seq)) (Rp:(List Slot)→Prop) (p:Prop) (h:Z2 seq Rp=some p) (hp:p):Pure Eo 92 [.fn seq_f seq_c] (fun av=>∃ r,Rp r∧av=E9 r):=by
 unfold Z2 at h
 refine H0 [.tmp 2] Tryz.func92 O O (Jr fun c=>(JLh (E9 ([]:List Slot)) (Hm 3 O O) O (G5 (c (Jr fun d=>(JLm (.fn seq_f seq_c) O (Zu O O O (Rae (args:=[.sc (.slice none 0 0),.fn seq_f seq_c]) (g:=fun r=>E9 r) O (G72 seq seq_f seq_c seq_B seq_d seq_w _ _ h hp) R61 ⟨O,O,O,seq_d,G⟩) ?_)))))))
 rintro u_ L_ ⟨b,⟨e,h,hp⟩,rfl,rfl⟩
 refine JLm (E9 b) O (G5 (d (Gq (⟨[E9 b],[],G,O,⟨⟨_,O,.conv (.same O)⟩,G⟩,O,b,Eq.mpr (M5 h) hp,O⟩))))
theorem Gba (seq:List (Option Int)) (seq_f:FuncId) (seq_c:List AV) (seq_B:H7 Eo seq_f=true) (seq_d:Qz (fun _=>false) seq_c=true) (seq_w:Gbd Eo seq_f seq_c ([]:List Nat) (Gde (fun a:Int=>[I64 a]) seq) (G55 seq)) (Rp:(List Int)→Prop) (p:Prop) (h:R2 seq Rp=some p) (hp:p):Jh Eo 144 [.sc (.slice none 0 0),.fn seq_f seq_c] [] (fun av L'=>∃ p:Nat,∃ r,Rp r∧av=.vec 1186 p 1 r.length∧L'=[(1186,.vec 3 1 p (r.map I64))]):=by
 unfold R2 at h
 refine Q9 [] [.tmp 4] Tryz.func144 O O (G56 O) (Jr fun i=>(JLh (.ptr 1184 0) (Jm (cs:=[.sc (.slice none 0 0)]) 1184 O O O O O) O (Y10 1184 0 1186 3 1 O O O (cs':=[.vec 1186 (([]:List Int).length) 1 (([]:List Int).length)]) O (JLh (.vec 1185 (([]:List Int).length) 1 (([]:List Int).length)) (H49 1185 3 1 O O O) O (G5 (i (Js fun j=>Jr fun k=>(JLm (.fn seq_f seq_c) O (G5 (k (Gx ?_)))))))))))
 obtain⟨w,l,m,g,h⟩:=H2f h
 refine H27 (ps:=[7]) [(2,.ptr 1184 0),(6,.fn seq_f seq_c)] (fun n (b:(List Int))=>Gcc w l seq n b) (fun b=>[(1186,.vec 3 1 b.length (b.map I64)),(1185,.vec 3 1 (([]:List Int).length) (([]:List Int).map I64)),(1184,.box 51 [.vec 1186 b.length 1 b.length])]) [] rfl rfl seq_d seq_B seq_w (Gcc.start h hp) ⟨⟨.same rfl,.same (Jt _ _ seq_d),trivial⟩,⟨⟨_,rfl,.vec⟩,⟨_,rfl,.vec⟩,fbQ O ⟨.same rfl,trivial⟩,trivial⟩,rfl⟩ rfl (fun k_ us_ k2_ hk_=>by obtain⟨_,_,_,_,rfl,_⟩:=hk_; rfl) (fun p_ hp_=>Nat.blt_eq.mp (by revert p_; decide)) (fun _=>⟨.same rfl,.same (Jt _ _ seq_d),trivial⟩) (fun _=>rfl) ?_ ?_
 ·
  clear h hp
  rintro n us_ k_ b ⟨y,c,o,q,rfl,rfl⟩ d lr_ z x
  obtain⟨o6,h,v,e⟩:=d.step o q
  replace h:=Qa7 m h
  change JC _ _ _ _ [(7,I64 c),(2,.ptr 1184 0),(6,.fn seq_f seq_c)] [(1186,.vec 3 1 b.length (b.map I64)),(1185,.vec 3 1 (([]:List Int).length) (([]:List Int).map I64)),(1184,.box 51 [.vec 1186 b.length 1 b.length])]
  refine G1 (JLm (I64 c) O (G5 (Qb2 (Gx (G1 (JLh (.vec 1186 b.length 1 b.length) (Hx Yk O O O O) O (JLm (I64 c) O (JLh (E1 [c]) (H9 (xs:=[I64 c]) O ⟨O,O,G⟩ Gz R6 O O O O) O ?_))))))))
  obtain⟨s,h⟩:=J8 h
  refine JLh (.vec 1186 ((b++[c]).length) 1 ((b++[c]).length)) (G6d (f:=I64) (xs:=b) (ys:=[c]) (ver:=b.length) (ver1:=(b++[c]).length) rfl rfl rfl rfl Gz Zx s (fun _=>rfl) (.inl rfl) (by simp)) O (Hp (u:=.junk) (Hc (u:=.vec 1186 ((b++[c]).length) 1 ((b++[c]).length)) (ds:=[.vec 1186 ((b++[c]).length) 1 ((b++[c]).length)]) Hd3 O O O O O O O O) (G5 (x _ _ (b++[c]) (e _ (M5 h).symm) ⟨G,⟨⟨_,O,.vec⟩,⟨_,O,.vec⟩,⟨_,O,.boxL O ⟨.same O,G⟩⟩,G⟩,O⟩)))
 ·
  clear h hp
  intro k_ b hf_ d
  obtain⟨p_,h,hp⟩:=d.done hf_
  replace h:=app1 g h
  refine j (Jr fun t=>(JLh (.vec 1186 b.length 1 b.length) (Hx Yk O O O O) O (JLm (.vec 1186 b.length 1 b.length) O (G5 (t (G87 4 O O (fun hn_=>Gq (⟨[.vec 1186 b.length 1 b.length],[(1186,.vec 3 1 b.length (b.map I64))],⟨⟨_,O,.vec⟩,G⟩,O,⟨⟨_,O,.conv (.same O)⟩,G⟩,b.length,b,Eq.mpr (M5 h) hp,congrArg (fun n_:Nat=>(.vec 1186 b.length 1 n_:AV)) (hn_.trans (Mj _)),O⟩))))))))
theorem G58 (seq:List (Option Int)) (seq_f:FuncId) (seq_c:List AV) (seq_B:H7 Eo seq_f=true) (seq_d:Qz (fun _=>false) seq_c=true) (seq_w:Gbd Eo seq_f seq_c ([]:List Nat) (Gde (fun a:Int=>[I64 a]) seq) (G55 seq)) (Rp:(List Int)→Prop) (p:Prop) (h:Rm seq Rp=some p) (hp:p):Jh Eo 99 [.fn seq_f seq_c] [] (fun av L'=>∃ p:Nat,∃ r,Rp r∧av=.vec 1186 p 1 r.length∧L'=[(1186,.vec 3 1 p (r.map I64))]):=by
 unfold Rm at h
 refine Q9 [] [.tmp 2] Tryz.func99 O O (G56 O) (Jr fun d=>(JLh (.vec 1153 (([]:List Int).length) 1 (([]:List Int).length)) (H49 1153 3 1 O O O) O (G5 (d (Jr fun e=>(JLm (.fn seq_f seq_c) O (Zu O O O (Jf8 (args:=[.sc (.slice none 0 0),.fn seq_f seq_c]) (u:=fun(p:Nat) (r:List Int)=>.vec 1186 p 1 r.length) (Lr:=fun(p:Nat) (r:List Int)=>[(1186,.vec 3 1 p (r.map I64))]) O (Gba seq seq_f seq_c seq_B seq_d seq_w _ _ h hp) Q02 ⟨.inl O,O,.inl O,(Jt _ _ seq_d),G⟩ (fun _ _=>O)) ?_)))))))
 rintro u_ L_ ⟨b,c,⟨f,h,hp⟩,rfl,rfl⟩
 refine JLm (.vec 1186 b 1 c.length) O (G5 (e (G87 2 O O (fun hn_=>Gq (⟨[.vec 1186 b 1 c.length],[(1186,.vec 3 1 b (c.map I64))],⟨⟨_,O,.vec⟩,G⟩,O,⟨⟨_,O,.conv (.same O)⟩,G⟩,b,c,Eq.mpr (M5 h) hp,congrArg (fun n_:Nat=>(.vec 1186 b 1 n_:AV)) (hn_.trans (Mj _)),O⟩)))))
def Y3 (seq:List (Option Int)) (Rp:(List Int)→Prop):Option Prop:=
 ndM (Rm seq) fun a=>
 bnd (H72 a) fun b=>
 some (Rp b)
theorem J0e (seq:List (Option Int)) (seq_f:FuncId) (seq_c:List AV) (seq_B:H7 Eo seq_f=true) (seq_d:Qz (fun _=>false) seq_c=true) (seq_w:Gbd Eo seq_f seq_c ([]:List Nat) (Gde (fun a:Int=>[I64 a]) seq) (G55 seq)) (Rp:(List Int)→Prop) (p:Prop) (h:Y3 seq Rp=some p) (hp:p):Pure Eo 41 [.fn seq_f seq_c] (fun av=>∃ r,Rp r∧av=E1 r):=by
 unfold Y3 at h
 refine H0 [.tmp 2] Tryz.func41 O O (Jr fun e=>(JLh (E1 ([]:List Int)) (Hm 1 O O) O (G5 (e (Jr fun f=>(JLm (.fn seq_f seq_c) O (Zu O O O (Jf8 (args:=[.fn seq_f seq_c]) (u:=fun(p:Nat) (r:List Int)=>.vec 1186 p 1 r.length) (Lr:=fun(p:Nat) (r:List Int)=>[(1186,.vec 3 1 p (r.map I64))]) O (G58 seq seq_f seq_c seq_B seq_d seq_w _ _ h hp) Q60 ⟨.inl O,(Jt _ _ seq_d),G⟩ (fun _ _=>O)) ?_)))))))
 rintro u_ L_ ⟨c,b,⟨k,h,hp⟩,rfl,rfl⟩
 refine JLm (.vec 1186 c 1 b.length) O (G5 (f (Jr fun g=>(JLm (.vec 1186 c 1 b.length) O ?_))))
 obtain⟨d,i,h⟩:=Ga h
 refine JLh (.tup []) (Y48 (F:=100) (xs:=b) (r:=d) O J9d J5f Q0c O O O i O) O (G5 (g (Jr fun j=>(JLm (.vec 1186 c 1 b.length) O (JLm (.vec 1186 c 1 b.length) O (G5 (j (Qc7 [(2,E1 d)] [] 1186 rfl rfl G rfl (by exact⟨.vec,G⟩) (Gq (⟨[E1 d],[],G,O,⟨⟨_,O,.conv (.same O)⟩,G⟩,O,d,Eq.mpr (M5 h) hp,O⟩))))))))))
theorem J0f (S_:(List (Option Int))→Option (List Int)) (hS_:∀ seq r,S_ seq=some r→∃ p:Prop,Y3 seq (fun r_=>r_=r)=some p∧p) (seq:List (Option Int)) (seq_f:FuncId) (seq_c:List AV) (seq_B:H7 Eo seq_f=true) (seq_d:Qz (fun _=>false) seq_c=true) (seq_w:Gbd Eo seq_f seq_c ([]:List Nat) (Gde (fun a:Int=>[I64 a]) seq) (G55 seq)) (r:(List Int)) (h:S_ seq=some r):Pure Eo 41 [.fn seq_f seq_c] (·=E1 r):=by
 obtain⟨p,b,c⟩:=hS_ seq r h
 exact(J0e seq seq_f seq_c seq_B seq_d seq_w _ p b c).monoP (fun av hh=>by obtain⟨r_,rfl,ha⟩:=hh; exact ha)


theorem Hf8 (seq:List (Option Int)) (seq_f:FuncId) (seq_c:List AV) (seq_B:H7 Eo seq_f=true) (seq_d:Qz (fun _=>false) seq_c=true) (seq_w:Gbd Eo seq_f seq_c ([]:List Nat) (Gde (fun a:Int=>[I64 a]) seq) (G55 seq)) (Rp:(List Int)→Prop) (p:Prop) (h:Y3 seq Rp=some p) (hp:p):Jh Eo 41 [.fn seq_f seq_c] [] (fun av L'=>∃ p:Nat,∃ r,Rp r∧av=.vec 1186 p 1 r.length∧L'=[(1186,.vec 3 1 p (r.map I64))]):=by
 unfold Y3 at h
 refine Q9 [] [.tmp 2] Tryz.func41 O O (G56 O) (Jr fun e=>(JLh (.vec 1087 (([]:List Int).length) 1 (([]:List Int).length)) (H49 1087 3 1 O O O) O (G5 (e (Jr fun f=>(JLm (.fn seq_f seq_c) O (Zu O O O (Jf8 (args:=[.fn seq_f seq_c]) (u:=fun(p:Nat) (r:List Int)=>.vec 1186 p 1 r.length) (Lr:=fun(p:Nat) (r:List Int)=>[(1186,.vec 3 1 p (r.map I64))]) O (G58 seq seq_f seq_c seq_B seq_d seq_w _ _ h hp) Q60 ⟨.inl O,(Jt _ _ seq_d),G⟩ (fun _ _=>O)) ?_)))))))
 rintro u_ L_ ⟨b,c,⟨k,h,hp⟩,rfl,rfl⟩
 refine JLm (.vec 1186 b 1 c.length) O (G5 (f (Jr fun g=>(JLm (.vec 1186 b 1 c.length) O ?_))))
 obtain⟨d,i,h⟩:=Ga h
 refine JLh (.tup []) (Y48 (F:=100) (xs:=c) (r:=d) O J9d J5f Q0c O O O i O) O (G5 (g (Jr fun j=>(JLm (.vec 1186 b 1 c.length) O (JLm (.vec 1186 b 1 c.length) O (G5 (j (G87 2 O O (fun hn_=>Gq (⟨[.vec 1186 b 1 c.length],[(1186,.vec 3 1 b (d.map I64))],⟨⟨_,O,.vec⟩,G⟩,O,⟨⟨_,O,.conv (.same O)⟩,G⟩,b,d,Eq.mpr (M5 h) hp,congrArg (fun n_:Nat=>(.vec 1186 b 1 n_:AV)) (hn_.trans (Mj _)),O⟩))))))))))
theorem Hf7 (S_:(List (Option Int))→Option (List Int)) (hS_:∀ seq r,S_ seq=some r→∃ p:Prop,Y3 seq (fun r_=>r_=r)=some p∧p) (seq:List (Option Int)) (seq_f:FuncId) (seq_c:List AV) (seq_B:H7 Eo seq_f=true) (seq_d:Qz (fun _=>false) seq_c=true) (seq_w:Gbd Eo seq_f seq_c ([]:List Nat) (Gde (fun a:Int=>[I64 a]) seq) (G55 seq)) (r:(List Int)) (h:S_ seq=some r):Jh Eo 41 [.fn seq_f seq_c] [] (fun av L'=>∃ p:Nat,av=.vec 1186 p 1 r.length∧L'=[(1186,.vec 3 1 p (r.map I64))]):=by
 obtain⟨p,b,c⟩:=hS_ seq r h
 exact(Hf8 seq seq_f seq_c seq_B seq_d seq_w _ p b c).mono (fun av L hh=>by obtain⟨q,r_,rfl,ha,hb⟩:=hh; exact⟨q,ha,hb⟩)
end
end Go.Proofs.YtidpfkmbfgihlaaGreat
