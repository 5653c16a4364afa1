/- Walks of functions. -/
import Derived.Test.YtgcpimpnpcdmmaaGreatSpecS
set_option maxRecDepth 100000
set_option maxHeartbeats 1000000
set_option linter.unusedVariables false
set_option linter.unusedSimpArgs false
namespace Go.Proofs.YtgcpimpnpcdmmaaGreat
open Go.RowKit
noncomputable section

namespace XKF
open XAF
open XCF
open XSF
theorem Ra9:H0 En 124=true:=by kernel_rfl
theorem Q36:H0 En 137=true:=by kernel_rfl
theorem J9e:H0 En 72=true:=by kernel_rfl
theorem Q99:H0 En 94=true:=by kernel_rfl
theorem J9b:Z9 En 57 3 24=true:=by kernel_rfl
theorem H7a:Zb En 91 3 103=true:=by kernel_rfl
theorem G36:R5 En 91=true:=by kernel_rfl
theorem Q31:Y7 En 133 1=true:=by kernel_rfl
theorem Hf8:Y7 En 49 1=true:=by kernel_rfl
end XKF
open XAF
open XCF
open XSF
open XKF


theorem G80 (c:Gv Int Box):Gc9 En 96 [.dptr [DM Ks Box.av c]] ([]:List Nat) (Gf7 (fun a:Int=>[I64 a]) (Gv.keys c)) (G56 (Gv.keys c)):=by
 refine Jf7 Tryz.func96 O O ?_
 intro E hE hnx
 refine Y3 (fun v j=>Qn (Jm (u:=DM Ks Box.av c) hE (Gg G36 O O O) ?_ O O O O))
 refine Jm (u:=.it 1159) hE (Ha3 1159 (kv:=Ks) (av:=Box.av) (m:=c) O O .data O H7a) ?_ O O O O
 refine Rz ?_
 refine j _ _ _ (G83 (Q7c (X:=List Nat) (fun _=>True) (fun d=>[(0,.sc (.func (.yield E.lp) #[] #[])),(5,.it 1159)]) (fun d=>[(1159,.iter (DM Ks Box.av c) c.l.length d)]) (fun d=>d) (fun d=>unseen (c.l.length) d) [] True.intro ⟨(.sm O O),⟨⟨_,O,.iter O⟩,ø⟩,O⟩ O ?_))
 intro d _ w s
 refine Y3 (fun x h=>Qn (Qfe hE O O O (J19 (kv:=Ks) (av:=Box.av) (m:=c) (fun _=>O) O O O .data) ?_))
 intro u_ L_ hn_
 rcases hn_ with ⟨k,f,g,i,rfl,rfl⟩ | ⟨n,rfl,rfl⟩
 ·
  refine Jm (u:=BL true) hE (Gz O O O) ?_ O O O O
  refine Rz ?_
  refine h _ _ _ (Y3 (fun y o=>Qfd O (H49 (o _ _ _ (G83 (Y3 (fun z p=>Qn (Jm (u:=.tup [I64 f.1,.agg (Box.cs f.2)]) hE (Jc1 (kv:=Ks) (av:=Box.av) (m:=c) (q:=k) (seen:=d) (e:=f) (fun _=>O) O O O .data g) ?_ O O O O))))))))
  refine Jm (u:=I64 f.1) hE (Gz O O O) ?_ O O O O
  refine Jm (u:=I64 f.1) hE (G7 O O) ?_ O O O O
  refine Rz ?_
  refine p _ _ _ (Y3 (fun K6 r=>Qn (Jm (u:=.sc (.func (.yield E.lp) #[] #[])) hE (G6 O O) ?_ O O O O)))
  refine Jm (u:=I64 f.1) hE (G6 O O) ?_ O O O O
  refine J79 (us:=[I64 f.1]) hE rfl rfl ⟨rfl,rfl,ø⟩ (by rw [hnx]; exact R68 g i) ?_ rfl rfl rfl
  refine Jm (u:=BL false) hE (Y8 (b:=true) O O) ?_ O O O O
  refine Rz ?_
  refine r _ _ _ (Ha0 O (H49 (s _ _ (d++[k]) True.intro (Gb1 (M5 g).1 i) ⟨(.sm O O),⟨⟨_,O,.iter O⟩,ø⟩,O⟩)))
 ·
  refine Jm (u:=BL false) hE (Gz O O O) ?_ O O O O
  refine Rz ?_
  refine h _ _ _ (Y3 (fun K7 t=>Ha0 O (J78 (Qd0 n))))


theorem Gc8 (c:Gv Int Int):Gc9 En 95 [.dptr [DM Ks I64 c]] ([]:List Nat) (Gf7 (fun a:Int=>[I64 a]) (Gv.keys c)) (G56 (Gv.keys c)):=by
 refine Jf7 Tryz.func95 O O ?_
 intro E hE hnx
 refine Y3 (fun v j=>Qn (Jm (u:=DM Ks I64 c) hE (Gg G6e O O O) ?_ O O O O))
 refine Jm (u:=.it 1158) hE (Ha3 1158 (kv:=Ks) (av:=I64) (m:=c) O O .data O Gf2) ?_ O O O O
 refine Rz ?_
 refine j _ _ _ (G83 (Q7c (X:=List Nat) (fun _=>True) (fun d=>[(0,.sc (.func (.yield E.lp) #[] #[])),(5,.it 1158)]) (fun d=>[(1158,.iter (DM Ks I64 c) c.l.length d)]) (fun d=>d) (fun d=>unseen (c.l.length) d) [] True.intro ⟨(.sm O O),⟨⟨_,O,.iter O⟩,ø⟩,O⟩ O ?_))
 intro d _ w s
 refine Y3 (fun x h=>Qn (Qfe hE O O O (J19 (kv:=Ks) (av:=I64) (m:=c) (fun _=>O) O O O .data) ?_))
 intro u_ L_ hn_
 rcases hn_ with ⟨k,f,g,i,rfl,rfl⟩ | ⟨n,rfl,rfl⟩
 ·
  refine Jm (u:=BL true) hE (Gz O O O) ?_ O O O O
  refine Rz ?_
  refine h _ _ _ (Y3 (fun y o=>Qfd O (H49 (o _ _ _ (G83 (Y3 (fun z p=>Qn (Jm (u:=.tup [I64 f.1,I64 f.2]) hE (Jc1 (kv:=Ks) (av:=I64) (m:=c) (q:=k) (seen:=d) (e:=f) (fun _=>O) O O O .data g) ?_ O O O O))))))))
  refine Jm (u:=I64 f.1) hE (Gz O O O) ?_ O O O O
  refine Jm (u:=I64 f.1) hE (G7 O O) ?_ O O O O
  refine Rz ?_
  refine p _ _ _ (Y3 (fun K6 r=>Qn (Jm (u:=.sc (.func (.yield E.lp) #[] #[])) hE (G6 O O) ?_ O O O O)))
  refine Jm (u:=I64 f.1) hE (G6 O O) ?_ O O O O
  refine J79 (us:=[I64 f.1]) hE rfl rfl ⟨rfl,rfl,ø⟩ (by rw [hnx]; exact R68 g i) ?_ rfl rfl rfl
  refine Jm (u:=BL false) hE (Y8 (b:=true) O O) ?_ O O O O
  refine Rz ?_
  refine r _ _ _ (Ha0 O (H49 (s _ _ (d++[k]) True.intro (Gb1 (M5 g).1 i) ⟨(.sm O O),⟨⟨_,O,.iter O⟩,ø⟩,O⟩)))
 ·
  refine Jm (u:=BL false) hE (Gz O O O) ?_ O O O O
  refine Rz ?_
  refine h _ _ _ (Y3 (fun K7 t=>Ha0 O (J78 (Qd0 n))))


theorem H1b (c:Gv Slot Box):Gc9 En 125 [.dptr [DM Slot.kv Box.av c]] ([]:List Nat) (Gf7 (fun a:Slot=>[.agg [I64 a.G3,I64 a.Tier,U8 a.Half]]) (Gv.keys c)) (G56 (Gv.keys c)):=by
 refine Jf7 Tryz.func125 O O ?_
 intro E hE hnx
 refine Y3 (fun v j=>Qn (Jm (u:=DM Slot.kv Box.av c) hE (Gg Yr O O O) ?_ O O O O))
 refine Jm (u:=.it 1195) hE (Ha3 1195 (kv:=Slot.kv) (av:=Box.av) (m:=c) O O .data O G86) ?_ O O O O
 refine Rz ?_
 refine j _ _ _ (G83 (Q7c (X:=List Nat) (fun _=>True) (fun f=>[(0,.sc (.func (.yield E.lp) #[] #[])),(5,.it 1195)]) (fun f=>[(1195,.iter (DM Slot.kv Box.av c) c.l.length f)]) (fun f=>f) (fun f=>unseen (c.l.length) f) [] True.intro ⟨(.sm O O),⟨⟨_,O,.iter O⟩,ø⟩,O⟩ O ?_))
 intro f _ w s
 refine Y3 (fun x h=>Qn (Qfe hE O O O (J19 (kv:=Slot.kv) (av:=Box.av) (m:=c) (fun _=>O) O O O .data) ?_))
 intro u_ L_ hn_
 rcases hn_ with ⟨k,d,g,i,rfl,rfl⟩ | ⟨n,rfl,rfl⟩
 ·
  refine Jm (u:=BL true) hE (Gz O O O) ?_ O O O O
  refine Rz ?_
  refine h _ _ _ (Y3 (fun y o=>Qfd O (H49 (o _ _ _ (G83 (Y3 (fun z p=>Qn (Jm (u:=.tup [.agg (Slot.cs d.1),.agg (Box.cs d.2)]) hE (Jc1 (kv:=Slot.kv) (av:=Box.av) (m:=c) (q:=k) (seen:=f) (e:=d) (fun _=>O) O O O .data g) ?_ O O O O))))))))
  refine Jm (u:=.agg (Slot.cs d.1)) hE (Gz O O O) ?_ O O O O
  refine Jm (u:=.ptr 1194 0) hE (Hk 1194 3 Rg O O) ?_ O O O O
  refine Y94 (u:=.junk) hE (H7 (u:=.agg (Slot.cs d.1)) (ds:=[I64 d.1.G3,I64 d.1.Tier,U8 d.1.Half]) Yd O O O O O O O O) ?_ O O O
  refine Rz ?_
  refine p _ _ _ (Y3 (fun K6 r=>Qn (Jm (u:=.sc (.func (.yield E.lp) #[] #[])) hE (G6 O O) ?_ O O O O)))
  refine Jm (u:=.agg (Slot.cs d.1)) hE (J1d J2 O O O O) ?_ O O O O
  refine J79 (us:=[.agg (Slot.cs d.1)]) hE rfl rfl ⟨rfl,rfl,ø⟩ (by rw [hnx]; exact R68 g i) ?_ rfl rfl rfl
  refine Jm (u:=BL false) hE (Y8 (b:=true) O O) ?_ O O O O
  refine Rz ?_
  refine r _ _ _ (Ha0 O (H49 (s _ _ (f++[k]) True.intro (Gb1 (M5 g).1 i) ⟨(.sm O O),⟨⟨_,O,.iter O⟩,ø⟩,O⟩)))
 ·
  refine Jm (u:=BL false) hE (Gz O O O) ?_ O O O O
  refine Rz ?_
  refine h _ _ _ (Y3 (fun K7 t=>Ha0 O (J78 (Qd0 n))))

def G4e (m:Gv Int Box):Option Unit:=
 some ()
theorem Gb0 (m:Gv Int Box) (r:Unit) (h:G4e m=some r):Pure En 50 [DM Ks Box.av m] (·=.fn 96 [.dptr [DM Ks Box.av m]]):=by
 unfold G4e at h
 refine Gx [.tmp 2] Tryz.func50 O O (Jr fun a=>(JLh (.ptr 1089 0) (Q4 (cs:=[DM Ks Box.av m]) 1089 O O O O O) O (JLm (.sc .nilFunc) O (G5 (a (Gn [(1,.dptr [DM Ks Box.av m])] [] 1089 rfl rfl rfl ø rfl (by exact⟨.ptr,ø⟩) (Jr fun b=>(JLh (.fn 96 [.dptr [DM Ks Box.av m]]) (Q2 (cs:=[.dptr [DM Ks Box.av m]]) O O) O (JLm (.fn 96 [.dptr [DM Ks Box.av m]]) O (G5 (b (Gs (⟨[.fn 96 [.dptr [DM Ks Box.av m]]],[],ø,O,⟨⟨_,O,.conv (.same O)⟩,ø⟩,O,congrArg (fun _:Unit=>(.fn 96 [.dptr [DM Ks Box.av m]]:AV)) (M7 h)⟩)))))))))))))

def G92 (m:Gv Int Int):Option Unit:=
 some ()
theorem Gff (m:Gv Int Int) (r:Unit) (h:G92 m=some r):Pure En 49 [DM Ks I64 m] (·=.fn 95 [.dptr [DM Ks I64 m]]):=by
 unfold G92 at h
 refine Gx [.tmp 2] Tryz.func49 O O (Jr fun a=>(JLh (.ptr 1088 0) (Q4 (cs:=[DM Ks I64 m]) 1088 O O O O O) O (JLm (.sc .nilFunc) O (G5 (a (Gn [(1,.dptr [DM Ks I64 m])] [] 1088 rfl rfl rfl ø rfl (by exact⟨.ptr,ø⟩) (Jr fun b=>(JLh (.fn 95 [.dptr [DM Ks I64 m]]) (Q2 (cs:=[.dptr [DM Ks I64 m]]) O O) O (JLm (.fn 95 [.dptr [DM Ks I64 m]]) O (G5 (b (Gs (⟨[.fn 95 [.dptr [DM Ks I64 m]]],[],ø,O,⟨⟨_,O,.conv (.same O)⟩,ø⟩,O,congrArg (fun _:Unit=>(.fn 95 [.dptr [DM Ks I64 m]]:AV)) (M7 h)⟩)))))))))))))

def G14 (m:Gv Slot Box):Option Unit:=
 some ()
theorem H38 (m:Gv Slot Box) (r:Unit) (h:G14 m=some r):Pure En 88 [DM Slot.kv Box.av m] (·=.fn 125 [.dptr [DM Slot.kv Box.av m]]):=by
 unfold G14 at h
 refine Gx [.tmp 2] Tryz.func88 O O (Jr fun a=>(JLh (.ptr 1151 0) (Q4 (cs:=[DM Slot.kv Box.av m]) 1151 O O O O O) O (JLm (.sc .nilFunc) O (G5 (a (Gn [(1,.dptr [DM Slot.kv Box.av m])] [] 1151 rfl rfl rfl ø rfl (by exact⟨.ptr,ø⟩) (Jr fun b=>(JLh (.fn 125 [.dptr [DM Slot.kv Box.av m]]) (Q2 (cs:=[.dptr [DM Slot.kv Box.av m]]) O O) O (JLm (.fn 125 [.dptr [DM Slot.kv Box.av m]]) O (G5 (b (Gs (⟨[.fn 125 [.dptr [DM Slot.kv Box.av m]]],[],ø,O,⟨⟨_,O,.conv (.same O)⟩,ø⟩,O,congrArg (fun _:Unit=>(.fn 125 [.dptr [DM Slot.kv Box.av m]]:AV)) (M7 h)⟩)))))))))))))

def Qq (seq:List (Option Int)) (Rp:(List Int)→Prop):Option Prop:=
 J1f (fun(b:Int) (a:(List Int)) c=>
  need (decide ((a.length+[b].length)*8≤140737488355328∧a.length+[b].length≤maxLen)) <|
  c (a++[b]))
 (fun(a:(List Int))=>
  some (Rp a)) (seq.filterMap id) []
def Y2 (seq:List (Option Slot)) (Rp:(List Slot)→Prop):Option Prop:=
 J1f (fun(b:Slot) (a:(List Slot)) c=>
  need (decide ((a.length+[b].length)*24≤140737488355328∧a.length+[b].length≤maxLen)) <|
  c (a++[b]))
 (fun(a:(List Slot))=>
  some (Rp a)) (seq.filterMap id) []
theorem G7b (seq:List (Option Slot)) (seq_f:FuncId) (seq_c:List AV) (seq_B:H0 En seq_f=true) (seq_d:Q9 (fun _=>false) seq_c=true) (seq_w:Gc9 En seq_f seq_c ([]:List Nat) (Gf7 (fun a:Slot=>[.agg [I64 a.G3,I64 a.Tier,U8 a.Half]]) seq) (G56 seq)) (Rp:(List Slot)→Prop) (p:Prop) (h:Y2 seq Rp=some p) (hp:p):Pure En 124 [.sc (.slice none 0 0),.fn seq_f seq_c] (fun av=>∃ r,Rp r∧av=E9 r):=by
 unfold Y2 at h
 refine Gx [.tmp 4] Tryz.func124 O O (Jr fun i=>(JLh (.ptr 1191 0) (Q4 (cs:=[.sc (.slice none 0 0)]) 1191 O O O O O) O (Gf0 1191 0 1193 57 3 O O O (cs':=[OW 1193 3 Slot.av ([]:List Slot)]) O (JLh (E9 ([]:List Slot)) (Jh 3 O O) O (G5 (i (Js fun j=>Jr fun k=>(JLm (.fn seq_f seq_c) O (G5 (k (Gq ?_)))))))))))
 obtain⟨w,l,m,g,h⟩:=H56 h
 refine H4a (ps:=[7]) [(2,.ptr 1191 0),(6,.fn seq_f seq_c)] (fun n (b:(List Slot))=>Gdd w l seq n b) (fun b=>[(1193,.spare 57 3 b.length b.length),(1191,.box 133 [OW 1193 3 Slot.av b])]) [] rfl rfl seq_d seq_B seq_w (Gdd.start h hp) ⟨⟨.same rfl,.same (Hi _ _ seq_d),trivial⟩,⟨⟨_,rfl,.same⟩,fbQ O ⟨.same rfl,trivial⟩,trivial⟩,rfl⟩ rfl (fun k_ us_ k2_ hk_=>by obtain⟨_,_,_,_,rfl,_⟩:=hk_; rfl) (fun p_ hp_=>Nat.blt_eq.mp (by revert p_; decide)) (fun _=>⟨.same rfl,.same (Hi _ _ seq_d),trivial⟩) (fun _=>rfl) ?_ ?_
 ·
  clear h hp
  rintro n us_ k_ b ⟨y,c,o,q,rfl,rfl⟩ d lr_ z x
  obtain⟨o6,h,v,e⟩:=d.step o q
  replace h:=Jb4 m h
  change JC _ _ _ _ [(7,.agg [I64 c.G3,I64 c.Tier,U8 c.Half]),(2,.ptr 1191 0),(6,.fn seq_f seq_c)] [(1193,.spare 57 3 b.length b.length),(1191,.box 133 [OW 1193 3 Slot.av b])]
  refine G2 (JLh (.ptr 1192 0) (Hk 1192 3 Rg O O) O (Ho (u:=.junk) (H7 (u:=.agg [I64 c.G3,I64 c.Tier,U8 c.Half]) (ds:=[I64 c.G3,I64 c.Tier,U8 c.Half]) Yd O O O O O O O O) (G5 (Qee [(2,.ptr 1191 0),(5,.dptr [I64 c.G3,I64 c.Tier,U8 c.Half])] [(1193,.spare 57 3 b.length b.length),(1191,.box 133 [OW 1193 3 Slot.av b])] 1192 rfl rfl rfl ⟨⟨_,rfl,.same⟩,⟨_,rfl,.boxEq rfl rfl⟩,ø⟩ rfl (by exact⟨.conv (.same rfl),.ptr,ø⟩) (R7e (Gq (G2 ?_)))))))
  refine JLh (OW 1193 3 Slot.av b) (J1 Gce O O O O) O (JLh (.agg [I64 c.G3,I64 c.Tier,U8 c.Half]) (Gk J2 O O O) O (JLh (E9 [c]) (He (xs:=[.agg [I64 c.G3,I64 c.Tier,U8 c.Half]]) O ⟨O,O,ø⟩ Y9 Rg O O O O) O ?_))
  obtain⟨s,h⟩:=Ji h
  refine JLh (OW 1193 3 Slot.av (b++[c])) (Yb (f:=Slot.av) (xs:=b) (ys:=[c]) O O O O Y9 J9b s (fun _=>O) (.inl O) O) O (Ho (u:=.junk) (H7 (u:=OW 1193 3 Slot.av (b++[c])) (ds:=[OW 1193 3 Slot.av (b++[c])]) Q31 O O O O O O O O) (G5 (x _ _ (b++[c]) (e _ (M7 h).symm) ⟨ø,⟨⟨_,O,.same⟩,⟨_,O,.boxL O ⟨.same O,ø⟩⟩,ø⟩,O⟩)))
 ·
  clear h hp
  intro k_ b hf_ d
  obtain⟨p_,h,hp⟩:=d.done hf_
  replace h:=app1 g h
  refine j (Jr fun t=>(JLh (OW 1193 3 Slot.av b) (J1 Gce O O O O) O (JLm (OW 1193 3 Slot.av b) O (G5 (t (Qs (l':=[(4,E9 b)]) (L':=[(1191,.box 133 [E9 b])]) ⟨⟨.list O,ø⟩,⟨⟨_,O,.boxL O ⟨.list O,ø⟩⟩,ø⟩,O⟩ (Gn [(4,E9 b)] [] 1191 rfl rfl rfl ø rfl (by exact⟨.conv (.same rfl),ø⟩) (Gs (⟨[E9 b],[],ø,O,⟨⟨_,O,.conv (.same O)⟩,ø⟩,O,b,Eq.mpr (M7 h) hp,O⟩)))))))))
def R3 (seq:List (Option Int)) (Rp:(List Int)→Prop):Option Prop:=
 ndM (Qq seq) fun a=>
 some (Rp a)
def Yn (seq:List (Option Slot)) (Rp:(List Slot)→Prop):Option Prop:=
 ndM (Y2 seq) fun a=>
 some (Rp a)
theorem Ga6 (seq:List (Option Slot)) (seq_f:FuncId) (seq_c:List AV) (seq_B:H0 En seq_f=true) (seq_d:Q9 (fun _=>false) seq_c=true) (seq_w:Gc9 En seq_f seq_c ([]:List Nat) (Gf7 (fun a:Slot=>[.agg [I64 a.G3,I64 a.Tier,U8 a.Half]]) seq) (G56 seq)) (Rp:(List Slot)→Prop) (p:Prop) (h:Yn seq Rp=some p) (hp:p):Pure En 87 [.fn seq_f seq_c] (fun av=>∃ r,Rp r∧av=E9 r):=by
 unfold Yn at h
 refine Gx [.tmp 2] Tryz.func87 O O (Jr fun c=>(JLh (E9 ([]:List Slot)) (Jh 3 O O) O (G5 (c (Jr fun d=>(JLm (.fn seq_f seq_c) O (Yf O O O (Rf9 (args:=[.sc (.slice none 0 0),.fn seq_f seq_c]) (g:=fun r=>E9 r) O (G7b seq seq_f seq_c seq_B seq_d seq_w _ _ h hp) Ra9 ⟨O,O,O,seq_d,ø⟩) ?_)))))))
 rintro u_ L_ ⟨b,⟨e,h,hp⟩,rfl,rfl⟩
 refine JLm (E9 b) O (G5 (d (Gs (⟨[E9 b],[],ø,O,⟨⟨_,O,.conv (.same O)⟩,ø⟩,O,b,Eq.mpr (M7 h) hp,O⟩))))
theorem Gc7 (seq:List (Option Int)) (seq_f:FuncId) (seq_c:List AV) (seq_B:H0 En seq_f=true) (seq_d:Q9 (fun _=>false) seq_c=true) (seq_w:Gc9 En seq_f seq_c ([]:List Nat) (Gf7 (fun a:Int=>[I64 a]) seq) (G56 seq)) (Rp:(List Int)→Prop) (p:Prop) (h:Qq seq Rp=some p) (hp:p):J5 En 137 [.sc (.slice none 0 0),.fn seq_f seq_c] [] (fun av L'=>∃ p:Nat,∃ r,Rp r∧av=.vec 1199 p 1 r.length∧L'=[(1199,.vec 3 1 p (r.map I64))]):=by
 unfold Qq at h
 refine Jk [] [.tmp 4] Tryz.func137 O O (G18 O) (Jr fun i=>(JLh (.ptr 1197 0) (Q4 (cs:=[.sc (.slice none 0 0)]) 1197 O O O O O) O (Qfb 1197 0 1199 3 1 O O O (cs':=[.vec 1199 (([]:List Int).length) 1 (([]:List Int).length)]) O (JLh (.vec 1198 (([]:List Int).length) 1 (([]:List Int).length)) (G93 1198 3 1 O O O) O (G5 (i (Js fun j=>Jr fun k=>(JLm (.fn seq_f seq_c) O (G5 (k (Gq ?_)))))))))))
 obtain⟨w,l,m,g,h⟩:=H56 h
 refine H4a (ps:=[7]) [(2,.ptr 1197 0),(6,.fn seq_f seq_c)] (fun n (b:(List Int))=>Gdd w l seq n b) (fun b=>[(1199,.vec 3 1 b.length (b.map I64)),(1198,.vec 3 1 (([]:List Int).length) (([]:List Int).map I64)),(1197,.box 49 [.vec 1199 b.length 1 b.length])]) [] rfl rfl seq_d seq_B seq_w (Gdd.start h hp) ⟨⟨.same rfl,.same (Hi _ _ seq_d),trivial⟩,⟨⟨_,rfl,.vec⟩,⟨_,rfl,.vec⟩,fbQ O ⟨.same rfl,trivial⟩,trivial⟩,rfl⟩ rfl (fun k_ us_ k2_ hk_=>by obtain⟨_,_,_,_,rfl,_⟩:=hk_; rfl) (fun p_ hp_=>Nat.blt_eq.mp (by revert p_; decide)) (fun _=>⟨.same rfl,.same (Hi _ _ seq_d),trivial⟩) (fun _=>rfl) ?_ ?_
 ·
  clear h hp
  rintro n us_ k_ b ⟨y,c,o,q,rfl,rfl⟩ d lr_ z x
  obtain⟨o6,h,v,e⟩:=d.step o q
  replace h:=Jb4 m h
  change JC _ _ _ _ [(7,I64 c),(2,.ptr 1197 0),(6,.fn seq_f seq_c)] [(1199,.vec 3 1 b.length (b.map I64)),(1198,.vec 3 1 (([]:List Int).length) (([]:List Int).map I64)),(1197,.box 49 [.vec 1199 b.length 1 b.length])]
  refine G2 (JLm (I64 c) O (G5 (R7e (Gq (G2 (JLh (.vec 1199 b.length 1 b.length) (J1 Rn O O O O) O (JLm (I64 c) O (JLh (E2 [c]) (He (xs:=[I64 c]) O ⟨O,O,ø⟩ H1 Y0 O O O O) O ?_))))))))
  obtain⟨s,h⟩:=Ji h
  refine JLh (.vec 1199 ((b++[c]).length) 1 ((b++[c]).length)) (G4f (f:=I64) (xs:=b) (ys:=[c]) (ver:=b.length) (ver1:=(b++[c]).length) rfl rfl rfl rfl H1 G89 s (fun _=>rfl) (.inl rfl) (by simp)) O (Ho (u:=.junk) (H7 (u:=.vec 1199 ((b++[c]).length) 1 ((b++[c]).length)) (ds:=[.vec 1199 ((b++[c]).length) 1 ((b++[c]).length)]) Hf8 O O O O O O O O) (G5 (x _ _ (b++[c]) (e _ (M7 h).symm) ⟨ø,⟨⟨_,O,.vec⟩,⟨_,O,.vec⟩,⟨_,O,.boxL O ⟨.same O,ø⟩⟩,ø⟩,O⟩)))
 ·
  clear h hp
  intro k_ b hf_ d
  obtain⟨p_,h,hp⟩:=d.done hf_
  replace h:=app1 g h
  refine j (Jr fun t=>(JLh (.vec 1199 b.length 1 b.length) (J1 Rn O O O O) O (JLm (.vec 1199 b.length 1 b.length) O (G5 (t (G52 4 O O (fun hn_=>Gs (⟨[.vec 1199 b.length 1 b.length],[(1199,.vec 3 1 b.length (b.map I64))],⟨⟨_,O,.vec⟩,ø⟩,O,⟨⟨_,O,.conv (.same O)⟩,ø⟩,b.length,b,Eq.mpr (M7 h) hp,congrArg (fun n_:Nat=>(.vec 1199 b.length 1 n_:AV)) (hn_.trans (Mm _)),O⟩))))))))
theorem G5b (seq:List (Option Int)) (seq_f:FuncId) (seq_c:List AV) (seq_B:H0 En seq_f=true) (seq_d:Q9 (fun _=>false) seq_c=true) (seq_w:Gc9 En seq_f seq_c ([]:List Nat) (Gf7 (fun a:Int=>[I64 a]) seq) (G56 seq)) (Rp:(List Int)→Prop) (p:Prop) (h:R3 seq Rp=some p) (hp:p):J5 En 94 [.fn seq_f seq_c] [] (fun av L'=>∃ p:Nat,∃ r,Rp r∧av=.vec 1199 p 1 r.length∧L'=[(1199,.vec 3 1 p (r.map I64))]):=by
 unfold R3 at h
 refine Jk [] [.tmp 2] Tryz.func94 O O (G18 O) (Jr fun d=>(JLh (.vec 1157 (([]:List Int).length) 1 (([]:List Int).length)) (G93 1157 3 1 O O O) O (G5 (d (Jr fun e=>(JLm (.fn seq_f seq_c) O (Yf O O O (Q2b (args:=[.sc (.slice none 0 0),.fn seq_f seq_c]) (u:=fun(p:Nat) (r:List Int)=>.vec 1199 p 1 r.length) (Lr:=fun(p:Nat) (r:List Int)=>[(1199,.vec 3 1 p (r.map I64))]) O (Gc7 seq seq_f seq_c seq_B seq_d seq_w _ _ h hp) Q36 ⟨.inl O,O,.inl O,(Hi _ _ seq_d),ø⟩ (fun _ _=>O)) ?_)))))))
 rintro u_ L_ ⟨b,c,⟨f,h,hp⟩,rfl,rfl⟩
 refine JLm (.vec 1199 b 1 c.length) O (G5 (e (G52 2 O O (fun hn_=>Gs (⟨[.vec 1199 b 1 c.length],[(1199,.vec 3 1 b (c.map I64))],⟨⟨_,O,.vec⟩,ø⟩,O,⟨⟨_,O,.conv (.same O)⟩,ø⟩,b,c,Eq.mpr (M7 h) hp,congrArg (fun n_:Nat=>(.vec 1199 b 1 n_:AV)) (hn_.trans (Mm _)),O⟩)))))
def Ri (seq:List (Option Int)) (Rp:(List Int)→Prop):Option Prop:=
 ndM (R3 seq) fun a=>
 bnd (G9b a) fun b=>
 some (Rp b)
theorem J15 (seq:List (Option Int)) (seq_f:FuncId) (seq_c:List AV) (seq_B:H0 En seq_f=true) (seq_d:Q9 (fun _=>false) seq_c=true) (seq_w:Gc9 En seq_f seq_c ([]:List Nat) (Gf7 (fun a:Int=>[I64 a]) seq) (G56 seq)) (Rp:(List Int)→Prop) (p:Prop) (h:Ri seq Rp=some p) (hp:p):J5 En 48 [.fn seq_f seq_c] [] (fun av L'=>∃ p:Nat,∃ r,Rp r∧av=.vec 1199 p 1 r.length∧L'=[(1199,.vec 3 1 p (r.map I64))]):=by
 unfold Ri at h
 refine Jk [] [.tmp 2] Tryz.func48 O O (G18 O) (Jr fun e=>(JLh (.vec 1087 (([]:List Int).length) 1 (([]:List Int).length)) (G93 1087 3 1 O O O) O (G5 (e (Jr fun f=>(JLm (.fn seq_f seq_c) O (Yf O O O (Q2b (args:=[.fn seq_f seq_c]) (u:=fun(p:Nat) (r:List Int)=>.vec 1199 p 1 r.length) (Lr:=fun(p:Nat) (r:List Int)=>[(1199,.vec 3 1 p (r.map I64))]) O (G5b seq seq_f seq_c seq_B seq_d seq_w _ _ h hp) Q99 ⟨.inl O,(Hi _ _ seq_d),ø⟩ (fun _ _=>O)) ?_)))))))
 rintro u_ L_ ⟨b,c,⟨k,h,hp⟩,rfl,rfl⟩
 refine JLm (.vec 1199 b 1 c.length) O (G5 (f (Jr fun g=>(JLm (.vec 1199 b 1 c.length) O ?_))))
 obtain⟨d,i,h⟩:=Ge h
 refine JLh (.tup []) (R86 (F:=72) (xs:=c) (r:=d) O J40 J04 J9e O O O i O) O (G5 (g (Jr fun j=>(JLm (.vec 1199 b 1 c.length) O (JLm (.vec 1199 b 1 c.length) O (G5 (j (G52 2 O O (fun hn_=>Gs (⟨[.vec 1199 b 1 c.length],[(1199,.vec 3 1 b (d.map I64))],⟨⟨_,O,.vec⟩,ø⟩,O,⟨⟨_,O,.conv (.same O)⟩,ø⟩,b,d,Eq.mpr (M7 h) hp,congrArg (fun n_:Nat=>(.vec 1199 b 1 n_:AV)) (hn_.trans (Mm _)),O⟩))))))))))
theorem J14 (S_:(List (Option Int))→Option (List Int)) (hS_:∀ seq r,S_ seq=some r→∃ p:Prop,Ri seq (fun r_=>r_=r)=some p∧p) (seq:List (Option Int)) (seq_f:FuncId) (seq_c:List AV) (seq_B:H0 En seq_f=true) (seq_d:Q9 (fun _=>false) seq_c=true) (seq_w:Gc9 En seq_f seq_c ([]:List Nat) (Gf7 (fun a:Int=>[I64 a]) seq) (G56 seq)) (r:(List Int)) (h:S_ seq=some r):J5 En 48 [.fn seq_f seq_c] [] (fun av L'=>∃ p:Nat,av=.vec 1199 p 1 r.length∧L'=[(1199,.vec 3 1 p (r.map I64))]):=by
 obtain⟨p,b,c⟩:=hS_ seq r h
 exact(J15 seq seq_f seq_c seq_B seq_d seq_w _ p b c).mono (fun av L hh=>by obtain⟨q,r_,rfl,ha,hb⟩:=hh; exact⟨q,ha,hb⟩)
end
end Go.Proofs.YtgcpimpnpcdmmaaGreat
