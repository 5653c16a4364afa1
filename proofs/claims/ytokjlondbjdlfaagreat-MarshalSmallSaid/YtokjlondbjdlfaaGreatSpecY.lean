/- Yards in memory of their own: -/
import Derived.Test.YtokjlondbjdlfaaGreatPin
import Derived.Test.YtokjlondbjdlfaaGreatXA
set_option maxRecDepth 100000
set_option maxHeartbeats 1000000
set_option linter.unusedVariables false
set_option linter.unusedSimpArgs false
namespace Go.Proofs.YtokjlondbjdlfaaGreat
open Go.RowKit

def outs (b H:Nat) (ss:List (List Int)):List AV:=ss.mapIdx fun i s=>SL b (i*H) s.length H
theorem G3b {b H:Nat} {ss:List (List Int)}:(outs b H ss).length=ss.length:=by simp [outs]
theorem Q99 {b H:Nat} {ss:List (List Int)} {s:List Int}:outs b H (ss++[s])=outs b H ss++[SL b (ss.length*H) s.length H]:=by simp [outs,List.mapIdx_append]
theorem H35 {b H i:Nat} {ss:List (List Int)} {s:List Int} (h:ss[i]? = some s):(outs b H ss)[i]? = some (SL b (i*H) s.length H):=by simp [outs,h]
theorem Jcb {b H j:Nat} {ss:List (List Int)} {s:List Int}:outs b H (ss.set j s)=(outs b H ss).set j (SL b (j*H) s.length H):=by
 apply List.ext_getElem?
 intro i
 simp only [outs,List.getElem?_mapIdx,List.getElem?_set,List.length_mapIdx]
 by_cases e:j=i
 ·subst e
  by_cases h:j < ss.length <;> simp [h]
 ·simp [e]
theorem Hcd {b H:Nat} {ss:List (List Int)} {y:AV} (h:y∈outs b H ss):y.cells=[y]∧y.isCell=true:=by
 simp only [outs,List.mem_mapIdx] at h
 obtain⟨i,hi,rfl⟩:=h
 exact⟨rfl,rfl⟩
structure Seg (N H:Nat) (ss:List (List Int)) (vals:List Int):Prop where
 len:vals.length=N*H
 num:ss.length≤N
 low:∀ s∈ss,s.length≤H
 at_:∀ (i k:Nat) s v,ss[i]? = some s→s[k]? = some v→vals[i*H+k]? = some v
theorem seg_lt {i j H k N:Nat} (h:i < j) (hk:k < H):i*H+k < j*H:=by
 have:(i+1)*H≤j*H:=Nat.mul_le_mul_right _ h
 rw [Nat.add_mul] at this; omega
theorem Q63 {vals ws:List Int} {off:Nat} (h:off+ws.length≤vals.length) (j:Nat):(vals.take off++ws++vals.drop (off+ws.length))[j]? = if j < off then vals[j]? else if j < off+ws.length then ws[j - off]? else vals[j]? := by
 split
 ·rw [List.append_assoc,Kd (by simp; omega),Kg,if_pos (by omega)]
 ·split
  ·rw [Kd (by simp; omega),Kc (by simp; omega)]
   simp only [List.length_take]; rw [Nat.min_eq_left (by omega)]
  ·rw [Kc (by simp; omega)]
   simp only [Ki,List.length_take,Kh]
   rw [Nat.min_eq_left (by omega)]; congr 1; omega
theorem Jca {vals ws:List Int} {off:Nat} (h:off+ws.length≤vals.length):(vals.take off++ws++vals.drop (off+ws.length)).length=vals.length:=by simp; omega
theorem Seg.fit {N H:Nat} {ss:List (List Int)} {vals:List Int} (h:Seg N H ss vals) {i:Nat} (hi:i < N):i*H+H≤vals.length:=by
 rw [h.len]
 have:(i+1)*H≤N*H:=Nat.mul_le_mul_right _ hi
 rw [Nat.add_mul] at this; omega
theorem Seg.snoc {N H:Nat} {ss:List (List Int)} {vals:List Int} (h:Seg N H ss vals) (hn:ss.length < N) {s:List Int} (hs:s.length≤H) :
  Seg N H (ss++[s]) (vals.take (ss.length*H)++s++vals.drop (ss.length*H+s.length)):=by
 have hf:=h.fit hn
 have ho:ss.length*H+s.length≤vals.length:=by omega
 refine⟨(Jca ho).trans h.len,by simp; omega,fun z hz=>?_,fun i k z v hz hv=>?_⟩
 ·rcases Ko.1 hz with hz | hz
  ·exact h.low z hz
  ·simp at hz; subst hz; exact hs
 ·have hk:k < z.length:=(Ex hv).1
  rw [Q63 ho]
  rcases Ep i ss.length with hi | hi
  ·rw [Kd hi] at hz
   have h0:=h.low z (K0 hz)
   rw [if_pos (seg_lt (N:=N) hi (by omega))]
   exact h.at_ i k z v hz hv
  ·rw [Kc hi] at hz
   have he:i=ss.length:=by
    have:=(Ex hz).1
    simp at this; omega
   subst he
   simp at hz; subst hz
   rw [if_neg (by omega),if_pos (by omega),show ss.length*H+k - ss.length*H=k by omega]
   exact hv
theorem Seg.push {N H:Nat} {ss:List (List Int)} {vals:List Int} (h:Seg N H ss vals) {j:Nat} {s:List Int} (hj:ss[j]? = some s) (hl:s.length < H) (v:Int) :
  Seg N H (ss.set j (s++[v])) (vals.take (j*H+s.length)++[v]++vals.drop (j*H+s.length+[v].length)):=by
 have h0:j < ss.length:=(Ex hj).1
 have hf:=h.fit (i:=j) (by have:=h.num; omega)
 have ho:j*H+s.length+[v].length≤vals.length:=by simp; omega
 refine⟨(Jca ho).trans h.len,by rw [List.length_set]; exact h.num,fun z hz=>?_,fun i k z u hz hu=>?_⟩
 ·rcases List.mem_or_eq_of_mem_set hz with hz | rfl
  ·exact h.low z hz
  ·simp; omega
 ·have hk:k < z.length:=(Ex hu).1
  rw [Q63 ho]
  rw [List.getElem?_set] at hz
  by_cases e:j=i
  ·subst e
   rw [if_pos rfl,if_pos h0] at hz
   cases hz
   rcases Ep k s.length with h1 | h1
   ·rw [if_pos (by omega)]
    rw [Kd h1] at hu
    exact h.at_ j k s u hj hu
   ·have h2:k=s.length:=by simp at hk; omega
    subst h2
    rw [if_neg (by omega),if_pos (by simp),show j*H+s.length - (j*H+s.length)=0 by omega]
    simpa using hu
  ·rw [if_neg e] at hz
   have h3:=h.low z (K0 hz)
   have key:=h.at_ i k z u hz hu
   rcases Ep i j with h1 | h1
   ·have:=seg_lt (N:=N) (k:=k) h1 (by omega:k < H)
    rw [if_pos (by omega)]; exact key
   ·have:=seg_lt (N:=N) (k:=s.length) (show j < i by omega) hl
    rw [if_neg (by omega),if_neg (by simp; omega)]; exact key
theorem Seg.pop {N H:Nat} {ss:List (List Int)} {vals:List Int} (h:Seg N H ss vals) {j:Nat} {s:List Int} (hj:ss[j]? = some s) (m:Nat):Seg N H (ss.set j (s.take m)) vals:=by
 refine⟨h.len,by rw [List.length_set]; exact h.num,fun z hz=>?_,fun i k z u hz hu=>?_⟩
 ·rcases List.mem_or_eq_of_mem_set hz with hz | rfl
  ·exact h.low z hz
  ·have:=h.low s (K0 hj); simp; omega
 ·rw [List.getElem?_set] at hz
  by_cases e:j=i
  ·subst e
   have h0:j < ss.length:=(Ex hj).1
   rw [if_pos rfl,if_pos h0] at hz
   cases hz
   rw [Kg] at hu
   split at hu
   ·exact h.at_ j k s u hj hu
   ·cases hu
  ·rw [if_neg e] at hz
   exact h.at_ i k z u hz hu
theorem J2c (l:List Int):flat (l.map I64)=l.map I64:=by
 induction l with
 | nil=>rfl
 | cons y r ih=>show I64 y::flat (r.map I64)=_; rw [ih]; rfl
theorem Jy.yfree {N:Cfg} {w0 w:World} {β0 β:Gx} {L0 L L':Loc} {a:Act} {l l':Fr} (hs:Jy N w0 β0 L0 a w β l L) {VI PI p b n H t ti:Nat} {ss:List (List Int)} {vals:List Int} (hP:lk L PI=some (.pin ti b (vals.map I64)))
  (hf:Fits N.base l L l' L') (h6:lk L' VI=some (.vec t 1 p (outs b H ss))) (a0:lk L' PI=none) (h7:Seg n H ss vals) (hH:H≤maxLen):∃ β',Jy N w0 β0 L0 a w β' l' ((VI,.vec t 1 p (ss.map (LS 1 I64)))::L'):=by
 have h0:=hs.fits hf
 obtain⟨hb,vs,g1,g2,g3⟩:=H86 hs.sat hP
 have a1:(lk L' VI).isSome=true:=by rw [h6]; rfl
 have stab:∀ j,J5 w β L' b j:=fun j=>⟨(Ej g1).1,fun hh=>hs.sat.apart PI b j (by rw [hP]; rfl) hb hh,fun id o ho hid=>by
  have h2:=hf.drop.some (id:=id) (by rw [ho]; rfl)
  have:=hs.sat.inj id PI b h2 (by rw [hP]; rfl) hid hb
  subst this
  rw [a0] at ho; cases ho⟩
 obtain⟨st,sat⟩:=Q4 (w':=w) (t:=t) (k:=1) (ver1:=p) (xs':=ss.map (LS 1 I64)) (ob':=β.at_ VI) h0.sat (.inr ⟨p,outs b H ss,h6,Kb,fun _=>⟨by rw [Kn,G3b],rfl,fun _ _=>rfl⟩⟩) rfl rfl ⟨rfl,Kb⟩ (Kb) (fun _ _ _=>rfl) (.inr (.inl ⟨a1,rfl⟩))
 obtain⟨o1,o2⟩:=h0.sat.obj VI _ h6
 refine⟨_,sat ⟨fun y hy=>?_,?_⟩,h0.step.trans st,h0.frame.step st,h0.size,h0.base,h0.defers.step st⟩
 ·obtain⟨z,_,rfl⟩:=Kp.1 hy; rfl
 ·rcases o2 with ⟨o2,o3⟩ | ⟨bv,o2,us,o3,o4,o5⟩
  ·refine .inl ⟨o2,?_⟩
   have:=congrArg List.length o3
   rw [G3b] at this
   rw [Em this]; rfl
  ·refine .inr ⟨bv,o2,us,o3,by rw [Kn]; rw [G3b] at o4; exact o4,fun j u v hu hv=>?_⟩
   have a2:∀ l:List (List Int),flat (l.map (LS 1 I64))=l.map (LS 1 I64):=fun l=>by
    induction l with
    | nil=>rfl
    | cons y r ih=>show LS 1 I64 y::flat (r.map (LS 1 I64))=_; rw [ih]; rfl
   have a3:flat (outs b H ss)=outs b H ss:=by
    have:∀ l:List AV,(∀ y∈l,y.cells=[y])→flat l=l:=fun l=>by
     induction l with
     | nil=>intro _; rfl
     | cons y r ih=>intro h; rw [flat,h y (by simp),ih fun z hz=>h z (by simp [hz])]; rfl
    exact this _ fun y hy=>(Hcd hy).1
   rw [a2,Kf,Option.map_eq_some_iff] at hu
   obtain⟨s,h8,rfl⟩:=hu
   have hd:=o5 j _ v (by rw [a3]; exact H35 h8) hv
   cases hd
   have a4:=h7.low s (K0 h8)
   show D w _ (.list 1 (s.map I64)) (.slice (some ⟨b,j*H,none⟩) s.length H)
   rw [show s.length=(s.map I64).length from (Kn _).symm]
   have h5:∀ k,k < s.length→∃ z,s[k]? = some z∧vs[j*H+k]? = some (.int .i64 z):=fun k hk=>by
    have h1:s[k]? = some s[k]:=Ey hk
    have h2:=h7.at_ j k s _ h8 h1
    refine⟨s[k],h1,?_⟩
    have h9:j*H+k < vs.size:=by
     have:=(Ex h2).1
     rw [g2,Kn]; exact this
    have h3:=g3 (j*H+k) (I64 s[k]) vs[j*H+k] (by rw [Kf,h2]; rfl) (by simp [h9])
    have h4:=(V.data (β:=β) (L:=L) h3).inv_sc
    rw [Array.getElem?_eq_getElem h9,h4]
   refine .list (fun k=>vs.getD (j*H+k) undef) (by rw [Kn]; exact a4) hH (fun y hy=>by obtain⟨z,_,rfl⟩:=Kp.1 hy; rfl) (fun k hk=>⟨?_,?_⟩) (fun k u hu=>?_)
   ·exact(st.stab _ _ (stab _)).1
   ·rw [J2c,Kn] at hk
    obtain⟨z,_,hz⟩:=h5 k hk
    have:=(Ej hz).1
    simp [World.cell?,g1,this]
   ·rw [J2c,Kf,Option.map_eq_some_iff] at hu
    obtain⟨z,hz,rfl⟩:=hu
    obtain⟨z',h1,h2⟩:=h5 k (Ex hz).1
    rw [hz] at h1; cases h1
    have h3:vs.getD (j*H+k) undef=.int .i64 z:=by simp [Array.getD_eq_getD_getElem?,h2]
    show D w _ (I64 z) (vs.getD (j*H+k) undef)
    rw [h3]
    exact .sc
theorem Je8 {P:Program} {N:Cfg} {c:Code} {Q:Post} {l:Fr} {L:Loc} (l':Fr) (L':Loc) {VI PI p b n H t ti:Nat} {ss:List (List Int)} {vals:List Int} (hP:lk L PI=some (.pin ti b (vals.map I64)))
  (hf:Fits N.base l L l' L') (h1:lk L' VI=some (.vec t 1 p (outs b H ss))) (h2:lk L' PI=none) (h0:Seg n H ss vals) (hH:H≤maxLen) (hk:JC P N c Q l' ((VI,.vec t 1 p (ss.map (LS 1 I64)))::L')):JC P N c Q l L:=fun n w0 β0 L0 a w β hs=>by
 obtain⟨β',h⟩:=hs.yfree hP hf h1 h2 h0 hH
 exact hk n w0 β0 L0 a w β' h
section ints
variable {P:Program} {o:Oper} {l:Fr} {L:Loc}
theorem R0a {d x:Operand} {T T2 E i b off off0 n cap:Nat} {vals s:List Int} (ho:o.op=.call { callee:=.builtin .copy,args:=#[d,x],argTypes:=#[T,T2] }) (hT:sliceB P T E 1=true) (hd:ev l d=SL b off0 n cap) (hi:lk L i=some (.pin E b (vals.map I64))) (hx:ev l x=LS 1 I64 s)
  (h0:off0=off) (h1:s.length≤n) (h2:off+n≤vals.length):Gn P o l L (Is (I64 (s.length:Int)) ((i,.pin E b ((vals.take off++s++vals.drop (off+s.length)).map I64))::L)):=by
 subst h0
 have h:=R47 (P:=P) (kx:=1) (ys:=s.map I64) ho hT hd hi (by rw [hx]; rfl) (fun y hy=>by obtain⟨z,_,rfl⟩:=Kp.1 hy; rfl) rfl (by rw [Kn]; exact h1) (by rw [Kn]; exact h2)
 rw [J2c,Kn] at h
 simpa only [List.map_append,List.map_take,List.map_drop] using h
theorem Q4e {s x:Operand} {T E i b off n cap m:Nat} {xs:List AV} (ho:o.op=.call { callee:=.builtin .append,args:=#[s,x],argTypes:=#[T,T] }) (hs:ev l s=.vec i m 1 m) (hi:lk L i=some (.vec E 1 m xs)) (hx:ev l x=.list 1 [SL b off n cap])
  (hT:sliceB P T E 1=true) (hE:Qk P E 1 24=true) (hm:xs.length=m) (h0:m≤1000):Gn P o l L (Is (.vec i (m+1) 1 (m+1)) ((i,.vec E 1 (m+1) (xs++[SL b off n cap]))::L)):=by
 have h:=J86 (P:=P) (ver1:=m+1) (kx:=1) (ys:=[SL b off n cap]) ho hs hi (by rw [hx]; rfl) hT hE (by rw [hm]; simp; omega) (by rw [hm]; simp only [maxLen,Kj]; omega) (fun y hy=>by simp at hy; subst hy; rfl) (.inl rfl) (Nat.lt_succ_self _)
 rwa [show (xs++[SL b off n cap]).length=m+1 by rw [Ki,hm]; rfl] at h
theorem J48 {x y:Operand} {T i ver m t b off n cap:Nat} {xs:List AV} (hT:Rw P T 1=true) (ho:o.op=.store T x y) (hu:ev l y=SL b off n cap) (hx:ev l x=.vptr i ver m 0) (hi:lk L i=some (.vec t 1 ver xs)) (hm:m < xs.length) (hc:∀ y∈xs,y.cells=[y]) :
  Gn P o l L (Is .junk ((i,.vec t 1 ver (xs.set m (SL b off n cap)))::L)):=
 J49 (e:=xs[m]) (z:=SL b off n cap) (ds:=[SL b off n cap]) hT ho hu hx hi (Ey hm) rfl rfl (by rw [hc _ (List.getElem_mem hm)]; rfl) rfl rfl rfl
theorem R48 {s x:Operand} {T E i b off n cap:Nat} {vals:List Int} {v:Int} (ho:o.op=.call { callee:=.builtin .append,args:=#[s,x],argTypes:=#[T,T] }) (hs:ev l s=SL b off n cap) (hi:lk L i=some (.pin E b (vals.map I64))) (hx:ev l x=LS 1 I64 [v])
  (hT:sliceB P T E 1=true) (hE:Qk P E 1 8=true) (h0:n+1≤cap) (h1:off+cap≤vals.length) :
  Gn P o l L (Is (SL b off (n+1) cap) ((i,.pin E b ((vals.take (off+n)++[v]++vals.drop (off+n+[v].length)).map I64))::L)):=by
 have h:=R9c (P:=P) (kx:=1) (ys:=[I64 v]) ho hs hi (by rw [hx]; rfl) hT hE (fun y hy=>by simp at hy; subst hy; rfl) rfl (by simp) h0 (by rw [Kn]; omega)
 rw [Nat.mul_one] at h
 simp only [List.map_append,List.map_take,List.map_drop]
 exact h
theorem R09 {x:Operand} {T i t b off:Nat} {vals:List Int} {v:Int} (ho:o.op=.load T x) (hx:ev l x=PT b off) (hT:Qs P T=true) (hi:lk L i=some (.pin t b (vals.map I64))) (h0:vals[off]? = some v):Gn P o l L (Is (I64 v) L):=
 R46 ho hx hT hi (by rw [Kf,h0]; rfl)
end ints
namespace SpecYF
theorem G4b:Ry Tryz.prog 25 0 0=true:=by kernel_rfl
theorem J2f:Ry Tryz.prog 25 1 1=true:=by kernel_rfl
theorem H58:Ry Tryz.prog 35 0 0=true:=by kernel_rfl
theorem H14:Ry Tryz.prog 35 1 1=true:=by kernel_rfl
theorem H82:Qs Tryz.prog 23=true:=by kernel_rfl
theorem scS:Qs Tryz.prog 22=true:=by kernel_rfl
theorem scI:Qs Tryz.prog 3=true:=by kernel_rfl
theorem H64:sliceB Tryz.prog 23 22 1=true:=by kernel_rfl
theorem slS:sliceB Tryz.prog 22 3 1=true:=by kernel_rfl
theorem slM:sliceB Tryz.prog 31 35 2=true:=by kernel_rfl
theorem elS:Qk Tryz.prog 22 1 24=true:=by kernel_rfl
theorem elI:Qk Tryz.prog 3 1 8=true:=by kernel_rfl
theorem szSS:Rw Tryz.prog 23 1=true:=by kernel_rfl
theorem szS:Rw Tryz.prog 22 1=true:=by kernel_rfl
theorem szY:Rw Tryz.prog 25 2=true:=by kernel_rfl
theorem szM:Rw Tryz.prog 35 2=true:=by kernel_rfl
theorem Jaa:Qe Tryz.prog 25 2=true:=by kernel_rfl
theorem zszM:Qe Tryz.prog 35 2=true:=by kernel_rfl
theorem zszS:Qe Tryz.prog 22 1=true:=by kernel_rfl
theorem R6c:Qe Tryz.prog 3 1=true:=by kernel_rfl
theorem H42:Gcb Tryz.prog 25 2=true:=by kernel_rfl
theorem R87:Gcb Tryz.prog 35 2=true:=by kernel_rfl
theorem plY:placesOf Tryz.prog 25=some [(0,1),(1,1)]:=by kernel_rfl
theorem Hde:(Tryz.prog.info? 25).bind (fun i=>i.zero.map Value.cells)=some [.slice none 0 0,.int .i64 0].toArray:=by kernel_rfl
theorem Rc2:(Tryz.prog.info? 3).bind (fun i=>i.zero.map Value.cells)=some [Value.int .i64 0].toArray:=by kernel_rfl
theorem mixed:Tryz.prog.follows .mixedOrders=true:=by kernel_rfl
theorem R5e:Hp Tryz.prog 65=true:=by kernel_rfl
theorem R5c:Hp Tryz.prog 66=true:=by kernel_rfl
theorem R5d:Hp Tryz.prog 64=true:=by kernel_rfl
end SpecYF
open SpecYF
theorem Q9f {n j:Nat} {v:Value} (h:(madeCells [Value.int .i64 0].toArray (n*1))[j]? = some v):v=.int .i64 0:=by
 have hj:=(Ej h).1
 simp [size_madeCells] at hj
 rw [madeCells] at h
 simp [hj] at h
 rw [← h]
 have:j % 1=0:=Nat.mod_one j
 simp [this]
theorem J34 (ss:List (List Int)) (H:Nat) (hH:1≤H) (a4:H≤6) (hn:ss.length≤30) (hs:∀ s∈ss,s.length≤H) :
  Jz Tryz.prog 65 [.agg [LS 1 (LS 1 I64) ss,I64 (H:Int)]] [] (fun av L'=>∃ q:{q:Nat×List Int // Seg ss.length H ss q.2},av=.agg [.vec 6609000001 ss.length 1 ss.length,I64 (H:Int)]∧L'=[(6609000001,.vec 22 1 ss.length (outs q.1.1 H ss)),(6609000002,.pin 3 q.1.1 (q.1.2.map I64))]):=by
 have b4:ss.length*H≤180:=Nat.le_trans (Nat.mul_le_mul hn a4) (by decide)
 refine G0c [] [.cell 2 25] Tryz.func65 rfl rfl (H6f rfl) ?_
 refine G4 (fun K1 a5=>?_)
 refine G1 ?_
 refine G0 (u:=.ptr 6600000001 0) (Qw (u:=.agg [LS 1 (LS 1 I64) ss,I64 (H:Int)]) (cs:=[LS 1 (LS 1 I64) ss,I64 (H:Int)]) 6600000001 rfl rfl rfl rfl rfl) ?_ rfl rfl rfl
 refine G0 (u:=.ptr 6600000002 0) (Ji 6600000002 2 Jaa rfl rfl) ?_ rfl rfl rfl
 refine G6 ?_
 refine a5 _ _ ?_
 refine G4 (fun K2 a6=>?_)
 refine G1 ?_
 refine G0 (u:=.ptr 6600000001 0) (Hs G4b rfl rfl) ?_ rfl rfl rfl
 refine G0 (u:=LS 1 (LS 1 I64) ss) (Ht H82 rfl rfl rfl rfl) ?_ rfl rfl rfl
 refine G0 (u:=I64 (ss.length:Int)) (Re (f:=LS 1 I64) (xs:=ss) H64 rfl rfl) ?_ rfl rfl rfl
 refine G0 (u:=.ptr 6600000001 1) (Hs J2f rfl rfl) ?_ rfl rfl rfl
 refine G0 (u:=I64 (H:Int)) (Ht scI rfl rfl rfl rfl) ?_ rfl rfl rfl
 refine G0 (u:=I64 ((ss.length*H:Nat):Int)) (R0c (by rw [← Int.natCast_mul]; exact G1d (by omega) (by omega)) rfl rfl rfl) ?_ rfl rfl rfl
 refine G7c rfl rfl rfl (R45 6609000002 [Value.int .i64 0] rfl rfl rfl rfl slS elI Rc2 rfl rfl (by simp only [maxLen]; omega) ((List.replicate (ss.length*H) (0:Int)).map I64) (by simp) (fun w S j u v hu hv=>by
  rw [List.map_replicate] at hu
  have h1:=List.eq_of_mem_replicate (K0 hu)
  have h2:=Q9f hv
  subst h1 h2; exact .sc)) ?_
 rintro u_ L_ ⟨b,rfl,rfl⟩
 refine G0 (u:=SL b 0 (ss.length*H) (ss.length*H)) (G5 rfl rfl) ?_ rfl rfl rfl
 refine G6 ?_
 refine a6 _ _ ?_
 refine G4 (fun K3 a7=>?_)
 refine G1 ?_
 refine G0 (u:=.ptr 6600000001 1) (Hs J2f rfl rfl) ?_ rfl rfl rfl
 refine G0 (u:=I64 (H:Int)) (Ht scI rfl rfl rfl rfl) ?_ rfl rfl rfl
 refine G0 (u:=.agg [.sc (.slice none 0 0),I64 (H:Int)]) (Jf (cs:=[.sc (.slice none 0 0),I64 (H:Int)]) [(0,1),(1,1)] [.sc (.slice none 0 0),I64 0] [.slice none 0 0,.int .i64 0] plY Hde ⟨.inl rfl,.inl rfl,trivial⟩ rfl rfl) ?_ rfl rfl rfl
 refine G0 (u:=.ptr 6600000004 0) (Ji 6600000004 2 Jaa rfl rfl) ?_ rfl rfl rfl
 refine Jb (u:=.junk) (Hu (u:=.agg [.sc (.slice none 0 0),I64 (H:Int)]) (ds:=[.sc (.slice none 0 0),I64 (H:Int)]) szY rfl rfl rfl rfl rfl rfl rfl rfl) ?_ rfl rfl
 refine Q48 6600000004 0 6609000001 22 1 rfl rfl rfl (cs':=[.vec 6609000001 0 1 0,I64 (H:Int)]) rfl ?_
 refine G6 ?_
 refine a7 _ _ ?_
 refine G4 (fun K4 a8=>?_)
 refine G4 (fun K5 a9=>?_)
 refine G1 ?_
 refine G0 (u:=.ptr 6600000001 0) (Hs G4b rfl rfl) ?_ rfl rfl rfl
 refine G0 (u:=LS 1 (LS 1 I64) ss) (Ht H82 rfl rfl rfl rfl) ?_ rfl rfl rfl
 refine G0 (u:=I64 (ss.length:Int)) (Re (f:=LS 1 I64) (xs:=ss) H64 rfl rfl) ?_ rfl rfl rfl
 refine G0 (u:=I64 0) (G3 rfl rfl) ?_ rfl rfl rfl
 refine G6 ?_
 refine a9 _ _ ?_
 refine Gf ?_
 refine Hbb (X:=Nat×List Int) (fun q=>q.1≤ss.length∧Seg ss.length H (ss.take q.1) q.2)
  (fun q=>[(1,.ptr 6600000001 0),(2,.ptr 6600000002 0),(3,SL b 0 (ss.length*H) (ss.length*H)),(4,.ptr 6600000004 0),(20,LS 1 (LS 1 I64) ss),(21,I64 (ss.length:Int)),(22,I64 (q.1:Int))])
  (fun q=>[(6600000001,.box 25 [LS 1 (LS 1 I64) ss,I64 (H:Int)]),(6600000002,.box 25 [.junk,.junk]),(6600000004,.box 25 [.vec 6609000001 q.1 1 q.1,I64 (H:Int)]),(6609000001,.vec 22 1 q.1 (outs b H (ss.take q.1))),(6609000002,.pin 3 b (q.2.map I64))])
  (fun q=>ss.length - q.1) (0,List.replicate (ss.length*H) 0) ⟨Nat.zero_le _,by simp,by simp,by simp,by simp⟩
  ⟨⟨.same rfl,.same rfl,.same rfl,.same rfl,.same rfl,.same rfl,.same rfl,trivial⟩,⟨⟨_,rfl,.boxEq rfl rfl⟩,⟨_,rfl,.boxEq rfl rfl⟩,⟨_,rfl,.boxEq rfl rfl⟩,⟨_,rfl,.vec⟩,⟨_,rfl,.pin⟩,trivial⟩,rfl⟩ ?_
 rintro⟨i,vals⟩ ⟨hi,h0⟩ K6 e6
 dsimp only at hi h0 e6 ⊢
 refine G4 (fun K7 b0=>?_)
 refine G1 ?_
 refine G0 (u:=BL (decide ((i:Int) < (ss.length:Int)))) (J2 rfl rfl rfl) ?_ rfl rfl rfl
 refine G6 ?_
 refine b0 _ _ ?_
 refine G4 (fun K8 b1=>?_)
 refine Gi rfl (fun hb=>?_) (fun hb=>?_)
 ·have h3:i < ss.length:=by have:=Es hb; omega
  obtain⟨s,h7⟩:∃ s,ss[i]? = some s:=⟨_,Ey h3⟩
  have b2:=hs s (K0 h7)
  have h4:(ss.take i).length=i:=by rw [List.length_take]; omega
  have b5:i*H+H≤ss.length*H:=by
   have:(i+1)*H≤ss.length*H:=Nat.mul_le_mul_right _ h3
   rw [Nat.add_mul] at this; omega
  have b7:vals.length=ss.length*H:=h0.len
  refine Gk ?_
  refine b1 _ _ ?_
  refine G4 (fun K9 b3=>?_)
  refine Gf ?_
  refine G4 (fun K10 h9=>?_)
  refine G1 ?_
  refine G0 (u:=I64 (i:Int)) (G3 rfl rfl) ?_ rfl rfl rfl
  refine G0 (u:=.dptr [LS 1 I64 s]) (Gz (f:=LS 1 I64) (xs:=ss) (y:=s) rfl rfl rfl H64 h7 rfl) ?_ rfl rfl rfl
  refine G0 (u:=LS 1 I64 s) (Gr scS rfl rfl rfl) ?_ rfl rfl rfl
  refine G0 (u:=I64 (i:Int)) (G5 rfl rfl) ?_ rfl rfl rfl
  refine G0 (u:=LS 1 I64 s) (G5 rfl rfl) ?_ rfl rfl rfl
  refine G6 ?_
  refine h9 _ _ ?_
  refine G4 (fun K11 a0=>?_)
  refine G1 ?_
  refine G0 (u:=I64 (i:Int)) (G3 rfl rfl) ?_ rfl rfl rfl
  refine G0 (u:=.ptr 6600000001 1) (Hs J2f rfl rfl) ?_ rfl rfl rfl
  refine G0 (u:=I64 (H:Int)) (Ht scI rfl rfl rfl rfl) ?_ rfl rfl rfl
  refine G0 (u:=I64 ((i*H:Nat):Int)) (R0c (by rw [← Int.natCast_mul]; exact G1d (by omega) (by omega)) rfl rfl rfl) ?_ rfl rfl rfl
  refine G0 (u:=I64 ((i*H:Nat):Int)) (G5 rfl rfl) ?_ rfl rfl rfl
  refine G6 ?_
  refine a0 _ _ ?_
  refine G4 (fun K12 a1=>?_)
  refine G1 ?_
  refine G0 (u:=SL b 0 (ss.length*H) (ss.length*H)) (G3 rfl rfl) ?_ rfl rfl rfl
  refine G0 (u:=I64 ((i*H:Nat):Int)) (G3 rfl rfl) ?_ rfl rfl rfl
  refine G0 (u:=SL b (0+i*H*1) (ss.length*H - i*H) (ss.length*H - i*H)) (R43 rfl rfl rfl slS rfl (by omega) (Kb) (by omega)) ?_ rfl rfl rfl
  refine G0 (u:=LS 1 I64 s) (G3 rfl rfl) ?_ rfl rfl rfl
  refine G0 (u:=I64 (s.length:Int)) (R0a (i:=6609000002) (E:=3) (b:=b) (off:=i*H) (s:=s) (vals:=vals) (n:=ss.length*H - i*H) (off0:=0+i*H*1) rfl slS rfl rfl rfl (by omega) (by omega) (by omega)) ?_ rfl rfl rfl
  refine G0 (u:=I64 (s.length:Int)) (G5 rfl rfl) ?_ rfl rfl rfl
  refine G6 ?_
  refine a1 _ _ ?_
  have h5:=h0.snoc (by rw [h4]; exact h3) b2
  rw [h4] at h5
  have h6:ss.take i++[s]=ss.take (i+1):=by
   rw [List.take_add_one,h7]; rfl
  rw [h6] at h5
  generalize b8:vals.take (i*H)++s++vals.drop (i*H+s.length)=vals2 at h5 ⊢
  refine R0 (l':=[(1,.ptr 6600000001 0),(2,.ptr 6600000002 0),(3,SL b 0 (ss.length*H) (ss.length*H)),(4,.ptr 6600000004 0),(7,I64 ((i*H:Nat):Int)),(8,I64 (s.length:Int)),(20,LS 1 (LS 1 I64) ss),(21,I64 (ss.length:Int)),(22,I64 (i:Int))]) (L':=[(6600000001,.box 25 [LS 1 (LS 1 I64) ss,I64 (H:Int)]),(6600000002,.box 25 [.junk,.junk]),(6600000004,.box 25 [.vec 6609000001 i 1 i,I64 (H:Int)]),(6609000001,.vec 22 1 i (outs b H (ss.take i))),(6609000002,.pin 3 b (vals2.map I64))]) ⟨⟨.same rfl,.same rfl,.same rfl,.same rfl,.same rfl,.same rfl,.same rfl,.same rfl,.same rfl,trivial⟩,⟨⟨_,rfl,.boxEq rfl rfl⟩,⟨_,rfl,.boxEq rfl rfl⟩,⟨_,rfl,.boxEq rfl rfl⟩,⟨_,rfl,.vec⟩,⟨_,rfl,.pin⟩,trivial⟩,rfl⟩ ?_
  refine Ju [13,15] [0,0,0,0,0,0,0,0,0,0,0,0,0,0,1,0] [0,0,0,0,0,0,0,0,0,0,0,0,0,0,1,0]
   [[(6600000001,.box 25 [LS 1 (LS 1 I64) ss,I64 (H:Int)]),(6600000002,.box 25 [.junk,.junk]),(6600000004,.box 25 [.vec 6609000001 i 1 i,I64 (H:Int)]),(6609000001,.vec 22 1 i (outs b H (ss.take i))),(6609000002,.pin 3 b (vals2.map I64))],
   (6609000001,.vec 22 1 (i+1) (outs b H (ss.take i)++[SL b (i*H) s.length H]))::[(6600000001,.box 25 [LS 1 (LS 1 I64) ss,I64 (H:Int)]),(6600000002,.box 25 [.junk,.junk]),(6600000004,.box 25 [.vec 6609000001 i 1 i,I64 (H:Int)]),(6609000001,.vec 22 1 i (outs b H (ss.take i))),(6609000002,.pin 3 b (vals2.map I64))],
   (6600000004,.box 25 [.vec 6609000001 (i+1) 1 (i+1),I64 (H:Int)])::(6609000001,.vec 22 1 (i+1) (outs b H (ss.take i)++[SL b (i*H) s.length H]))::[(6600000001,.box 25 [LS 1 (LS 1 I64) ss,I64 (H:Int)]),(6600000002,.box 25 [.junk,.junk]),(6600000004,.box 25 [.vec 6609000001 i 1 i,I64 (H:Int)]),(6609000001,.vec 22 1 i (outs b H (ss.take i))),(6609000002,.pin 3 b (vals2.map I64))]] mixed (by kernel_rfl) rfl rfl ?_
  refine Gc (u:=.ptr 6600000004 0) rfl rfl ⟨Ga (Hs G4b rfl rfl) rfl,trivial⟩ ?_ rfl
  refine Gc (u:=.vec 6609000001 i 1 i) rfl rfl ⟨Ga (Ht H82 rfl rfl rfl rfl) rfl,trivial⟩ ?_ rfl
  refine Gc (u:=SL b 0 (ss.length*H) (ss.length*H)) rfl rfl ⟨Ga (G3 rfl rfl) rfl,trivial⟩ ?_ rfl
  refine Gc (u:=I64 ((i*H:Nat):Int)) rfl rfl ⟨Ga (G3 rfl rfl) rfl,trivial⟩ ?_ rfl
  refine Gc (u:=I64 ((i*H:Nat):Int)) rfl rfl ⟨Ga (G3 rfl rfl) rfl,trivial⟩ ?_ rfl
  refine Gc (u:=I64 (s.length:Int)) rfl rfl ⟨Ga (G3 rfl rfl) rfl,trivial⟩ ?_ rfl
  refine Gc (u:=I64 ((i*H+s.length:Nat):Int)) rfl rfl ⟨Ga (Hz (by rw [← Int.natCast_add]; exact G1d (by omega) (by omega)) rfl rfl rfl) rfl,trivial⟩ ?_ rfl
  refine Gc (u:=I64 ((i*H:Nat):Int)) rfl rfl ⟨Ga (G3 rfl rfl) rfl,trivial⟩ ?_ rfl
  refine Gc (u:=.ptr 6600000001 1) rfl rfl ⟨Ga (Hs J2f rfl rfl) rfl,trivial⟩ ?_ rfl
  refine Gc (u:=I64 (H:Int)) rfl rfl ⟨Ga (Ht scI rfl rfl rfl rfl) rfl,trivial⟩ ?_ rfl
  refine Gc (u:=I64 ((i*H+H:Nat):Int)) rfl rfl ⟨Ga (Hz (by rw [← Int.natCast_add]; exact G1d (by omega) (by omega)) rfl rfl rfl) rfl,trivial⟩ ?_ rfl
  have a2:(SL b (0+i*H*1) (i*H+s.length - i*H) (i*H+H - i*H))=SL b (i*H) s.length H:=by
   rw [show 0+i*H*1=i*H by omega,show i*H+s.length - i*H=s.length by omega,show i*H+H - i*H=H by omega]
  refine Gc (u:=SL b (i*H) s.length H) rfl rfl ⟨Ga (a2 ▸ Rf1 rfl rfl rfl rfl rfl slS rfl rfl rfl (by omega) (by omega) (by omega) (by omega)) rfl,trivial⟩ ?_ rfl
  refine Gc (u:=.list 1 [SL b (i*H) s.length H]) rfl rfl ⟨Ga (H4 (xs:=[SL b (i*H) s.length H]) rfl ⟨rfl,rfl,trivial⟩ H64 zszS rfl rfl rfl rfl) rfl,trivial⟩ ?_ rfl
  have h8:(outs b H (ss.take i)).length=i:=by rw [G3b,h4]
  have b6:(outs b H (ss.take i)++[SL b (i*H) s.length H]).length=i+1:=by rw [Ki,h8]; rfl
  refine D_w (u:=.vec 6609000001 (i+1) 1 (i+1)) rfl rfl rfl rfl (Ga (Q4e rfl rfl rfl rfl H64 elS h8 (by omega)) rfl) ?_ rfl
  refine Gc (u:=.ptr 6600000004 0) rfl rfl ⟨Ga (Hs G4b rfl rfl) rfl,trivial⟩ ?_ rfl
  refine H2a (u:=.junk) rfl rfl rfl rfl (Ga (Hu (u:=.vec 6609000001 (i+1) 1 (i+1)) (ds:=[.vec 6609000001 (i+1) 1 (i+1),I64 (H:Int)]) szSS rfl rfl rfl rfl rfl rfl rfl rfl) rfl) ?_
  refine Rx ?_
  refine b3 _ _ ?_
  refine G1 ?_
  refine G0 (u:=I64 ((i+1:Nat):Int)) (Hz (by rw [show ((i:Int)+1)=((i+1:Nat):Int) by omega]; exact G1d (by omega) (by omega)) rfl rfl rfl) ?_ rfl rfl rfl
  refine G0 (u:=I64 ((i+1:Nat):Int)) (G3 rfl rfl) ?_ rfl rfl rfl
  refine G6 ?_
  have ho:outs b H (ss.take i)++[SL b (i*H) s.length H]=outs b H (ss.take (i+1)):=by rw [← h6,Q99,h4]
  rw [ho]
  exact e6 _ _ (i+1,vals2) ⟨h3,h5⟩ (by show ss.length - (i+1) < ss.length - i; omega) ⟨⟨.same rfl,.same rfl,.same rfl,.same rfl,.same rfl,.same rfl,.same rfl,trivial⟩,⟨⟨_,rfl,.boxEq rfl rfl⟩,⟨_,rfl,.boxEq rfl rfl⟩,⟨_,rfl,.boxEq rfl rfl⟩,⟨_,rfl,.vec⟩,⟨_,rfl,.pin⟩,trivial⟩,rfl⟩
 ·have he:i=ss.length:=by have:=Eu hb; omega
  subst he
  rw [List.take_length] at h0
  refine Hd ?_
  refine a8 _ _ ?_
  refine G4 (fun K13 a3=>?_)
  refine G1 ?_
  refine G0 (u:=.agg [.vec 6609000001 ss.length 1 ss.length,I64 (H:Int)]) (Jc H42 rfl rfl rfl rfl) ?_ rfl rfl rfl
  refine Jb (u:=.junk) (Hu (u:=.agg [.vec 6609000001 ss.length 1 ss.length,I64 (H:Int)]) (ds:=[.vec 6609000001 ss.length 1 ss.length,I64 (H:Int)]) szY rfl rfl rfl rfl rfl rfl rfl rfl) ?_ rfl rfl
  refine G6 ?_
  refine a3 _ _ ?_
  refine H0 ?_
  rw [List.take_length]
  exact⟨[.agg [.vec 6609000001 ss.length 1 ss.length,I64 (H:Int)]],[(6609000001,.vec 22 1 ss.length (outs b H ss)),(6609000002,.pin 3 b (vals.map I64))],⟨⟨_,rfl,.vec⟩,⟨_,rfl,.pin⟩,trivial⟩,rfl,⟨⟨_,⟨_,_,_,_,rfl,rfl,rfl,.inl ⟨H42,rfl⟩⟩,.conv (.same rfl)⟩,trivial⟩,⟨(b,vals),h0⟩,rfl,rfl⟩
def Hn (ss:List (List Int)) (H:Nat) (m:G2):List (List Int)×Int:=
 if (m.From < 0∨(ss.length:Int)≤m.From)∨m.To < 0∨(ss.length:Int)≤m.To then (ss,6)
 else if m.From=m.To then (ss,340)
 else if (ss.getD m.From.toNat []).length=0 then (ss,341)
 else if (ss.getD m.To.toNat []).length=H then (ss,4)
 else ((ss.set m.To.toNat (ss.getD m.To.toNat []++[(ss.getD m.From.toNat []).getLastD 0])).set m.From.toNat ((ss.getD m.From.toNat []).take ((ss.getD m.From.toNat []).length - 1)),0)
theorem J66 {N H:Nat} (ss:List (List Int)) (b p:Nat) (vals:List Int) (m:G2) (h0:Seg N H ss vals) (hn:ss.length≤30) (hH:1≤H) (d1:H≤6) :
  Jz Tryz.prog 66 [.agg [.vec 6609000001 p 1 ss.length,I64 (H:Int)],.agg [I64 m.From,I64 m.To]] [(6609000001,.vec 22 1 p (outs b H ss)),(6609000002,.pin 3 b (vals.map I64))]
   (fun av L'=>∃ q:{v:List Int // Seg N H (Hn ss H m).1 v},av=I64 (Hn ss H m).2∧L'=[(6609000001,.vec 22 1 p (outs b H (Hn ss H m).1)),(6609000002,.pin 3 b (q.1.map I64))]):=by
 obtain⟨F,T⟩:=m
 refine G0c [6609000001,6609000002] [.tmp 4] Tryz.func66 rfl rfl (H6f rfl) ?_
 refine G4 (fun K1 b8=>?_)
 refine G1 ?_
 refine G0 (u:=.ptr 6700000002 0) (Qw (u:=.agg [.vec 6609000001 p 1 ss.length,I64 (H:Int)]) (cs:=[.vec 6609000001 p 1 ss.length,I64 (H:Int)]) 6700000002 rfl rfl rfl rfl rfl) ?_ rfl rfl rfl
 refine G0 (u:=.ptr 6700000003 0) (Qw (u:=.agg [I64 F,I64 T]) (cs:=[I64 F,I64 T]) 6700000003 rfl rfl rfl rfl rfl) ?_ rfl rfl rfl
 refine G0 (u:=I64 0) (G5 rfl rfl) ?_ rfl rfl rfl
 refine G6 ?_
 refine b8 _ _ ?_
 refine G4 (fun K2 b9=>?_)
 refine G1 ?_
 refine G0 (u:=.ptr 6700000002 0) (Hs G4b rfl rfl) ?_ rfl rfl rfl
 refine G0 (u:=.vec 6609000001 p 1 ss.length) (Ht H82 rfl rfl rfl rfl) ?_ rfl rfl rfl
 refine G0 (u:=I64 (ss.length:Int)) (R08 H64 rfl rfl rfl) ?_ rfl rfl rfl
 refine G0 (u:=I64 (ss.length:Int)) (G5 rfl rfl) ?_ rfl rfl rfl
 refine G6 ?_
 refine b9 _ _ ?_
 refine G4 (fun K3 c0=>?_)
 refine Gf ?_
 refine G4 (fun K4 c1=>?_)
 refine G1 ?_
 refine G0 (u:=.ptr 6700000003 0) (Hs H58 rfl rfl) ?_ rfl rfl rfl
 refine G0 (u:=I64 F) (Ht scI rfl rfl rfl rfl) ?_ rfl rfl rfl
 refine G0 (u:=BL (decide (F < 0))) (J2 rfl rfl rfl) ?_ rfl rfl rfl
 refine G0 (u:=BL (decide (F < 0))) (G3 rfl rfl) ?_ rfl rfl rfl
 refine Gm (u:=.ptr 6700000003 0) [] rfl rfl rfl .scf trivial (fun hc=>Hs H58 rfl rfl) ?_ rfl rfl rfl
 refine Gm (u:=I64 F) [(16,.ptr 6700000003 0)] rfl rfl rfl .scf ⟨.all id,trivial⟩ (fun hc=>Ht scI rfl rfl rfl rfl) ?_ rfl rfl rfl
 refine Gm (u:=I64 (ss.length:Int)) [] rfl rfl rfl .scf trivial (fun hc=>G3 rfl rfl) ?_ rfl rfl rfl
 refine Gm (u:=BL (decide ((ss.length:Int)≤F))) [(17,I64 F),(18,I64 (ss.length:Int))] rfl rfl rfl .scf ⟨.all id,.all id,trivial⟩ (fun hc=>G6b rfl rfl rfl) ?_ rfl rfl rfl
 refine G0 (u:=BL (decide (F < 0)||decide ((ss.length:Int)≤F))) (G17 rfl rfl rfl rfl) ?_ rfl rfl rfl
 refine G0 (u:=BL (decide (F < 0)||decide ((ss.length:Int)≤F))) (G3 rfl rfl) ?_ rfl rfl rfl
 refine Gm (u:=.ptr 6700000003 1) [] rfl rfl rfl .scf trivial (fun hc=>Hs H14 rfl rfl) ?_ rfl rfl rfl
 refine Gm (u:=I64 T) [(22,.ptr 6700000003 1)] rfl rfl rfl .scf ⟨.all id,trivial⟩ (fun hc=>Ht scI rfl rfl rfl rfl) ?_ rfl rfl rfl
 refine Gm (u:=BL (decide (T < 0))) [(23,I64 T)] rfl rfl rfl .scf ⟨.all id,trivial⟩ (fun hc=>J2 rfl rfl rfl) ?_ rfl rfl rfl
 refine G0 (u:=BL ((decide (F < 0)||decide ((ss.length:Int)≤F))||decide (T < 0))) (G17 rfl rfl rfl rfl) ?_ rfl rfl rfl
 refine G0 (u:=BL ((decide (F < 0)||decide ((ss.length:Int)≤F))||decide (T < 0))) (G3 rfl rfl) ?_ rfl rfl rfl
 refine Gm (u:=.ptr 6700000003 1) [] rfl rfl rfl .scf trivial (fun hc=>Hs H14 rfl rfl) ?_ rfl rfl rfl
 refine Gm (u:=I64 T) [(27,.ptr 6700000003 1)] rfl rfl rfl .scf ⟨.all id,trivial⟩ (fun hc=>Ht scI rfl rfl rfl rfl) ?_ rfl rfl rfl
 refine Gm (u:=I64 (ss.length:Int)) [] rfl rfl rfl .scf trivial (fun hc=>G3 rfl rfl) ?_ rfl rfl rfl
 refine Gm (u:=BL (decide ((ss.length:Int)≤T))) [(28,I64 T),(29,I64 (ss.length:Int))] rfl rfl rfl .scf ⟨.all id,.all id,trivial⟩ (fun hc=>G6b rfl rfl rfl) ?_ rfl rfl rfl
 refine G0 (u:=BL (((decide (F < 0)||decide ((ss.length:Int)≤F))||decide (T < 0))||decide ((ss.length:Int)≤T))) (G17 rfl rfl rfl rfl) ?_ rfl rfl rfl
 refine G0 (u:=BL (((decide (F < 0)||decide ((ss.length:Int)≤F))||decide (T < 0))||decide ((ss.length:Int)≤T))) (G5 rfl rfl) ?_ rfl rfl rfl
 refine G6 ?_
 refine c1 _ _ ?_
 have same:∀ (K:Fr→Loc→Prop) (e:Int),Hn ss H ⟨F,T⟩=(ss,e)→Qb1 Tryz.prog [6609000001,6609000002] [.tmp 4] (fun av L'=>∃ q:{v:List Int // Seg N H (Hn ss H ⟨F,T⟩).1 v},av=I64 (Hn ss H ⟨F,T⟩).2∧L'=[(6609000001,.vec 22 1 p (outs b H (Hn ss H ⟨F,T⟩).1)),(6609000002,.pin 3 b (q.1.map I64))])=Qb1 Tryz.prog [6609000001,6609000002] [.tmp 4] (fun av L'=>∃ q:{v:List Int // Seg N H ss v},av=I64 e∧L'=[(6609000001,.vec 22 1 p (outs b H ss)),(6609000002,.pin 3 b (q.1.map I64))]):=fun K e he=>by rw [he]
 refine Gi rfl (fun hb=>?_) (fun hb=>?_)
 ·have hR:Hn ss H ⟨F,T⟩=(ss,6):=by
   unfold Hn
   refine if_pos ?_
   simp only [Kt,Km] at hb
   rcases hb with ((h | h) | h) | h
   ·exact .inl (.inl h)
   ·exact .inl (.inr h)
   ·exact .inr (.inl h)
   ·exact .inr (.inr h)
  rw [hR]
  refine G4 (fun K5 h6=>?_)
  refine G1 ?_
  refine G0 (u:=I64 6) (G5 rfl rfl) ?_ rfl rfl rfl
  refine G6 ?_
  refine h6 _ _ ?_
  refine H0 ?_
  exact⟨[I64 6],[(6609000001,.vec 22 1 p (outs b H ss)),(6609000002,.pin 3 b (vals.map I64))],⟨⟨_,rfl,.vec⟩,⟨_,rfl,.pin⟩,trivial⟩,rfl,⟨⟨_,rfl,.conv (.same rfl)⟩,trivial⟩,⟨vals,h0⟩,rfl,rfl⟩
 simp only [Ku,decide_eq_false_iff_not] at hb
 obtain⟨⟨⟨h1,h2⟩,h3⟩,h4⟩:=hb
 have h8:¬ ((F < 0∨(ss.length:Int)≤F)∨T < 0∨(ss.length:Int)≤T):=by omega
 have a3:F=((F.toNat:Nat):Int):=by omega
 have a4:T=((T.toNat:Nat):Int):=by omega
 have h9:F.toNat < ss.length:=by omega
 have a0:T.toNat < ss.length:=by omega
 obtain⟨sf,h7⟩:∃ s,ss[F.toNat]? = some s:=⟨_,Ey h9⟩
 obtain⟨st,a1⟩:∃ s,ss[T.toNat]? = some s:=⟨_,Ey a0⟩
 have a2:ss.getD F.toNat []=sf:=by rw [List.getD_eq_getElem?_getD,h7]; rfl
 have a5:ss.getD T.toNat []=st:=by rw [List.getD_eq_getElem?_getD,a1]; rfl
 have d2:=h0.low sf (K0 h7)
 have d3:=h0.low st (K0 a1)
 have c9:=h0.fit (i:=F.toNat) (by have:=h0.num; omega)
 have d0:=h0.fit (i:=T.toNat) (by have:=h0.num; omega)
 have h5:(outs b H ss).length=ss.length:=G3b
 refine G4 (fun K6 c2=>?_)
 refine G1 ?_
 refine G0 (u:=.ptr 6700000003 0) (Hs H58 rfl rfl) ?_ rfl rfl rfl
 refine G0 (u:=I64 F) (Ht scI rfl rfl rfl rfl) ?_ rfl rfl rfl
 refine G0 (u:=.ptr 6700000003 1) (Hs H14 rfl rfl) ?_ rfl rfl rfl
 refine G0 (u:=I64 T) (Ht scI rfl rfl rfl rfl) ?_ rfl rfl rfl
 refine G0 (u:=BL (decide (F=T))) (Yx rfl rfl rfl) ?_ rfl rfl rfl
 refine G0 (u:=BL (decide (F=T))) (G5 rfl rfl) ?_ rfl rfl rfl
 refine G6 ?_
 refine c2 _ _ ?_
 refine Gi rfl (fun hb=>?_) (fun hb=>?_)
 ·have hR:Hn ss H ⟨F,T⟩=(ss,340):=by
   unfold Hn
   rw [if_neg h8,if_pos (Es hb)]
  rw [hR]
  refine G4 (fun K5 h6=>?_)
  refine G1 ?_
  refine G0 (u:=I64 340) (G5 rfl rfl) ?_ rfl rfl rfl
  refine G6 ?_
  refine h6 _ _ ?_
  refine H0 ?_
  exact⟨[I64 340],[(6609000001,.vec 22 1 p (outs b H ss)),(6609000002,.pin 3 b (vals.map I64))],⟨⟨_,rfl,.vec⟩,⟨_,rfl,.pin⟩,trivial⟩,rfl,⟨⟨_,rfl,.conv (.same rfl)⟩,trivial⟩,⟨vals,h0⟩,rfl,rfl⟩
 have a6:F≠T:=Eu hb
 refine G4 (fun K7 c3=>?_)
 refine G1 ?_
 refine G0 (u:=.ptr 6700000002 0) (Hs G4b rfl rfl) ?_ rfl rfl rfl
 refine G0 (u:=.vec 6609000001 p 1 ss.length) (Ht H82 rfl rfl rfl rfl) ?_ rfl rfl rfl
 refine G0 (u:=.ptr 6700000003 0) (Hs H58 rfl rfl) ?_ rfl rfl rfl
 refine G0 (u:=I64 F) (Ht scI rfl rfl rfl rfl) ?_ rfl rfl rfl
 refine G0 (u:=.vptr 6609000001 p F.toNat 0) (H93 rfl rfl rfl rfl H64 (by rw [h5]; exact h9) a3) ?_ rfl rfl rfl
 refine G0 (u:=SL b (F.toNat*H) sf.length H) (Hbf scS rfl rfl rfl (H35 h7) rfl (by decide)) ?_ rfl rfl rfl
 refine G0 (u:=I64 (sf.length:Int)) (Ja6 rfl slS rfl) ?_ rfl rfl rfl
 refine G0 (u:=BL (decide ((sf.length:Int)=0))) (Yx rfl rfl rfl) ?_ rfl rfl rfl
 refine G0 (u:=BL (decide ((sf.length:Int)=0))) (G5 rfl rfl) ?_ rfl rfl rfl
 refine G6 ?_
 refine c3 _ _ ?_
 refine Gi rfl (fun hb=>?_) (fun hb=>?_)
 ·have hR:Hn ss H ⟨F,T⟩=(ss,341):=by
   unfold Hn
   rw [if_neg h8,if_neg a6,if_pos (by rw [a2]; have:=Es hb; omega)]
  rw [hR]
  refine G4 (fun K5 h6=>?_)
  refine G1 ?_
  refine G0 (u:=I64 341) (G5 rfl rfl) ?_ rfl rfl rfl
  refine G6 ?_
  refine h6 _ _ ?_
  refine H0 ?_
  exact⟨[I64 341],[(6609000001,.vec 22 1 p (outs b H ss)),(6609000002,.pin 3 b (vals.map I64))],⟨⟨_,rfl,.vec⟩,⟨_,rfl,.pin⟩,trivial⟩,rfl,⟨⟨_,rfl,.conv (.same rfl)⟩,trivial⟩,⟨vals,h0⟩,rfl,rfl⟩
 have d4:0 < sf.length:=by have:=Eu hb; omega
 refine G4 (fun K8 c4=>?_)
 refine R0 (l':=[(2,.ptr 6700000002 0),(3,.ptr 6700000003 0),(4,I64 0),(5,I64 (ss.length:Int))]) (L':=[(6700000003,.box 35 [I64 F,I64 T]),(6700000002,.box 25 [.vec 6609000001 p 1 ss.length,I64 (H:Int)]),(6609000001,.vec 22 1 p (outs b H ss)),(6609000002,.pin 3 b (vals.map I64))]) ⟨⟨.same rfl,.same rfl,.same rfl,.same rfl,trivial⟩,⟨⟨_,rfl,.boxEq rfl rfl⟩,⟨_,rfl,.boxEq rfl rfl⟩,⟨_,rfl,.vec⟩,⟨_,rfl,.pin⟩,trivial⟩,rfl⟩ ?_
 refine Ju [] [0,0,0,0,0,0,0,0,0,0,0] [0,0,0,0,0,0,0,0,0,0,0] [[(6700000003,.box 35 [I64 F,I64 T]),(6700000002,.box 25 [.vec 6609000001 p 1 ss.length,I64 (H:Int)]),(6609000001,.vec 22 1 p (outs b H ss)),(6609000002,.pin 3 b (vals.map I64))]] mixed (by kernel_rfl) rfl rfl ?_
 refine Gc (u:=.ptr 6700000002 0) rfl rfl ⟨Ga (Hs G4b rfl rfl) rfl,trivial⟩ ?_ rfl
 refine Gc (u:=.vec 6609000001 p 1 ss.length) rfl rfl ⟨Ga (Ht H82 rfl rfl rfl rfl) rfl,trivial⟩ ?_ rfl
 refine Gc (u:=.ptr 6700000003 1) rfl rfl ⟨Ga (Hs H14 rfl rfl) rfl,trivial⟩ ?_ rfl
 refine Gc (u:=I64 T) rfl rfl ⟨Ga (Ht scI rfl rfl rfl rfl) rfl,trivial⟩ ?_ rfl
 refine Gc (u:=.vptr 6609000001 p T.toNat 0) rfl rfl ⟨Ga (H93 rfl rfl rfl rfl H64 (by rw [h5]; exact a0) a4) rfl,trivial⟩ ?_ rfl
 refine Gc (u:=SL b (T.toNat*H) st.length H) rfl rfl ⟨Ga (Hbf scS rfl rfl rfl (H35 a1) rfl (by decide)) rfl,trivial⟩ ?_ rfl
 refine Gc (u:=I64 (st.length:Int)) rfl rfl ⟨Ga (Ja6 rfl slS rfl) rfl,trivial⟩ ?_ rfl
 refine Gc (u:=.ptr 6700000002 1) rfl rfl ⟨Ga (Hs J2f rfl rfl) rfl,trivial⟩ ?_ rfl
 refine Gc (u:=I64 (H:Int)) rfl rfl ⟨Ga (Ht scI rfl rfl rfl rfl) rfl,trivial⟩ ?_ rfl
 refine Gc (u:=BL (decide ((st.length:Int)=(H:Int)))) rfl rfl ⟨Ga (Yx rfl rfl rfl) rfl,trivial⟩ ?_ rfl
 refine Gc (u:=BL (decide ((st.length:Int)=(H:Int)))) rfl rfl ⟨Ga (G5 rfl rfl) rfl,trivial⟩ ?_ rfl
 refine Rx ?_
 refine c4 _ _ ?_
 refine Gi rfl (fun hb=>?_) (fun hb=>?_)
 ·have hR:Hn ss H ⟨F,T⟩=(ss,4):=by
   unfold Hn
   rw [if_neg h8,if_neg a6,if_neg (by rw [a2]; omega),if_pos (by rw [a5]; have:=Es hb; omega)]
  rw [hR]
  refine G4 (fun K5 h6=>?_)
  refine G1 ?_
  refine G0 (u:=I64 4) (G5 rfl rfl) ?_ rfl rfl rfl
  refine G6 ?_
  refine h6 _ _ ?_
  refine H0 ?_
  exact⟨[I64 4],[(6609000001,.vec 22 1 p (outs b H ss)),(6609000002,.pin 3 b (vals.map I64))],⟨⟨_,rfl,.vec⟩,⟨_,rfl,.pin⟩,trivial⟩,rfl,⟨⟨_,rfl,.conv (.same rfl)⟩,trivial⟩,⟨vals,h0⟩,rfl,rfl⟩
 have a8:st.length < H:=by have:=Eu hb; omega
 refine Gk ?_
 refine c0 _ _ ?_
 -- the move
 obtain⟨v,hv⟩:∃ v,sf[sf.length - 1]? = some v:=⟨_,Ey (by omega)⟩
 have a9:sf.getLastD 0=v:=by
  rw [List.getLastD_eq_getLast?,List.getLast?_eq_getElem?,hv]; rfl
 have hR:Hn ss H ⟨F,T⟩=((ss.set T.toNat (st++[v])).set F.toNat (sf.take (sf.length - 1)),0):=by
  unfold Hn
  rw [if_neg h8,if_neg a6,if_neg (by rw [a2]; omega),if_neg (by rw [a5]; omega)]
  dsimp only
  rw [a2,a5,a9]
 rw [hR]
 have c5:F.toNat≠T.toNat:=by omega
 refine G4 (fun K9 c6=>?_)
 refine G1 ?_
 refine G0 (u:=.ptr 6700000002 0) (Hs G4b rfl rfl) ?_ rfl rfl rfl
 refine G0 (u:=.vec 6609000001 p 1 ss.length) (Ht H82 rfl rfl rfl rfl) ?_ rfl rfl rfl
 refine G0 (u:=.ptr 6700000003 0) (Hs H58 rfl rfl) ?_ rfl rfl rfl
 refine G0 (u:=I64 F) (Ht scI rfl rfl rfl rfl) ?_ rfl rfl rfl
 refine G0 (u:=.vptr 6609000001 p F.toNat 0) (H93 rfl rfl rfl rfl H64 (by rw [h5]; exact h9) a3) ?_ rfl rfl rfl
 refine G0 (u:=SL b (F.toNat*H) sf.length H) (Hbf scS rfl rfl rfl (H35 h7) rfl (by decide)) ?_ rfl rfl rfl
 refine G0 (u:=SL b (F.toNat*H) sf.length H) (G5 rfl rfl) ?_ rfl rfl rfl
 refine G6 ?_
 refine c6 _ _ ?_
 refine G4 (fun K10 b3=>?_)
 refine G1 ?_
 refine G0 (u:=SL b (F.toNat*H) sf.length H) (G3 rfl rfl) ?_ rfl rfl rfl
 refine G0 (u:=I64 (sf.length:Int)) (Ja6 rfl slS rfl) ?_ rfl rfl rfl
 refine G0 (u:=I64 ((sf.length - 1:Nat):Int)) (G07 (by rw [show ((sf.length:Int) - 1)=((sf.length - 1:Nat):Int) by omega]; exact G1d (by omega) (by omega)) rfl rfl rfl) ?_ rfl rfl rfl
 refine G0 (u:=I64 ((sf.length - 1:Nat):Int)) (G5 rfl rfl) ?_ rfl rfl rfl
 refine G6 ?_
 refine b3 _ _ ?_
 refine G4 (fun K11 b4=>?_)
 refine R0 (l':=[(2,.ptr 6700000002 0),(3,.ptr 6700000003 0),(6,SL b (F.toNat*H) sf.length H),(7,I64 ((sf.length - 1:Nat):Int))]) (L':=[(6700000003,.box 35 [I64 F,I64 T]),(6700000002,.box 25 [.vec 6609000001 p 1 ss.length,I64 (H:Int)]),(6609000001,.vec 22 1 p (outs b H ss)),(6609000002,.pin 3 b (vals.map I64))]) ⟨⟨.same rfl,.same rfl,.same rfl,.same rfl,trivial⟩,⟨⟨_,rfl,.boxEq rfl rfl⟩,⟨_,rfl,.boxEq rfl rfl⟩,⟨_,rfl,.vec⟩,⟨_,rfl,.pin⟩,trivial⟩,rfl⟩ ?_
 generalize b0:vals.take (T.toNat*H+st.length)++[v]++vals.drop (T.toNat*H+st.length+[v].length)=vals2
 have b1:Seg N H (ss.set T.toNat (st++[v])) vals2:=by rw [← b0]; exact h0.push a1 a8 v
 refine Ju [15,17] [0,0,0,0,0,0,0,0,0,0,0,0,0,0,0,0,1,0] [1,1,1,1,0,0,0,0,0,0,0,0,0,0,0,0,1,0]
  [[(6700000003,.box 35 [I64 F,I64 T]),(6700000002,.box 25 [.vec 6609000001 p 1 ss.length,I64 (H:Int)]),(6609000001,.vec 22 1 p (outs b H ss)),(6609000002,.pin 3 b (vals.map I64))],
  (6609000002,.pin 3 b (vals2.map I64))::[(6700000003,.box 35 [I64 F,I64 T]),(6700000002,.box 25 [.vec 6609000001 p 1 ss.length,I64 (H:Int)]),(6609000001,.vec 22 1 p (outs b H ss)),(6609000002,.pin 3 b (vals.map I64))],
  (6609000001,.vec 22 1 p ((outs b H ss).set T.toNat (SL b (T.toNat*H) (st.length+1) H)))::(6609000002,.pin 3 b (vals2.map I64))::[(6700000003,.box 35 [I64 F,I64 T]),(6700000002,.box 25 [.vec 6609000001 p 1 ss.length,I64 (H:Int)]),(6609000001,.vec 22 1 p (outs b H ss)),(6609000002,.pin 3 b (vals.map I64))]] mixed (by kernel_rfl) rfl rfl ?_
 refine Gc (u:=.ptr 6700000002 0) rfl rfl ⟨Ga (Hs G4b rfl rfl) rfl,Ga (Hs G4b rfl rfl) rfl,trivial⟩ ?_ rfl
 refine Gc (u:=.vec 6609000001 p 1 ss.length) rfl rfl ⟨Ga (Ht H82 rfl rfl rfl rfl) rfl,Ga (Ht H82 rfl rfl rfl rfl) rfl,trivial⟩ ?_ rfl
 refine Gc (u:=.ptr 6700000003 1) rfl rfl ⟨Ga (Hs H14 rfl rfl) rfl,Ga (Hs H14 rfl rfl) rfl,trivial⟩ ?_ rfl
 refine Gc (u:=I64 T) rfl rfl ⟨Ga (Ht scI rfl rfl rfl rfl) rfl,Ga (Ht scI rfl rfl rfl rfl) rfl,trivial⟩ ?_ rfl
 refine Gc (u:=.ptr 6700000002 0) rfl rfl ⟨Ga (Hs G4b rfl rfl) rfl,trivial⟩ ?_ rfl
 refine Gc (u:=.vec 6609000001 p 1 ss.length) rfl rfl ⟨Ga (Ht H82 rfl rfl rfl rfl) rfl,trivial⟩ ?_ rfl
 refine Gc (u:=.ptr 6700000003 1) rfl rfl ⟨Ga (Hs H14 rfl rfl) rfl,trivial⟩ ?_ rfl
 refine Gc (u:=I64 T) rfl rfl ⟨Ga (Ht scI rfl rfl rfl rfl) rfl,trivial⟩ ?_ rfl
 refine Gc (u:=.vptr 6609000001 p T.toNat 0) rfl rfl ⟨Ga (H93 rfl rfl rfl rfl H64 (by rw [h5]; exact a0) a4) rfl,trivial⟩ ?_ rfl
 refine Gc (u:=SL b (T.toNat*H) st.length H) rfl rfl ⟨Ga (Hbf scS rfl rfl rfl (H35 a1) rfl (by decide)) rfl,trivial⟩ ?_ rfl
 refine Gc (u:=SL b (F.toNat*H) sf.length H) rfl rfl ⟨Ga (G3 rfl rfl) rfl,trivial⟩ ?_ rfl
 refine Gc (u:=I64 ((sf.length - 1:Nat):Int)) rfl rfl ⟨Ga (G3 rfl rfl) rfl,trivial⟩ ?_ rfl
 refine Gc (u:=PT b (F.toNat*H+(sf.length - 1)*1)) rfl rfl ⟨Ga (R9a rfl rfl rfl slS rfl (by omega)) rfl,trivial⟩ ?_ rfl
 refine Gc (u:=I64 v) rfl rfl ⟨Ga (R09 (i:=6609000002) (vals:=vals) rfl rfl scI rfl (by rw [Nat.mul_one]; exact h0.at_ _ _ _ _ h7 hv)) rfl,trivial⟩ ?_ rfl
 refine Gc (u:=LS 1 I64 [v]) rfl rfl ⟨Ga (H4 (xs:=[I64 v]) rfl ⟨rfl,rfl,trivial⟩ slS R6c rfl rfl rfl rfl) rfl,trivial⟩ ?_ rfl
 refine D_w (u:=SL b (T.toNat*H) (st.length+1) H) rfl rfl rfl rfl (Ga (b0 ▸ R48 (i:=6609000002) (vals:=vals) (v:=v) rfl rfl rfl rfl slS elI (by omega) (by omega)) rfl) ?_ rfl
 refine Gc (u:=.vptr 6609000001 p T.toNat 0) rfl rfl ⟨Ga (H93 rfl rfl rfl rfl H64 (by rw [h5]; exact a0) a4) rfl,trivial⟩ ?_ rfl
 refine H2a (u:=.junk) rfl rfl rfl rfl (Ga (J48 szS rfl rfl rfl rfl (by rw [h5]; exact a0) (fun y hy=>(Hcd hy).1)) rfl) ?_
 refine Rx ?_
 refine b4 _ _ ?_
 have c7:(outs b H ss).set T.toNat (SL b (T.toNat*H) (st.length+1) H)=outs b H (ss.set T.toNat (st++[v])):=by
  rw [Jcb,Ki]; rfl
 rw [c7]
 generalize a7:ss.set T.toNat (st++[v])=ss2 at b1 ⊢
 have b2:ss2.length=ss.length:=by rw [← a7,List.length_set]
 have b5:ss2[F.toNat]? = some sf:=by rw [← a7,List.getElem?_set,if_neg (fun h=>c5 h.symm)]; exact h7
 refine G4 (fun K12 b6=>?_)
 refine R0 (l':=[(2,.ptr 6700000002 0),(3,.ptr 6700000003 0),(6,SL b (F.toNat*H) sf.length H),(7,I64 ((sf.length - 1:Nat):Int))]) (L':=[(6700000003,.box 35 [I64 F,I64 T]),(6700000002,.box 25 [.vec 6609000001 p 1 ss.length,I64 (H:Int)]),(6609000001,.vec 22 1 p (outs b H ss2)),(6609000002,.pin 3 b (vals2.map I64))]) ⟨⟨.same rfl,.same rfl,.same rfl,.same rfl,trivial⟩,⟨⟨_,rfl,.boxEq rfl rfl⟩,⟨_,rfl,.boxEq rfl rfl⟩,⟨_,rfl,.vec⟩,⟨_,rfl,.pin⟩,trivial⟩,rfl⟩ ?_
 refine Ju [8] [0,0,0,0,0,0,0,0,0] [0,0,0,0,0,0,0,0,0]
  [[(6700000003,.box 35 [I64 F,I64 T]),(6700000002,.box 25 [.vec 6609000001 p 1 ss.length,I64 (H:Int)]),(6609000001,.vec 22 1 p (outs b H ss2)),(6609000002,.pin 3 b (vals2.map I64))],
  (6609000001,.vec 22 1 p ((outs b H ss2).set F.toNat (SL b (F.toNat*H) (sf.length - 1) H)))::[(6700000003,.box 35 [I64 F,I64 T]),(6700000002,.box 25 [.vec 6609000001 p 1 ss.length,I64 (H:Int)]),(6609000001,.vec 22 1 p (outs b H ss2)),(6609000002,.pin 3 b (vals2.map I64))]] mixed (by kernel_rfl) rfl rfl ?_
 refine Gc (u:=.ptr 6700000002 0) rfl rfl ⟨Ga (Hs G4b rfl rfl) rfl,trivial⟩ ?_ rfl
 refine Gc (u:=.vec 6609000001 p 1 ss.length) rfl rfl ⟨Ga (Ht H82 rfl rfl rfl rfl) rfl,trivial⟩ ?_ rfl
 refine Gc (u:=.ptr 6700000003 0) rfl rfl ⟨Ga (Hs H58 rfl rfl) rfl,trivial⟩ ?_ rfl
 refine Gc (u:=I64 F) rfl rfl ⟨Ga (Ht scI rfl rfl rfl rfl) rfl,trivial⟩ ?_ rfl
 refine Gc (u:=SL b (F.toNat*H) sf.length H) rfl rfl ⟨Ga (G3 rfl rfl) rfl,trivial⟩ ?_ rfl
 refine Gc (u:=I64 ((sf.length - 1:Nat):Int)) rfl rfl ⟨Ga (G3 rfl rfl) rfl,trivial⟩ ?_ rfl
 refine Gc (u:=SL b (F.toNat*H) (sf.length - 1) H) rfl rfl ⟨Ga (R98 rfl rfl rfl slS rfl (by omega) (by omega)) rfl,trivial⟩ ?_ rfl
 refine Gc (u:=.vptr 6609000001 p F.toNat 0) rfl rfl ⟨Ga (H93 rfl rfl rfl rfl H64 (by rw [G3b,b2]; exact h9) a3) rfl,trivial⟩ ?_ rfl
 refine H2a (u:=.junk) rfl rfl rfl rfl (Ga (J48 szS rfl rfl rfl rfl (by rw [G3b,b2]; exact h9) (fun y hy=>(Hcd hy).1)) rfl) ?_
 refine Rx ?_
 refine b6 _ _ ?_
 have c8:(outs b H ss2).set F.toNat (SL b (F.toNat*H) (sf.length - 1) H)=outs b H (ss2.set F.toNat (sf.take (sf.length - 1))):=by
  rw [Jcb,List.length_take,Nat.min_eq_left (by omega)]
 rw [c8]
 refine G4 (fun K13 b7=>?_)
 refine G1 ?_
 refine G0 (u:=I64 0) (G5 rfl rfl) ?_ rfl rfl rfl
 refine G6 ?_
 refine b7 _ _ ?_
 refine H0 ?_
 exact⟨[I64 0],[(6609000001,.vec 22 1 p (outs b H (ss2.set F.toNat (sf.take (sf.length - 1))))),(6609000002,.pin 3 b (vals2.map I64))],⟨⟨_,rfl,.vec⟩,⟨_,rfl,.pin⟩,trivial⟩,rfl,⟨⟨_,rfl,.conv (.same rfl)⟩,trivial⟩,⟨vals2,b1.pop b5 _⟩,rfl,rfl⟩
def YOk (y:Gh):Bool:=decide (1≤y.Height∧y.Height≤6∧y.Stacks.length≤30)&&y.Stacks.all (fun s=>decide ((s.length:Int)≤y.Height))
theorem YOk.out {y:Gh} (h:YOk y=true):∃ H:Nat,y.Height=(H:Int)∧1≤H∧H≤6∧y.Stacks.length≤30∧∀ s∈y.Stacks,s.length≤H:=by
 unfold YOk at h
 rw [Kk,Km,List.all_eq_true] at h
 obtain⟨⟨h1,h2,h3⟩,h4⟩:=h
 refine⟨y.Height.toNat,by omega,by omega,by omega,h3,fun s hs=>?_⟩
 have:=Es (h4 s hs)
 omega
def G25 (y:Gh) (m:G2):Option (Gh×Int):=
 bnd (G05 y) fun r=>bif (!r) then some (⟨[],0⟩,2) else need (YOk y) <| some (if (Hn y.Stacks y.Height.toNat m).2=0 then ⟨(Hn y.Stacks y.Height.toNat m).1,y.Height⟩ else ⟨[],0⟩,(Hn y.Stacks y.Height.toNat m).2)
theorem J3f (y:Gh) (m:G2) (r:Gh×Int) (h:G25 y m=some r):Pure Tryz.prog 40 [.agg [LS 1 (LS 1 I64) y.Stacks,I64 y.Height],.agg [I64 m.From,I64 m.To]] (·=.tup [.agg [LS 1 (LS 1 I64) r.1.Stacks,I64 r.1.Height],I64 r.2]):=by
 unfold G25 at h
 refine Hj [.cell 4 25,.tmp 5] Tryz.func40 rfl rfl ?_
 refine G4 (fun K1 h7=>?_)
 refine G1 ?_
 refine G0 (u:=.ptr 4100000002 0) (Qw (u:=.agg [LS 1 (LS 1 I64) y.Stacks,I64 y.Height]) (cs:=[LS 1 (LS 1 I64) y.Stacks,I64 y.Height]) 4100000002 rfl rfl rfl rfl rfl) ?_ rfl rfl rfl
 refine G0 (u:=.ptr 4100000003 0) (Qw (u:=.agg [I64 m.From,I64 m.To]) (cs:=[I64 m.From,I64 m.To]) 4100000003 rfl rfl rfl rfl rfl) ?_ rfl rfl rfl
 refine G0 (u:=.ptr 4100000004 0) (Ji 4100000004 2 Jaa rfl rfl) ?_ rfl rfl rfl
 refine G0 (u:=I64 0) (G5 rfl rfl) ?_ rfl rfl rfl
 refine G6 ?_
 refine h7 _ _ ?_
 refine G4 (fun K2 h8=>?_)
 refine G4 (fun K3 h9=>?_)
 refine G1 ?_
 refine G0 (u:=.agg [LS 1 (LS 1 I64) y.Stacks,I64 y.Height]) (Jc H42 rfl rfl rfl rfl) ?_ rfl rfl rfl
 obtain⟨r4,a0,h⟩:=Gd h
 refine G0 (u:=BL r4) (Gu (args:=[.agg [LS 1 (LS 1 I64) y.Stacks,I64 y.Height]]) rfl (G78 y r4 a0) R5d ⟨rfl,rfl,trivial⟩) ?_ rfl rfl rfl
 refine G0 (u:=BL (!r4)) (Y4 (b:=r4) rfl rfl) ?_ rfl rfl rfl
 refine G6 ?_
 refine h9 _ _ ?_
 refine Gi rfl (fun hb=>?_) (fun hb=>?_)
 ·replace h:=H6 hb h
  refine G4 (fun K4 a1=>?_)
  refine G1 ?_
  refine G0 (u:=.agg [LS 1 (LS 1 I64) ([]:List (List Int)),I64 0]) (Jf (cs:=[LS 1 (LS 1 I64) ([]:List (List Int)),I64 0]) [(0,1),(1,1)] [LS 1 (LS 1 I64) ([]:List (List Int)),I64 0] [.slice none 0 0,.int .i64 0] plY Hde ⟨.inr ⟨_,rfl,rfl⟩,.inl rfl,trivial⟩ rfl rfl) ?_ rfl rfl rfl
  refine Jb (u:=.junk) (Hu (u:=.agg [LS 1 (LS 1 I64) ([]:List (List Int)),I64 0]) (ds:=[LS 1 (LS 1 I64) ([]:List (List Int)),I64 0]) szY rfl rfl rfl rfl rfl rfl rfl rfl) ?_ rfl rfl
  refine G0 (u:=I64 2) (G5 rfl rfl) ?_ rfl rfl rfl
  refine G6 ?_
  refine a1 _ _ ?_
  refine H0 ?_
  obtain rfl:=Ez h
  exact⟨[.agg [LS 1 (LS 1 I64) ([]:List (List Int)),I64 0],I64 2],[],trivial,rfl,⟨⟨_,⟨_,_,_,_,rfl,rfl,rfl,.inl ⟨H42,rfl⟩⟩,.conv (.same rfl)⟩,⟨_,rfl,.conv (.same rfl)⟩,trivial⟩,rfl,rfl⟩
 replace h:=Hv hb h
 obtain⟨a2,h⟩:=Ho h
 obtain⟨H,hH,h1,h6,h0,hs⟩:=YOk.out a2
 refine Gk ?_
 refine h8 _ _ ?_
 obtain⟨ss,yh⟩:=y
 dsimp only at hH h0 hs h ⊢
 subst hH
 rw [Int.toNat_natCast] at h
 refine G4 (fun K5 a3=>?_)
 refine G1 ?_
 refine G0 (u:=.agg [LS 1 (LS 1 I64) ss,I64 (H:Int)]) (Jc H42 rfl rfl rfl rfl) ?_ rfl rfl rfl
 refine G7c rfl rfl rfl (G80 (args:=[.agg [LS 1 (LS 1 I64) ss,I64 (H:Int)]]) (L0:=[]) rfl (J34 ss H h1 h6 h0 hs) R5e ⟨.inl rfl,rfl,trivial⟩ trivial rfl (fun _=>rfl)) ?_
 rintro u_ L_ ⟨⟨⟨b,vals⟩,h4⟩,rfl,rfl⟩
 refine G0 (u:=.ptr 4100000006 0) (Ji 4100000006 2 Jaa rfl rfl) ?_ rfl rfl rfl
 refine Jb (u:=.junk) (Hu (u:=.agg [.vec 6609000001 ss.length 1 ss.length,I64 (H:Int)]) (ds:=[.vec 6609000001 ss.length 1 ss.length,I64 (H:Int)]) szY rfl rfl rfl rfl rfl rfl rfl rfl) ?_ rfl rfl
 refine G6 ?_
 refine a3 _ _ ?_
 refine G4 (fun K6 a4=>?_)
 refine G4 (fun K7 a5=>?_)
 refine G1 ?_
 refine G0 (u:=.agg [.vec 6609000001 ss.length 1 ss.length,I64 (H:Int)]) (Jc H42 rfl rfl rfl rfl) ?_ rfl rfl rfl
 refine G0 (u:=.agg [I64 m.From,I64 m.To]) (Jc R87 rfl rfl rfl rfl) ?_ rfl rfl rfl
 refine G7c rfl rfl rfl (G80 (args:=[.agg [.vec 6609000001 ss.length 1 ss.length,I64 (H:Int)],.agg [I64 m.From,I64 m.To]]) (L0:=[(6609000001,.vec 22 1 ss.length (outs b H ss)),(6609000002,.pin 3 b (vals.map I64))]) rfl (J66 ss b ss.length vals m h4 h0 h1 h6) R5c ⟨.inl rfl,rfl,.inl rfl,rfl,trivial⟩ ⟨rfl,rfl,trivial⟩ rfl (fun _=>rfl)) ?_
 rintro u_ L_ ⟨⟨vals2,h2⟩,rfl,rfl⟩
 refine G0 (u:=I64 (Hn ss H m).2) (G5 rfl rfl) ?_ rfl rfl rfl
 refine G6 ?_
 refine a5 _ _ ?_
 refine G4 (fun K8 a6=>?_)
 refine G1 ?_
 refine G0 (u:=I64 (Hn ss H m).2) (G3 rfl rfl) ?_ rfl rfl rfl
 refine G0 (u:=BL (decide ((Hn ss H m).2≠0))) (G1c rfl rfl rfl) ?_ rfl rfl rfl
 refine G6 ?_
 refine a6 _ _ ?_
 refine Gi rfl (fun hb=>?_) (fun hb=>?_)
 ·have a7:(Hn ss H m).2≠0:=Es hb
  rw [if_neg a7] at h
  obtain rfl:=Ez h
  refine G4 (fun K9 a8=>?_)
  refine G1 ?_
  refine G0 (u:=.agg [LS 1 (LS 1 I64) ([]:List (List Int)),I64 0]) (Jf (cs:=[LS 1 (LS 1 I64) ([]:List (List Int)),I64 0]) [(0,1),(1,1)] [LS 1 (LS 1 I64) ([]:List (List Int)),I64 0] [.slice none 0 0,.int .i64 0] plY Hde ⟨.inr ⟨_,rfl,rfl⟩,.inl rfl,trivial⟩ rfl rfl) ?_ rfl rfl rfl
  refine G0 (u:=I64 (Hn ss H m).2) (G3 rfl rfl) ?_ rfl rfl rfl
  refine Jb (u:=.junk) (Hu (u:=.agg [LS 1 (LS 1 I64) ([]:List (List Int)),I64 0]) (ds:=[LS 1 (LS 1 I64) ([]:List (List Int)),I64 0]) szY rfl rfl rfl rfl rfl rfl rfl rfl) ?_ rfl rfl
  refine G0 (u:=I64 (Hn ss H m).2) (G5 rfl rfl) ?_ rfl rfl rfl
  refine G6 ?_
  refine a8 _ _ ?_
  refine H0 ?_
  exact⟨[.agg [LS 1 (LS 1 I64) ([]:List (List Int)),I64 0],I64 (Hn ss H m).2],[],trivial,rfl,⟨⟨_,⟨_,_,_,_,rfl,rfl,rfl,.inl ⟨H42,rfl⟩⟩,.conv (.same rfl)⟩,⟨_,rfl,.conv (.same rfl)⟩,trivial⟩,rfl,rfl⟩
 have h3:(Hn ss H m).2=0:=by have:=Eu hb; omega
 rw [if_pos h3,h3] at h
 obtain rfl:=Ez h
 refine Gk ?_
 refine a4 _ _ ?_
 refine G4 (fun K10 h5=>?_)
 refine G1 ?_
 refine G0 (u:=.agg [.vec 6609000001 ss.length 1 ss.length,I64 (H:Int)]) (Jc H42 rfl rfl rfl rfl) ?_ rfl rfl rfl
 refine Jb (u:=.junk) (Hu (u:=.agg [.vec 6609000001 ss.length 1 ss.length,I64 (H:Int)]) (ds:=[.vec 6609000001 ss.length 1 ss.length,I64 (H:Int)]) szY rfl rfl rfl rfl rfl rfl rfl rfl) ?_ rfl rfl
 refine G0 (u:=I64 0) (G5 rfl rfl) ?_ rfl rfl rfl
 refine G6 ?_
 refine h5 _ _ ?_
 refine Je8 (VI:=6609000001) (PI:=6609000002) (p:=ss.length) (b:=b) (H:=H) (ss:=(Hn ss H m).1) (vals:=vals2) [(4,.ptr 4100000004 0),(5,I64 0)] [(4100000004,.box 25 [.vec 6609000001 ss.length 1 ss.length,I64 (H:Int)]),(6609000001,.vec 22 1 ss.length (outs b H (Hn ss H m).1))] rfl
  ⟨⟨.same rfl,.same rfl,trivial⟩,⟨⟨_,rfl,.boxEq rfl rfl⟩,⟨_,rfl,.vec⟩,trivial⟩,rfl⟩ rfl rfl h2 (by simp only [maxLen]; omega) ?_
 refine J84 4100000004 0 (ss.length+1) rfl rfl rfl (Nat.lt_succ_self _) (cs':=[LS 1 (LS 1 I64) (Hn ss H m).1,I64 (H:Int)]) rfl ?_
 refine H0 ?_
 exact⟨[.agg [LS 1 (LS 1 I64) (Hn ss H m).1,I64 (H:Int)],I64 0],[],trivial,rfl,⟨⟨_,⟨_,_,_,_,rfl,rfl,rfl,.inl ⟨H42,rfl⟩⟩,.conv (.same rfl)⟩,⟨_,rfl,.conv (.same rfl)⟩,trivial⟩,rfl,rfl⟩
def J3e:=PLift.up J3f
def G00 (H:Nat):List (List Int)→Nat→List G2→List (List Int)×Int×Int
 | ss,_,[]=>(ss,0,0)
 | ss,i,m::r=>if (Hn ss H m).2=0 then G00 H (Hn ss H m).1 (i+1) r else (ss,(i:Int),(Hn ss H m).2)
def G9c (y:Gh) (l:List G2):Option (Gh×Int×Int):=
 bnd (G05 y) fun r=>bif (!r) then some (⟨[],0⟩,0,2) else bif decide (10000 < (l.length:Int)) then some (⟨[],0⟩,0,5) else need (YOk y) <|
  some (if (G00 y.Height.toNat y.Stacks 0 l).2.2=0 then ⟨(G00 y.Height.toNat y.Stacks 0 l).1,y.Height⟩ else ⟨[],0⟩,(G00 y.Height.toNat y.Stacks 0 l).2)
theorem Q26 {ss:List (List Int)} {H:Nat} {m:G2}:(Hn ss H m).1.length=ss.length:=by
 unfold Hn
 split
 ·rfl
 ·split
  ·rfl
  ·split
   ·rfl
   ·split
    ·rfl
    ·simp
theorem J59 (y:Gh) (l:List G2) (r:Gh×Int×Int) (h:G9c y l=some r):Pure Tryz.prog 54 [.agg [LS 1 (LS 1 I64) y.Stacks,I64 y.Height],LS 2 G2.av l] (·=.tup [.agg [LS 1 (LS 1 I64) r.1.Stacks,I64 r.1.Height],I64 r.2.1,I64 r.2.2]):=by
 unfold G9c at h
 refine Hj [.cell 4 25,.tmp 5,.tmp 6] Tryz.func54 rfl rfl ?_
 refine G4 (fun K1 b0=>?_)
 refine G1 ?_
 refine G0 (u:=.ptr 5500000002 0) (Qw (u:=.agg [LS 1 (LS 1 I64) y.Stacks,I64 y.Height]) (cs:=[LS 1 (LS 1 I64) y.Stacks,I64 y.Height]) 5500000002 rfl rfl rfl rfl rfl) ?_ rfl rfl rfl
 refine G0 (u:=.ptr 5500000004 0) (Ji 5500000004 2 Jaa rfl rfl) ?_ rfl rfl rfl
 refine G0 (u:=I64 0) (G5 rfl rfl) ?_ rfl rfl rfl
 refine G0 (u:=I64 0) (G5 rfl rfl) ?_ rfl rfl rfl
 refine G6 ?_
 refine b0 _ _ ?_
 refine G4 (fun K2 b1=>?_)
 refine Gf ?_
 refine G4 (fun K3 b2=>?_)
 refine G1 ?_
 refine G0 (u:=.agg [LS 1 (LS 1 I64) y.Stacks,I64 y.Height]) (Jc H42 rfl rfl rfl rfl) ?_ rfl rfl rfl
 obtain⟨r4,b3,h⟩:=Gd h
 refine G0 (u:=BL r4) (Gu (args:=[.agg [LS 1 (LS 1 I64) y.Stacks,I64 y.Height]]) rfl (G78 y r4 b3) R5d ⟨rfl,rfl,trivial⟩) ?_ rfl rfl rfl
 refine G0 (u:=BL (!r4)) (Y4 (b:=r4) rfl rfl) ?_ rfl rfl rfl
 refine G0 (u:=BL (!r4)) (G5 rfl rfl) ?_ rfl rfl rfl
 refine G6 ?_
 refine b2 _ _ ?_
 refine Gi rfl (fun hb=>?_) (fun hb=>?_)
 ·replace h:=H6 hb h
  refine G4 (fun K4 h4=>?_)
  refine G1 ?_
  refine G0 (u:=.agg [LS 1 (LS 1 I64) ([]:List (List Int)),I64 0]) (Jf (cs:=[LS 1 (LS 1 I64) ([]:List (List Int)),I64 0]) [(0,1),(1,1)] [LS 1 (LS 1 I64) ([]:List (List Int)),I64 0] [.slice none 0 0,.int .i64 0] plY Hde ⟨.inr ⟨_,rfl,rfl⟩,.inl rfl,trivial⟩ rfl rfl) ?_ rfl rfl rfl
  refine Jb (u:=.junk) (Hu (u:=.agg [LS 1 (LS 1 I64) ([]:List (List Int)),I64 0]) (ds:=[LS 1 (LS 1 I64) ([]:List (List Int)),I64 0]) szY rfl rfl rfl rfl rfl rfl rfl rfl) ?_ rfl rfl
  refine G0 (u:=I64 0) (G5 rfl rfl) ?_ rfl rfl rfl
  refine G0 (u:=I64 2) (G5 rfl rfl) ?_ rfl rfl rfl
  refine G6 ?_
  refine h4 _ _ ?_
  refine H0 ?_
  obtain rfl:=Ez h
  exact⟨[.agg [LS 1 (LS 1 I64) ([]:List (List Int)),I64 0],I64 0,I64 2],[],trivial,rfl,⟨⟨_,⟨_,_,_,_,rfl,rfl,rfl,.inl ⟨H42,rfl⟩⟩,.conv (.same rfl)⟩,⟨_,rfl,.conv (.same rfl)⟩,⟨_,rfl,.conv (.same rfl)⟩,trivial⟩,rfl,rfl⟩
 replace h:=Hv hb h
 refine G4 (fun K5 b4=>?_)
 refine G1 ?_
 refine G0 (u:=LS 2 G2.av l) (G3 rfl rfl) ?_ rfl rfl rfl
 refine G0 (u:=I64 (l.length:Int)) (Re (f:=G2.av) (xs:=l) slM rfl rfl) ?_ rfl rfl rfl
 refine G0 (u:=BL (decide (10000 < (l.length:Int)))) (G08 rfl rfl rfl) ?_ rfl rfl rfl
 refine G0 (u:=BL (decide (10000 < (l.length:Int)))) (G5 rfl rfl) ?_ rfl rfl rfl
 refine G6 ?_
 refine b4 _ _ ?_
 refine Gi rfl (fun hb=>?_) (fun hb=>?_)
 ·replace h:=H6 hb h
  refine G4 (fun K4 h4=>?_)
  refine G1 ?_
  refine G0 (u:=.agg [LS 1 (LS 1 I64) ([]:List (List Int)),I64 0]) (Jf (cs:=[LS 1 (LS 1 I64) ([]:List (List Int)),I64 0]) [(0,1),(1,1)] [LS 1 (LS 1 I64) ([]:List (List Int)),I64 0] [.slice none 0 0,.int .i64 0] plY Hde ⟨.inr ⟨_,rfl,rfl⟩,.inl rfl,trivial⟩ rfl rfl) ?_ rfl rfl rfl
  refine Jb (u:=.junk) (Hu (u:=.agg [LS 1 (LS 1 I64) ([]:List (List Int)),I64 0]) (ds:=[LS 1 (LS 1 I64) ([]:List (List Int)),I64 0]) szY rfl rfl rfl rfl rfl rfl rfl rfl) ?_ rfl rfl
  refine G0 (u:=I64 0) (G5 rfl rfl) ?_ rfl rfl rfl
  refine G0 (u:=I64 5) (G5 rfl rfl) ?_ rfl rfl rfl
  refine G6 ?_
  refine h4 _ _ ?_
  refine H0 ?_
  obtain rfl:=Ez h
  exact⟨[.agg [LS 1 (LS 1 I64) ([]:List (List Int)),I64 0],I64 0,I64 5],[],trivial,rfl,⟨⟨_,⟨_,_,_,_,rfl,rfl,rfl,.inl ⟨H42,rfl⟩⟩,.conv (.same rfl)⟩,⟨_,rfl,.conv (.same rfl)⟩,⟨_,rfl,.conv (.same rfl)⟩,trivial⟩,rfl,rfl⟩
 have hl:l.length≤10000:=by have:=Eu hb; omega
 replace h:=Hv hb h
 obtain⟨b5,h⟩:=Ho h
 obtain⟨H,hH,h1,h6,h9,hs⟩:=YOk.out b5
 obtain⟨ss,yh⟩:=y
 dsimp only at hH h9 hs h ⊢
 subst hH
 rw [Int.toNat_natCast] at h
 obtain rfl:=Ez h
 clear h
 refine Gk ?_
 refine b1 _ _ ?_
 refine G4 (fun K6 b6=>?_)
 refine G1 ?_
 refine G0 (u:=.agg [LS 1 (LS 1 I64) ss,I64 (H:Int)]) (Jc H42 rfl rfl rfl rfl) ?_ rfl rfl rfl
 refine G7c rfl rfl rfl (G80 (args:=[.agg [LS 1 (LS 1 I64) ss,I64 (H:Int)]]) (L0:=[]) rfl (J34 ss H h1 h6 h9 hs) R5e ⟨.inl rfl,rfl,trivial⟩ trivial rfl (fun _=>rfl)) ?_
 rintro u_ L_ ⟨⟨⟨b,vals⟩,a1⟩,rfl,rfl⟩
 refine G0 (u:=.ptr 5500000007 0) (Ji 5500000007 2 Jaa rfl rfl) ?_ rfl rfl rfl
 refine Jb (u:=.junk) (Hu (u:=.agg [.vec 6609000001 ss.length 1 ss.length,I64 (H:Int)]) (ds:=[.vec 6609000001 ss.length 1 ss.length,I64 (H:Int)]) szY rfl rfl rfl rfl rfl rfl rfl rfl) ?_ rfl rfl
 refine G6 ?_
 refine b6 _ _ ?_
 refine G4 (fun K7 b7=>?_)
 refine G4 (fun K8 b8=>?_)
 refine G1 ?_
 refine G0 (u:=LS 2 G2.av l) (G3 rfl rfl) ?_ rfl rfl rfl
 refine G0 (u:=I64 (l.length:Int)) (Re (f:=G2.av) (xs:=l) slM rfl rfl) ?_ rfl rfl rfl
 refine G0 (u:=I64 0) (G3 rfl rfl) ?_ rfl rfl rfl
 refine G6 ?_
 refine b8 _ _ ?_
 refine Gf ?_
 refine Hbb (X:=Nat×List (List Int)×List Int) (fun q=>q.1≤l.length∧q.2.1.length=ss.length∧Seg ss.length H q.2.1 q.2.2∧G00 H ss 0 l=G00 H q.2.1 q.1 (l.drop q.1))
  (fun q=>[(1,LS 2 G2.av l),(4,.ptr 5500000004 0),(7,.ptr 5500000007 0),(23,LS 2 G2.av l),(24,I64 (l.length:Int)),(25,I64 (q.1:Int))])
  (fun q=>[(5500000004,.box 25 [.junk,.junk]),(5500000007,.box 25 [.vec 6609000001 ss.length 1 ss.length,I64 (H:Int)]),(6609000001,.vec 22 1 ss.length (outs b H q.2.1)),(6609000002,.pin 3 b (q.2.2.map I64))])
  (fun q=>l.length - q.1) (0,ss,vals) ⟨Nat.zero_le _,rfl,a1,rfl⟩
  ⟨⟨.same rfl,.same rfl,.same rfl,.same rfl,.same rfl,.same rfl,trivial⟩,⟨⟨_,rfl,.boxEq rfl rfl⟩,⟨_,rfl,.boxEq rfl rfl⟩,⟨_,rfl,.vec⟩,⟨_,rfl,.pin⟩,trivial⟩,rfl⟩ ?_
 rintro⟨i,s1,vals1⟩ ⟨hi,h5,h0,hP⟩ K9 e9
 dsimp only at hi h5 h0 hP e9 ⊢
 rw [hP]
 refine G4 (fun K10 a2=>?_)
 refine G1 ?_
 refine G0 (u:=BL (decide ((i:Int) < (l.length:Int)))) (J2 rfl rfl rfl) ?_ rfl rfl rfl
 refine G6 ?_
 refine a2 _ _ ?_
 refine G4 (fun K11 a3=>?_)
 refine Gi rfl (fun hb=>?_) (fun hb=>?_)
 ·have h2:i < l.length:=by have:=Es hb; omega
  obtain⟨m,hm⟩:∃ m,l[i]? = some m:=⟨_,Ey h2⟩
  have h3:l.drop i=m::l.drop (i+1):=by
   rw [List.drop_eq_getElem_cons h2]
   rw [Ey h2] at hm
   rw [Ez hm]
  refine Gk ?_
  refine a3 _ _ ?_
  refine G4 (fun K12 a4=>?_)
  refine Gf ?_
  refine G4 (fun K13 a5=>?_)
  refine G1 ?_
  refine G0 (u:=I64 (i:Int)) (G3 rfl rfl) ?_ rfl rfl rfl
  refine G0 (u:=.dptr (G2.cs m)) (Gz (f:=G2.av) (xs:=l) (y:=m) rfl rfl rfl slM hm rfl) ?_ rfl rfl rfl
  refine G0 (u:=.agg [I64 m.From,I64 m.To]) (Gt R87 rfl rfl rfl) ?_ rfl rfl rfl
  refine G0 (u:=.ptr 5500000009 0) (Ji 5500000009 2 zszM rfl rfl) ?_ rfl rfl rfl
  refine G0 (u:=I64 (i:Int)) (G5 rfl rfl) ?_ rfl rfl rfl
  refine Jb (u:=.junk) (Hu (u:=.agg [I64 m.From,I64 m.To]) (ds:=[I64 m.From,I64 m.To]) szM rfl rfl rfl rfl rfl rfl rfl rfl) ?_ rfl rfl
  refine G6 ?_
  refine a5 _ _ ?_
  refine G4 (fun K14 a6=>?_)
  refine G1 ?_
  refine G0 (u:=.agg [.vec 6609000001 ss.length 1 ss.length,I64 (H:Int)]) (Jc H42 rfl rfl rfl rfl) ?_ rfl rfl rfl
  refine G0 (u:=.agg [I64 m.From,I64 m.To]) (Jc R87 rfl rfl rfl rfl) ?_ rfl rfl rfl
  have h7:=J66 s1 b ss.length vals1 m h0 (by omega) h1 h6
  rw [h5] at h7
  refine G7c rfl rfl rfl (G80 (args:=[.agg [.vec 6609000001 ss.length 1 ss.length,I64 (H:Int)],.agg [I64 m.From,I64 m.To]]) (L0:=[(6609000001,.vec 22 1 ss.length (outs b H s1)),(6609000002,.pin 3 b (vals1.map I64))]) rfl h7 R5c ⟨.inl rfl,rfl,.inl rfl,rfl,trivial⟩ ⟨rfl,rfl,trivial⟩ rfl (fun _=>rfl)) ?_
  rintro u_ L_ ⟨⟨vals2,h8⟩,rfl,rfl⟩
  refine G0 (u:=I64 (Hn s1 H m).2) (G5 rfl rfl) ?_ rfl rfl rfl
  refine G6 ?_
  refine a6 _ _ ?_
  refine G4 (fun K15 a7=>?_)
  refine G1 ?_
  refine G0 (u:=I64 (Hn s1 H m).2) (G3 rfl rfl) ?_ rfl rfl rfl
  refine G0 (u:=BL (decide ((Hn s1 H m).2≠0))) (G1c rfl rfl rfl) ?_ rfl rfl rfl
  refine G6 ?_
  refine a7 _ _ ?_
  refine Gi rfl (fun hb=>?_) (fun hb=>?_)
  ·have a0:(Hn s1 H m).2≠0:=Es hb
   have hR:G00 H s1 i (l.drop i)=(s1,(i:Int),(Hn s1 H m).2):=by rw [h3,G00,if_neg a0]
   rw [hR]
   dsimp only
   rw [if_neg a0]
   refine G4 (fun K16 a8=>?_)
   refine G1 ?_
   refine G0 (u:=.agg [LS 1 (LS 1 I64) ([]:List (List Int)),I64 0]) (Jf (cs:=[LS 1 (LS 1 I64) ([]:List (List Int)),I64 0]) [(0,1),(1,1)] [LS 1 (LS 1 I64) ([]:List (List Int)),I64 0] [.slice none 0 0,.int .i64 0] plY Hde ⟨.inr ⟨_,rfl,rfl⟩,.inl rfl,trivial⟩ rfl rfl) ?_ rfl rfl rfl
   refine G0 (u:=I64 (i:Int)) (G3 rfl rfl) ?_ rfl rfl rfl
   refine G0 (u:=I64 (Hn s1 H m).2) (G3 rfl rfl) ?_ rfl rfl rfl
   refine Jb (u:=.junk) (Hu (u:=.agg [LS 1 (LS 1 I64) ([]:List (List Int)),I64 0]) (ds:=[LS 1 (LS 1 I64) ([]:List (List Int)),I64 0]) szY rfl rfl rfl rfl rfl rfl rfl rfl) ?_ rfl rfl
   refine G0 (u:=I64 (i:Int)) (G5 rfl rfl) ?_ rfl rfl rfl
   refine G0 (u:=I64 (Hn s1 H m).2) (G5 rfl rfl) ?_ rfl rfl rfl
   refine G6 ?_
   refine a8 _ _ ?_
   refine H0 ?_
   exact⟨[.agg [LS 1 (LS 1 I64) ([]:List (List Int)),I64 0],I64 (i:Int),I64 (Hn s1 H m).2],[],trivial,rfl,⟨⟨_,⟨_,_,_,_,rfl,rfl,rfl,.inl ⟨H42,rfl⟩⟩,.conv (.same rfl)⟩,⟨_,rfl,.conv (.same rfl)⟩,⟨_,rfl,.conv (.same rfl)⟩,trivial⟩,rfl,rfl⟩
  have b9:(Hn s1 H m).2=0:=by have:=Eu hb; omega
  have hR:G00 H s1 i (l.drop i)=G00 H (Hn s1 H m).1 (i+1) (l.drop (i+1)):=by rw [h3,G00,if_pos b9]
  refine Gk ?_
  refine a4 _ _ ?_
  refine G1 ?_
  refine G0 (u:=I64 ((i+1:Nat):Int)) (Hz (by rw [show ((i:Int)+1)=((i+1:Nat):Int) by omega]; exact G1d (by omega) (by omega)) rfl rfl rfl) ?_ rfl rfl rfl
  refine G0 (u:=I64 ((i+1:Nat):Int)) (G3 rfl rfl) ?_ rfl rfl rfl
  refine G6 ?_
  rw [hP] at e9
  exact e9 _ _ (i+1,(Hn s1 H m).1,vals2) ⟨h2,Q26.trans h5,h8,hR⟩ (by show l.length - (i+1) < l.length - i; omega) ⟨⟨.same rfl,.same rfl,.same rfl,.same rfl,.same rfl,.same rfl,trivial⟩,⟨⟨_,rfl,.boxEq rfl rfl⟩,⟨_,rfl,.boxEq rfl rfl⟩,⟨_,rfl,.vec⟩,⟨_,rfl,.pin⟩,trivial⟩,rfl⟩
 ·have he:i=l.length:=by have:=Eu hb; omega
  have hR:G00 H s1 i (l.drop i)=(s1,0,0):=by rw [he,List.drop_length]; rfl
  refine Hd ?_
  refine b7 _ _ ?_
  rw [hP.trans hR]
  refine G4 (fun K17 a9=>?_)
  refine G1 ?_
  refine G0 (u:=.agg [.vec 6609000001 ss.length 1 ss.length,I64 (H:Int)]) (Jc H42 rfl rfl rfl rfl) ?_ rfl rfl rfl
  refine Jb (u:=.junk) (Hu (u:=.agg [.vec 6609000001 ss.length 1 ss.length,I64 (H:Int)]) (ds:=[.vec 6609000001 ss.length 1 ss.length,I64 (H:Int)]) szY rfl rfl rfl rfl rfl rfl rfl rfl) ?_ rfl rfl
  refine G0 (u:=I64 0) (G5 rfl rfl) ?_ rfl rfl rfl
  refine G0 (u:=I64 0) (G5 rfl rfl) ?_ rfl rfl rfl
  refine G6 ?_
  refine a9 _ _ ?_
  refine Je8 (VI:=6609000001) (PI:=6609000002) (p:=ss.length) (b:=b) (H:=H) (ss:=s1) (vals:=vals1) [(4,.ptr 5500000004 0),(5,I64 0),(6,I64 0)] [(5500000004,.box 25 [.vec 6609000001 ss.length 1 ss.length,I64 (H:Int)]),(6609000001,.vec 22 1 ss.length (outs b H s1))] rfl
   ⟨⟨.same rfl,.same rfl,.same rfl,trivial⟩,⟨⟨_,rfl,.boxEq rfl rfl⟩,⟨_,rfl,.vec⟩,trivial⟩,rfl⟩ rfl rfl h0 (by simp only [maxLen]; omega) ?_
  refine J84 5500000004 0 (ss.length+1) rfl rfl rfl (Nat.lt_succ_self _) (cs':=[LS 1 (LS 1 I64) s1,I64 (H:Int)]) rfl ?_
  refine H0 ?_
  exact⟨[.agg [LS 1 (LS 1 I64) s1,I64 (H:Int)],I64 0,I64 0],[],trivial,rfl,⟨⟨_,⟨_,_,_,_,rfl,rfl,rfl,.inl ⟨H42,rfl⟩⟩,.conv (.same rfl)⟩,⟨_,rfl,.conv (.same rfl)⟩,⟨_,rfl,.conv (.same rfl)⟩,trivial⟩,rfl,rfl⟩
def J58:=PLift.up J59
end Go.Proofs.YtokjlondbjdlfaaGreat
