/- Walks of functions. -/
import Derived.Test.YtgcpimpnpcdmmaaGreatXVa
set_option maxRecDepth 100000
set_option maxHeartbeats 1000000
set_option linter.unusedVariables false
set_option linter.unusedSimpArgs false
namespace Go.Proofs.YtgcpimpnpcdmmaaGreat
open Go.RowKit
noncomputable section
open XAF
open XCF
open XSF
open XKF
open XTF
open XUF
open XVF

def Gbb (l:List G1) (id_:Int):Option (Slot×Bool):=
 bnd (Qd l (fun z0=>Ge2 z0 id_)) fun a=>
 bif decide (a < 0) then
 (some ((Slot.mk 0 0 0),false))
 else
 (Qm l a fun b=>
  some (b.Slot,true))
theorem He6 (l:List G1) (id_:Int) (r:Slot×Bool) (h:Gbb l id_=some r):Pure En 69 [E1 l,I64 id_] (·=.tup [.agg (Slot.cs r.1),BL r.2]):=by
 unfold Gbb at h
 refine Gz [.cell 4 57,.tmp 5] Tryz.func69 O O (Jr fun c=>(JLh (.ptr 1140 0) (Q6 (cs:=[I64 id_]) 1140 O O O O O) O (JLh (.ptr 1141 0) (G10 1141 [I64 0,I64 0,U8 0] [E0,E0,.int .u8 0] Ge8 (zzQ O) O O) O (JLm (BL false) O (G6 (c (Gr [(0,E1 l),(3,.dptr [I64 id_]),(4,.ptr 1141 0)] [(1141,.box 57 [I64 0,I64 0,U8 0])] 1140 rfl rfl rfl ⟨⟨_,rfl,.boxEq rfl rfl⟩,ø⟩ rfl (by exact⟨.conv (.same rfl),.ptr,.conv (.same rfl),ø⟩) (Jr fun d=>(JLm (E1 l) O (JLh (.fn 118 [.dptr [I64 id_]]) (Q4 (cs:=[.dptr [I64 id_]]) O O) O ?_))))))))))
 obtain⟨b,e,h⟩:=Gd h
 refine JLh (I64 b) (Gu O (G6b l (fun z0=>Ge2 z0 id_) 118 [.dptr [I64 id_]] Rb6 O (fun z0 q hq=>Q81 z0 id_ q hq) b e) Qb5 ⟨O,O,O,O,ø⟩) O (JLm (I64 b) O (G6 (d (Js fun g=>Jr fun i=>(JLm (I64 b) O (JLh (BL (decide (b < 0))) (Jn O O O) O (G6 (i (JCc O h (fun h hb=>?_) (fun h hb=>?_))))))))))
 ·
  refine Jr fun j=>(JLh (.agg [I64 0,I64 0,U8 0]) (Hi (cs:=[I64 0,I64 0,U8 0]) [(0,1),(1,1),(2,1)] [I64 0,I64 0,U8 0] [E0,E0,.int .u8 0] H0b Ge8 (zzQ O) O O) O (Hq (u:=.junk) (H7 (u:=.agg [I64 0,I64 0,U8 0]) (ds:=[I64 0,I64 0,U8 0]) Yq O O O O O O O O) (JLm (BL false) O (G6 (j (Gs (⟨[.agg [I64 0,I64 0,U8 0],BL false],[],ø,O,⟨⟨_,⟨_,_,_,_,O,O,O,.inl ⟨J4,O⟩⟩,.conv (.same O)⟩,⟨_,O,.conv (.same O)⟩,ø⟩,O,congrArg (fun r:Slot×Bool=>(.tup [.agg (Slot.cs r.1),BL r.2]:AV)) (M8 h)⟩)))))))
 ·
  refine Gk (g (Jr fun k=>(JLm (E1 l) O (JLm (I64 b) O ?_))))
  obtain⟨o,a,m,n,h⟩:=Rw h
  refine JLh (Eh a) (Hb (f:=G1.av) (xs:=l) (y:=a) O O O H5 n m) O (JLh (.dptr ((G1.cs a).drop 1)) (Ga Jt O O O) O (JLh (.agg ((G1.cs a).drop 1)) (Gm J4 O O O) O (Hq (u:=.junk) (H7 (u:=.agg ((G1.cs a).drop 1)) (ds:=[I64 a.Slot.G3,I64 a.Slot.Tier,U8 a.Slot.Half]) Yq O O O O O O O O) (JLm (BL true) O (G6 (k (Gs (⟨[.agg ((G1.cs a).drop 1),BL true],[],ø,O,⟨⟨_,⟨_,_,_,_,O,O,O,.inl ⟨J4,O⟩⟩,.conv (.same O)⟩,⟨_,O,.conv (.same O)⟩,ø⟩,O,congrArg (fun r:Slot×Bool=>(.tup [.agg (Slot.cs r.1),BL r.2]:AV)) (M8 h)⟩))))))))

def G39 (m:Ha Int Unit) (k:Int):Option (Bool×(Ha Int Unit)):=
 bif (Ha.has m k) then
 (some (false,m))
 else
 (some (true,(Ha.put m k ())))
theorem H67 (m:Ha Int Unit) (k:Int) (r:Bool×(Ha Int Unit)) (h:G39 m k=some r):Hx En 68 [.mp 1067,I64 k] [(1067,MP 140 Ks (fun _:Unit=>.agg []) m)] (fun av L'=>av=BL r.1∧L'=[(1067,MP 140 Ks (fun _:Unit=>.agg []) r.2)]):=by
 unfold G39 at h
 refine Ji [1067] [.tmp 4] Tryz.func68 O O (G0c O) (Jr fun b=>(JLm (BL false) O (G6 (b (Js fun c=>Jr fun d=>(JLm (.mp 1067) O (JLm (I64 k) O (JLh (.tup [.agg [],BL (Ha.has m k)]) (R12 (av:=(fun _:Unit=>.agg [])) (m:=m) (a:=k) () (.agg #[]) O O O O J92 Q95 Yb2 O) O (JLm (.tup [.agg [],BL (Ha.has m k)]) O (JLh (.agg []) (Gv O O O) O (JLh (BL (Ha.has m k)) (Gv O O O) O (JLh (.ptr 1139 0) (Hj 1139 0 R60 O O) O (Hq (u:=.junk) (Z32 (u:=.agg []) R9f O O O O O O) (JLm (BL (Ha.has m k)) O (G6 (d ?_))))))))))))))))
 refine Gr [(0,.mp 1067),(1,I64 k),(6,BL (Ha.has m k))] [(1067,MP 140 Ks (fun _:Unit=>.agg []) m)] 1139 rfl rfl rfl ⟨fmQ O,ø⟩ rfl (by exact⟨.conv (.same rfl),.conv (.same rfl),.conv (.same rfl),ø⟩) (Jr fun e=>(JLm (BL (Ha.has m k)) O (G6 (e (JCc O h (fun h hb=>?_) (fun h hb=>?_))))))
 ·
  refine Jr fun f=>(JLm (BL false) O (G6 (f (Gs ?_))))
  obtain rfl:=M8 h
  exact⟨[BL false],[(1067,MP 140 Ks (fun _:Unit=>.agg []) m)],⟨⟨_,O,.map⟩,ø⟩,O,⟨⟨_,O,.conv (.same O)⟩,ø⟩,O,O⟩
 ·
  refine Gk (c (Jr fun g=>(JLm (.mp 1067) O (JLm (I64 k) O (JLh (.agg []) (Hi (cs:=[]) [] [] [] R18 R9b ø O O) O (Hq (u:=.junk) (J2e (m:=m) (a:=k) (v:=()) O O O O O O J92 Q95) (G6 (g (Jr fun i=>(JLm (BL true) O (G6 (i (Gs ?_)))))))))))))
  obtain rfl:=M8 h
  exact⟨[BL true],[(1067,MP 140 Ks (fun _:Unit=>.agg []) (Ha.put m k ()))],⟨⟨_,O,.map⟩,ø⟩,O,⟨⟨_,O,.conv (.same O)⟩,ø⟩,O,O⟩

def G1e (self_:Int→(Ha Int Unit)→(List Int)→(List (List G1))→Gj→Option ((Ha Int Unit)×(List Int))) (F:Nat) (id_:Int) (p1:Ha Int Unit) (p:List Int) (q:List (List G1)) (i:Gj):Option ((Ha Int Unit)×(List Int)):=
 bnd (G39 p1 id_) fun w=>
 bif (!w.1) then
 (some (w.2,p))
 else
 (need (decide ((p.length+[id_].length)*8≤140737488355328∧p.length+[id_].length≤maxLen)) <|
  each (fun y7 i7 (d:(Ha Int Unit)×(List Int)) a1=>
   jp (fun j=>
    bnd (Gbb y7 id_) fun f=>
    bif (!f.2) then
    (j (d.1,d.2))
    else
    (jp (fun k=>
      Qm i.Columns f.1.G3 fun a2=>
      bif (!a2.Deck) then
      (bnd (Rh i f.1.G3) fun a3=>
       k a3)
      else
      (k (-1))) fun(g:Int)=>
     each (fun s a8 (b:(Ha Int Unit)×(List Int)) x=>
      jp (fun l=>
       bnd (H01 s.Slot f.1) fun a4=>
       bif a4 then
       (bnd (self_ s.Box b.1 b.2 q i) fun t=>
        l (t.1,t.2))
       else
       (l (b.1,b.2))) fun(u:(Ha Int Unit)×(List Int))=>
      x (u.1,u.2))
     (fun(b:(Ha Int Unit)×(List Int))=>
      each (fun a5 a9 (c:(Ha Int Unit)×(List Int)) y=>
       each (fun e a7 (a:(Ha Int Unit)×(List Int)) r=>
        jp (fun h=>
         bnd (bif decide (0≤g) then Qm i.Columns e.Slot.G3 some else some default) fun m=>
         bnd (bif ((decide (0≤g))&&m.Deck) then Rh i e.Slot.G3 else some default) fun z=>
         bif (((decide (0≤g))&&m.Deck)&&(decide (z=g))) then
         (bnd (self_ e.Box a.1 a.2 q i) fun n=>
          h (n.1,n.2))
         else
         (h (a.1,a.2))) fun(o:(Ha Int Unit)×(List Int))=>
        r (o.1,o.2))
       (fun(a:(Ha Int Unit)×(List Int))=>
        y (a.1,a.2)) a5 0 (c.1,c.2))
      (fun(c:(Ha Int Unit)×(List Int))=>
       j (c.1,c.2)) q 0 (b.1,b.2)) y7 0 (d.1,d.2))) fun(v:(Ha Int Unit)×(List Int))=>
   a1 (v.1,v.2))
  (fun(d:(Ha Int Unit)×(List Int))=>
   some (d.1,d.2)) q 0 (w.2,(p++[id_])))
def Yf:Nat→Int→(Ha Int Unit)→(List Int)→(List (List G1))→Gj→Option ((Ha Int Unit)×(List Int))
 | 0,_,_,_,_,_=>none
 | F+1,id_,a,b,c,d=>G1e (Yf F) F id_ a b c d
abbrev Kg (a:List (List G1)) (b:Gj):List AV:=[.ptr 1061 0,.ptr 1062 0,.dptr [LS 1 (E1) a],Ee b,.ptr 1063 0]
theorem Q0b (self_:Int→(Ha Int Unit)→(List Int)→(List (List G1))→Gj→Option ((Ha Int Unit)×(List Int))) (self_w:∀ (id_:Int) (p1:Ha Int Unit) (m:List Int) (a:List (List G1)) (c:Gj) (r:(Ha Int Unit)×(List Int)),self_ id_ p1 m a c=some r→Hx En 67 [I64 id_,.ptr 1061 0,.ptr 1062 0,.dptr [LS 1 (E1) a],Ee c,.ptr 1063 0] [(1061,.box 140 [.mp 1067]),(1067,MP 140 Ks (fun _:Unit=>.agg []) p1),(1062,.box 49 [.vec 1068 m.length 1 m.length]),(1068,.vec 3 1 m.length (m.map I64)),(1063,.box 141 [.fn 67 [.ptr 1061 0,.ptr 1062 0,.dptr [LS 1 (E1) a],Ee c,.ptr 1063 0]])] (fun av L'=>av=.tup []∧L'=[(1061,.box 140 [.mp 1067]),(1067,MP 140 Ks (fun _:Unit=>.agg []) r.1),(1062,.box 49 [.vec 1068 r.2.length 1 r.2.length]),(1068,.vec 3 1 r.2.length (r.2.map I64)),(1063,.box 141 [.fn 67 [.ptr 1061 0,.ptr 1062 0,.dptr [LS 1 (E1) a],Ee c,.ptr 1063 0]])])) (F:Nat) (id_:Int) (p1:Ha Int Unit) (m:List Int) (a:List (List G1)) (c:Gj) (r:(Ha Int Unit)×(List Int)) (h:G1e self_ F id_ p1 m a c=some r):Hx En 67 [I64 id_,.ptr 1061 0,.ptr 1062 0,.dptr [LS 1 (E1) a],Ee c,.ptr 1063 0] [(1061,.box 140 [.mp 1067]),(1067,MP 140 Ks (fun _:Unit=>.agg []) p1),(1062,.box 49 [.vec 1068 m.length 1 m.length]),(1068,.vec 3 1 m.length (m.map I64)),(1063,.box 141 [.fn 67 [.ptr 1061 0,.ptr 1062 0,.dptr [LS 1 (E1) a],Ee c,.ptr 1063 0]])] (fun av L'=>av=.tup []∧L'=[(1061,.box 140 [.mp 1067]),(1067,MP 140 Ks (fun _:Unit=>.agg []) r.1),(1062,.box 49 [.vec 1068 r.2.length 1 r.2.length]),(1068,.vec 3 1 r.2.length (r.2.map I64)),(1063,.box 141 [.fn 67 [.ptr 1061 0,.ptr 1062 0,.dptr [LS 1 (E1) a],Ee c,.ptr 1063 0]])]):=by
 unfold G1e at h
 refine Ji [1061,1067,1062,1068,1063] [] Tryz.func67 O O (G0c O) (Js fun i0=>Jr fun i1=>(JLh (.mp 1067) (J2 R17 O O O O) O (JLm (I64 id_) O ?_)))
 obtain⟨r3,i2,h⟩:=Gd h
 refine JLh (BL r3.1) (Y1 (args:=[.mp 1067,I64 id_]) (L0:=[(1067,MP 140 Ks (fun _:Unit=>.agg []) p1)]) (Lr:=[(1067,MP 140 Ks (fun _:Unit=>.agg []) r3.2)]) O (H67 p1 id_ r3 i2) Y24 ⟨.inl O,O,.inl O,O,ø⟩ ⟨O,ø⟩ O O O) O (JLh (BL (!r3.1)) (Yc (b:=r3.1) O O) O (G6 (i1 (JCc O h (fun h hb=>?_) (fun h hb=>?_)))))
 ·
  refine Gs ?_
  obtain rfl:=M8 h
  exact⟨[],[(1061,.box 140 [.mp 1067]),(1067,MP 140 Ks (fun _:Unit=>.agg []) r3.2),(1062,.box 49 [.vec 1068 m.length 1 m.length]),(1068,.vec 3 1 m.length (m.map I64)),(1063,.box 141 [.fn 67 (Kg a c)])],⟨⟨_,O,.boxL O ⟨.same O,ø⟩⟩,⟨_,O,.map⟩,⟨_,O,.boxL O ⟨.same O,ø⟩⟩,⟨_,O,.vec⟩,⟨_,O,.boxL O ⟨.same O,ø⟩⟩,ø⟩,O,ø,O,O⟩
 ·
  refine Gk (i0 (Jr fun i3=>(JLh (.vec 1068 m.length 1 m.length) (J2 Rv O O O O) O (JLm (I64 id_) O (JLh (E2 [id_]) (He (xs:=[I64 id_]) O ⟨O,O,ø⟩ H3 Y6 O O O O) O ?_)))))
  obtain⟨i4,h⟩:=Jf h
  refine JLh (.vec 1068 ((m++[id_]).length) 1 ((m++[id_]).length)) (G1f (f:=I64) (xs:=m) (ys:=[id_]) (ver:=m.length) (ver1:=(m++[id_]).length) rfl rfl rfl rfl H3 G94 i4 (fun _=>rfl) (.inl rfl) (by simp)) O (Hq (u:=.junk) (H7 (u:=.vec 1068 ((m++[id_]).length) 1 ((m++[id_]).length)) (ds:=[.vec 1068 ((m++[id_]).length) 1 ((m++[id_]).length)]) J09 O O O O O O O O) (G6 (i3 (Jr fun i5=>(JLh (LS 1 (E1) a) (Gg R9 O O O) O (JLl Ju O O O fun d7=>(JLm (I64 0) O (G6 (i5 (Gq ?_))))))))))
  obtain⟨b7,i6,i8,d8,h⟩:=Je h
  refine Hm (fun s (l:(Ha Int Unit)×(List Int))=>each b7 i6 (List.drop s a) s l=some r) (fun s l=>[(0,I64 id_),(3,.dptr [LS 1 (E1) a]),(4,Ee c),(5,.ptr 1063 0),(26,LS 1 (E1) a),(27,Em a.length),(28,Em s)]) (fun s l=>[(1067,MP 140 Ks (fun _:Unit=>.agg []) l.1),(1068,.vec 3 1 l.2.length (l.2.map I64)),(1061,.box 140 [.mp 1067]),(1062,.box 49 [.vec 1068 l.2.length 1 l.2.length]),(1063,.box 141 [.fn 67 (Kg a c)])]) (fun s=>a.length - s) 0 (r3.2,(m++[id_])) h ⟨(.sm O O),⟨fmQ O,⟨_,rfl,.vec⟩,fbQ O ⟨.same rfl,ø⟩,fbQ O ⟨.same rfl,ø⟩,fbQ O ⟨.same rfl,ø⟩,ø⟩,rfl⟩ ?_
  clear h
  intro s l d4 K7 e7
  refine Jr fun i9=>(JLh (BL (decide ((s:Int) < (a.length:Int)))) (Jn O O O) O (G6 (i9 (Js fun j0=>Gp O (fun hb=>?_) (fun hb=>?_)))))
  ·
   have d5:=Jz hb
   obtain⟨w,k3,j1,j2,h⟩:=Hv d4 d5
   replace h:=Zm i8 h
   refine Gk (j0 ?_)
   obtain⟨d9,b6,h⟩:=Rc h
   refine Qk (fun x:(Ha Int Unit)×(List Int)=>d9 x=some r) (fun x=>[(0,I64 id_),(3,.dptr [LS 1 (E1) a]),(4,Ee c),(5,.ptr 1063 0),(26,LS 1 (E1) a),(27,Em a.length),(28,Em s)]) (fun x=>[(1067,MP 140 Ks (fun _:Unit=>.agg []) x.1),(1068,.vec 3 1 x.2.length (x.2.map I64)),(1061,.box 140 [.mp 1067]),(1062,.box 49 [.vec 1068 x.2.length 1 x.2.length]),(1063,.box 141 [.fn 67 (Kg a c)])]) (fun Kj10 ej10=>?_) ?_
   ·
    refine Gq (Jr fun e0=>(JLh (.dptr [E1 w]) (Hb (f:=(E1)) (xs:=a) (y:=w) O O O Ju j1 O) O (JLh (E1 w) (Gg Yj O O O) O (JLm (E1 w) O (G6 (e0 (Jr fun e1=>(JLm (E1 w) O (JLm (I64 id_) O ?_)))))))))
    obtain⟨g,e2,h⟩:=Gd h
    refine JLh (.tup [.agg (Slot.cs g.1),BL g.2]) (Gu O (He6 w id_ g e2) Jb2 ⟨O,O,O,O,ø⟩) O (JLm (.tup [.agg (Slot.cs g.1),BL g.2]) O (JLh (.agg (Slot.cs g.1)) (Gv O O O) O (JLh (BL g.2) (Gv O O O) O (JLh (.ptr 1136 0) (Hj 1136 3 Rr O O) O (Hq (u:=.junk) (H7 (u:=.agg (Slot.cs g.1)) (ds:=[I64 g.1.G3,I64 g.1.Tier,U8 g.1.Half]) Yq O O O O O O O O) (JLm (BL g.2) O (G6 (e1 ?_))))))))
    refine fzQ [(0,I64 id_),(3,.dptr [LS 1 (E1) a]),(4,Ee c),(5,.ptr 1063 0),(8,E1 w),(9,Ek g.1),(10,BL g.2),(26,LS 1 (E1) a),(27,Em a.length),(28,Em s)] [(1067,MP 140 Ks (fun _:Unit=>.agg []) l.1),(1068,.vec 3 1 l.2.length (l.2.map I64)),(1061,.box 140 [.mp 1067]),(1062,.box 49 [.vec 1068 l.2.length 1 l.2.length]),(1063,.box 141 [.fn 67 (Kg a c)])] 1136 rfl rfl rfl ⟨fmQ O,⟨_,rfl,.vec⟩,⟨_,rfl,.boxEq rfl rfl⟩,⟨_,rfl,.boxEq rfl rfl⟩,⟨_,rfl,.boxEq rfl rfl⟩,ø⟩ rfl (Js fun e3=>?_)
    refine Jr fun e4=>(JLm (BL g.2) O (JLh (BL (!g.2)) (Yc (b:=g.2) O O) O (G6 (e4 (JCc O h (fun h hb=>?_) (fun h hb=>?_))))))
    ·
     refine Hr (ej10 _ _ (l.1,l.2) h ⟨(.sm O O),⟨fmQ O,⟨_,rfl,.vec⟩,fbQ O ⟨.same rfl,ø⟩,fbQ O ⟨.same rfl,ø⟩,fbQ O ⟨.same rfl,ø⟩,ø⟩,rfl⟩)
    ·
     refine Gk (e3 (Jr fun e5=>(JLm (I64 (-1)) O (G6 (e5 ?_)))))
     obtain⟨e6,b8,h⟩:=Rc h
     refine Qk (fun j:Int=>e6 j=some r) (fun j=>[(0,I64 id_),(3,.dptr [LS 1 (E1) a]),(4,Ee c),(5,.ptr 1063 0),(8,E1 w),(9,Ek g.1),(11,I64 j),(26,LS 1 (E1) a),(27,Em a.length),(28,Em s)]) (fun j=>[(1067,MP 140 Ks (fun _:Unit=>.agg []) l.1),(1068,.vec 3 1 l.2.length (l.2.map I64)),(1061,.box 140 [.mp 1067]),(1062,.box 49 [.vec 1068 l.2.length 1 l.2.length]),(1063,.box 141 [.fn 67 (Kg a c)])]) (fun Kj17 ej17=>?_) ?_
     ·
      refine Jr fun e8=>(JLh (Ee c) (Ga Jc O O O) O (JLh (E3 c.Columns) (Gg Jv O O O) O (JLh (Ek g.1) (Ga Jb O O O) O (JLh (I64 g.1.G3) (Gg Gb O O O) O ?_))))
      obtain⟨k4,a3,e9,f0,h⟩:=Rw h
      refine JLh (Ej a3) (Hb (f:=G3.av) (xs:=c.Columns) (y:=a3) O O O Hz f0 e9) O (JLh (.dptr ((G3.cs a3).drop 2)) (Ga Yu O O O) O (JLh (BL a3.Deck) (Gg Qe O O O) O (JLh (BL (!a3.Deck)) (Yc (b:=a3.Deck) O O) O (G6 (e8 (JCc O h (fun h hb=>?_) (fun h hb=>?_)))))))
      ·
       refine G2 (JLh (.agg (Gj.cs c)) (Gm J8 O O O) O (JLh (Ek g.1) (Ga Jb O O O) O (JLh (I64 g.1.G3) (Gg Gb O O O) O ?_)))
       obtain⟨a7,f1,h⟩:=Gd h
       refine JLh (I64 a7) (Gu O (G70 c g.1.G3 a7 f1) H90 ⟨O,O,O,O,ø⟩) O (JLm (I64 a7) O (G6 (ej17 _ _ a7 h ⟨(.sm O O),⟨fmQ O,⟨_,rfl,.vec⟩,fbQ O ⟨.same rfl,ø⟩,fbQ O ⟨.same rfl,ø⟩,fbQ O ⟨.same rfl,ø⟩,ø⟩,rfl⟩)))
      ·
       refine Gk (ej17 _ _ (-1) h ⟨(.sm O O),⟨fmQ O,⟨_,rfl,.vec⟩,fbQ O ⟨.same rfl,ø⟩,fbQ O ⟨.same rfl,ø⟩,fbQ O ⟨.same rfl,ø⟩,ø⟩,rfl⟩)
     ·intro j h
      replace h:=app1 b8 h
      refine Js fun f2=>Jr fun f3=>(JLm (E1 w) O (JLl H5 O O O fun f4=>(JLm (I64 0) O (G6 (f3 (Gq ?_))))))
      obtain⟨j3,f5,f6,b9,h⟩:=Je h
      refine Hm (fun t (i:(Ha Int Unit)×(List Int))=>each j3 f5 (List.drop t w) t i=some r) (fun t i=>[(0,I64 id_),(3,.dptr [LS 1 (E1) a]),(4,Ee c),(5,.ptr 1063 0),(9,Ek g.1),(11,I64 j),(26,LS 1 (E1) a),(27,Em a.length),(28,Em s),(52,E1 w),(53,Em w.length),(54,Em t)]) (fun t i=>[(1067,MP 140 Ks (fun _:Unit=>.agg []) i.1),(1068,.vec 3 1 i.2.length (i.2.map I64)),(1061,.box 140 [.mp 1067]),(1062,.box 49 [.vec 1068 i.2.length 1 i.2.length]),(1063,.box 141 [.fn 67 (Kg a c)])]) (fun t=>w.length - t) 0 (l.1,l.2) h ⟨(.sm O O),⟨fmQ O,⟨_,rfl,.vec⟩,fbQ O ⟨.same rfl,ø⟩,fbQ O ⟨.same rfl,ø⟩,fbQ O ⟨.same rfl,ø⟩,ø⟩,rfl⟩ ?_
      clear h
      intro t i b0 k5 j4
      refine Jr fun f7=>(JLh (BL (decide ((t:Int) < (w.length:Int)))) (Jn O O O) O (G6 (f7 (Js fun f8=>Gp O (fun hb=>?_) (fun hb=>?_)))))
      ·
       have b1:=Jz hb
       obtain⟨n,k0,f9,g0,h⟩:=Hv b0 b1
       replace h:=Zm f6 h
       refine Gk (f8 ?_)
       obtain⟨g1,c0,h⟩:=Rc h
       refine Qk (fun z:(Ha Int Unit)×(List Int)=>g1 z=some r) (fun z=>[(0,I64 id_),(3,.dptr [LS 1 (E1) a]),(4,Ee c),(5,.ptr 1063 0),(9,Ek g.1),(11,I64 j),(26,LS 1 (E1) a),(27,Em a.length),(28,Em s),(52,E1 w),(53,Em w.length),(54,Em t)]) (fun z=>[(1067,MP 140 Ks (fun _:Unit=>.agg []) z.1),(1068,.vec 3 1 z.2.length (z.2.map I64)),(1061,.box 140 [.mp 1067]),(1062,.box 49 [.vec 1068 z.2.length 1 z.2.length]),(1063,.box 141 [.fn 67 (Kg a c)])]) (fun Kj59 ej59=>?_) ?_
       ·
        refine Gq (Jr fun g2=>(JLh (Eh n) (Hb (f:=G1.av) (xs:=w) (y:=n) O O O H5 f9 O) O (JLh (.agg (G1.cs n)) (Gm Qh O O O) O (JLh (.ptr 1137 0) (Hj 1137 4 Q3 O O) O (Hq (u:=.junk) (H7 (u:=.agg (G1.cs n)) (ds:=[I64 n.Box,I64 n.Slot.G3,I64 n.Slot.Tier,U8 n.Slot.Half]) Ru O O O O O O O O) (G6 (g2 ?_)))))))
        refine fzQ [(0,I64 id_),(3,.dptr [LS 1 (E1) a]),(4,Ee c),(5,.ptr 1063 0),(9,Ek g.1),(11,I64 j),(13,Eh n),(26,LS 1 (E1) a),(27,Em a.length),(28,Em s),(52,E1 w),(53,Em w.length),(54,Em t)] [(1067,MP 140 Ks (fun _:Unit=>.agg []) i.1),(1068,.vec 3 1 i.2.length (i.2.map I64)),(1061,.box 140 [.mp 1067]),(1062,.box 49 [.vec 1068 i.2.length 1 i.2.length]),(1063,.box 141 [.fn 67 (Kg a c)])] 1137 rfl rfl rfl ⟨fmQ O,⟨_,rfl,.vec⟩,⟨_,rfl,.boxEq rfl rfl⟩,⟨_,rfl,.boxEq rfl rfl⟩,⟨_,rfl,.boxEq rfl rfl⟩,ø⟩ rfl ?_
        refine Jr fun g3=>(JLh (.dptr ((G1.cs n).drop 1)) (Ga Jt O O O) O (JLh (.agg ((G1.cs n).drop 1)) (Gm J4 O O O) O (JLh (.agg (Slot.cs g.1)) (Gm J4 O O O) O ?_)))
        obtain⟨d6,g4,h⟩:=Gd h
        refine JLh (BL d6) (Gu O (Ja5 n.Slot g.1 d6 g4) Qab ⟨O,O,O,O,ø⟩) O (G6 (g3 (JCc O h (fun h hb=>?_) (fun h hb=>?_))))
        ·
         refine G2 (JLh (.fn 67 (Kg a c)) (J2 Hd8 O O O O) O (JLh (Eh n) (Ga Ja O O O) O (JLh (I64 n.Box) (Gg Gb O O O) O ?_)))
         obtain⟨a2,g5,h⟩:=Gd h
         refine JLh (.tup []) (H25 (args:=[I64 n.Box]) (caps:=(Kg a c)) (L0:=[(1061,.box 140 [.mp 1067]),(1067,MP 140 Ks (fun _:Unit=>.agg []) i.1),(1062,.box 49 [.vec 1068 i.2.length 1 i.2.length]),(1068,.vec 3 1 i.2.length (i.2.map I64)),(1063,.box 141 [.fn 67 (Kg a c)])]) (Lr:=[(1061,.box 140 [.mp 1067]),(1067,MP 140 Ks (fun _:Unit=>.agg []) a2.1),(1062,.box 49 [.vec 1068 a2.2.length 1 a2.2.length]),(1068,.vec 3 1 a2.2.length (a2.2.map I64)),(1063,.box 141 [.fn 67 (Kg a c)])]) O O (self_w n.Box i.1 i.2 a c a2 g5) Jb3 ⟨.inl O,O,ø⟩ O ⟨O,O,O,O,O,ø⟩ O O O) O (G6 ?_)
         exact ej59 _ _ (a2.1,a2.2) h ⟨(.sm O O),⟨fmQ O,⟨_,rfl,.vec⟩,fbQ O ⟨.same rfl,ø⟩,fbQ O ⟨.same rfl,ø⟩,fbQ O ⟨.same rfl,ø⟩,ø⟩,rfl⟩
        ·
         refine Gk (ej59 _ _ (i.1,i.2) h ⟨(.sm O O),⟨fmQ O,⟨_,rfl,.vec⟩,fbQ O ⟨.same rfl,ø⟩,fbQ O ⟨.same rfl,ø⟩,fbQ O ⟨.same rfl,ø⟩,ø⟩,rfl⟩)
       ·intro z h
        replace h:=app1 c0 h
        refine G2 (JLh (I64 ((t+1:Nat):Int)) (J3 (Hp b1 f4) O O O) O (JLm (I64 ((t+1:Nat):Int)) O (G6 (j4 _ _ (t+1) (z.1,z.2) (app1 g0 h) (by omega) ⟨(.sm O O),⟨fmQ O,⟨_,rfl,.vec⟩,fbQ O ⟨.same rfl,ø⟩,fbQ O ⟨.same rfl,ø⟩,fbQ O ⟨.same rfl,ø⟩,ø⟩,rfl⟩))))
      ·
       have h:=app1 b9 (Hw b0 (Hf hb))
       refine Hr (f2 (Jr fun g6=>(JLh (LS 1 (E1) a) (Gg R9 O O O) O (JLl Ju O O O fun g7=>(JLm (I64 0) O (G6 (g6 (Gq ?_))))))))
       obtain⟨j5,g8,g9,c1,h⟩:=Je h
       refine Hm (fun o (v:(Ha Int Unit)×(List Int))=>each j5 g8 (List.drop o a) o v=some r) (fun o v=>[(0,I64 id_),(3,.dptr [LS 1 (E1) a]),(4,Ee c),(5,.ptr 1063 0),(11,I64 j),(26,LS 1 (E1) a),(27,Em a.length),(28,Em s),(67,LS 1 (E1) a),(68,Em a.length),(69,Em o)]) (fun o v=>[(1067,MP 140 Ks (fun _:Unit=>.agg []) v.1),(1068,.vec 3 1 v.2.length (v.2.map I64)),(1061,.box 140 [.mp 1067]),(1062,.box 49 [.vec 1068 v.2.length 1 v.2.length]),(1063,.box 141 [.fn 67 (Kg a c)])]) (fun o=>a.length - o) 0 (i.1,i.2) h ⟨(.sm O O),⟨fmQ O,⟨_,rfl,.vec⟩,fbQ O ⟨.same rfl,ø⟩,fbQ O ⟨.same rfl,ø⟩,fbQ O ⟨.same rfl,ø⟩,ø⟩,rfl⟩ ?_
       clear h
       intro o v b2 k6 j6
       refine Jr fun h0=>(JLh (BL (decide ((o:Int) < (a.length:Int)))) (Jn O O O) O (G6 (h0 (Js fun h1=>Gp O (fun hb=>?_) (fun hb=>?_)))))
       ·
        have b3:=Jz hb
        obtain⟨p,k1,h2,h3,h⟩:=Hv b2 b3
        replace h:=Zm g9 h
        refine Gk (h1 (Js fun h4=>Gq (Jr fun h5=>(JLh (.dptr [E1 p]) (Hb (f:=(E1)) (xs:=a) (y:=p) O O O Ju h2 O) O (JLh (E1 p) (Gg Yj O O O) O (JLm (E1 p) O (G6 (h5 (Jr fun h6=>(JLm (E1 p) O (JLl H5 O O O fun h7=>(JLm (I64 0) O (G6 (h6 (Gq ?_)))))))))))))))
        obtain⟨h8,c2,c3,b4,h⟩:=Je h
        refine Hm (fun k (d:(Ha Int Unit)×(List Int))=>each h8 c2 (List.drop k p) k d=some r) (fun k d=>[(0,I64 id_),(3,.dptr [LS 1 (E1) a]),(4,Ee c),(5,.ptr 1063 0),(11,I64 j),(26,LS 1 (E1) a),(27,Em a.length),(28,Em s),(67,LS 1 (E1) a),(68,Em a.length),(69,Em o),(73,E1 p),(74,Em p.length),(75,Em k)]) (fun k d=>[(1067,MP 140 Ks (fun _:Unit=>.agg []) d.1),(1068,.vec 3 1 d.2.length (d.2.map I64)),(1061,.box 140 [.mp 1067]),(1062,.box 49 [.vec 1068 d.2.length 1 d.2.length]),(1063,.box 141 [.fn 67 (Kg a c)])]) (fun k=>p.length - k) 0 (v.1,v.2) h ⟨(.sm O O),⟨fmQ O,⟨_,rfl,.vec⟩,fbQ O ⟨.same rfl,ø⟩,fbQ O ⟨.same rfl,ø⟩,fbQ O ⟨.same rfl,ø⟩,ø⟩,rfl⟩ ?_
        clear h
        intro k d a8 k2 h9
        refine Jr fun c4=>(JLh (BL (decide ((k:Int) < (p.length:Int)))) (Jn O O O) O (G6 (c4 (Js fun c5=>Gp O (fun hb=>?_) (fun hb=>?_)))))
        ·
         have a9:=Jz hb
         obtain⟨e,j7,c6,c7,h⟩:=Hv a8 a9
         replace h:=Zm c3 h
         refine Gk (c5 ?_)
         obtain⟨c8,b5,h⟩:=Rc h
         refine Qk (fun q:(Ha Int Unit)×(List Int)=>c8 q=some r) (fun q=>[(0,I64 id_),(3,.dptr [LS 1 (E1) a]),(4,Ee c),(5,.ptr 1063 0),(11,I64 j),(26,LS 1 (E1) a),(27,Em a.length),(28,Em s),(67,LS 1 (E1) a),(68,Em a.length),(69,Em o),(73,E1 p),(74,Em p.length),(75,Em k)]) (fun q=>[(1067,MP 140 Ks (fun _:Unit=>.agg []) q.1),(1068,.vec 3 1 q.2.length (q.2.map I64)),(1061,.box 140 [.mp 1067]),(1062,.box 49 [.vec 1068 q.2.length 1 q.2.length]),(1063,.box 141 [.fn 67 (Kg a c)])]) (fun Kj110 ej110=>?_) ?_
         ·
          refine Gq (Jr fun c9=>(JLh (Eh e) (Hb (f:=G1.av) (xs:=p) (y:=e) O O O H5 c6 O) O (JLh (.agg (G1.cs e)) (Gm Qh O O O) O (JLh (.ptr 1138 0) (Hj 1138 4 Q3 O O) O (Hq (u:=.junk) (H7 (u:=.agg (G1.cs e)) (ds:=[I64 e.Box,I64 e.Slot.G3,I64 e.Slot.Tier,U8 e.Slot.Half]) Ru O O O O O O O O) (G6 (c9 ?_)))))))
          refine fzQ [(0,I64 id_),(3,.dptr [LS 1 (E1) a]),(4,Ee c),(5,.ptr 1063 0),(11,I64 j),(17,Eh e),(26,LS 1 (E1) a),(27,Em a.length),(28,Em s),(67,LS 1 (E1) a),(68,Em a.length),(69,Em o),(73,E1 p),(74,Em p.length),(75,Em k)] [(1067,MP 140 Ks (fun _:Unit=>.agg []) d.1),(1068,.vec 3 1 d.2.length (d.2.map I64)),(1061,.box 140 [.mp 1067]),(1062,.box 49 [.vec 1068 d.2.length 1 d.2.length]),(1063,.box 141 [.fn 67 (Kg a c)])] 1138 rfl rfl rfl ⟨fmQ O,⟨_,rfl,.vec⟩,⟨_,rfl,.boxEq rfl rfl⟩,⟨_,rfl,.boxEq rfl rfl⟩,⟨_,rfl,.boxEq rfl rfl⟩,ø⟩ rfl ?_
          refine Jr fun d0=>(JLm (I64 j) O (JLh (BL (decide (0≤j))) (H2c O O O) O (JLm (BL (decide (0≤j))) O (JLo (Ee c) [] O .sct ø (fun hc=>Ga Jc O O O) O (JLo (E3 c.Columns) [82] O .sct ⟨Ua,ø⟩ (fun hc=>Gg Jv O O O) O (JLo (.dptr ((G1.cs e).drop 1)) [] O .sct ø (fun hc=>Ga Jt O O O) O (JLo (.dptr ((G1.cs e).drop 1)) [84] O .sct ⟨Ua,ø⟩ (fun hc=>Ga Jb O O O) O (JLo (I64 e.Slot.G3) [85] O .sct ⟨Ua,ø⟩ (fun hc=>Gg Gb O O O) O ?_))))))))
          obtain⟨a1,d1,h⟩:=Gd h
          refine JLo (Ej a1) [83,86] O .sct ⟨Ua,Ua,ø⟩ (fun hc=>(match Gc4 (H2 hc d1) with | ⟨_,hm_,hy_⟩=>Hb (f:=G3.av) (xs:=c.Columns) (y:=a1) O O O Hz hy_ hm_)) O (JLo (.dptr ((G3.cs a1).drop 2)) [87] O .sct ⟨Ua,ø⟩ (fun hc=>Ga Yu O O O) O (JLo (BL a1.Deck) [88] O .sct ⟨Ua,ø⟩ (fun hc=>Gg Qe O O O) O (JLh (BL ((decide (0≤j))&&a1.Deck)) (Ri O O O O) O (JLm (BL ((decide (0≤j))&&a1.Deck)) O (JLo (.agg (Gj.cs c)) [] O .sct ø (fun hc=>Gm J8 O O O) O (JLo (.dptr ((G1.cs e).drop 1)) [] O .sct ø (fun hc=>Ga Jt O O O) O (JLo (.dptr ((G1.cs e).drop 1)) [93] O .sct ⟨Ua,ø⟩ (fun hc=>Ga Jb O O O) O (JLo (I64 e.Slot.G3) [94] O .sct ⟨Ua,ø⟩ (fun hc=>Gg Gb O O O) O ?_))))))))
          obtain⟨a4,d2,h⟩:=Gd h
          refine JLo (I64 a4) [92,95] O .sct ⟨Ua,Ua,ø⟩ (fun hc=>Gu (args:=[.agg (Gj.cs c),I64 e.Slot.G3]) O (G70 c e.Slot.G3 a4 (H2 hc d2)) H90 ⟨O,O,O,O,ø⟩) O (JLo (I64 j) [] O .sct ø (fun hc=>G5 O O) O (JLo (BL (decide (a4=j))) [96,97] O .sct ⟨Ua,Ua,ø⟩ (fun hc=>Qg O O O) O (JLh (BL (((decide (0≤j))&&a1.Deck)&&(decide (a4=j)))) (Ri O O O O) O (G6 (d0 (JCc O h (fun h hb=>?_) (fun h hb=>?_)))))))
          ·
           refine G2 (JLh (.fn 67 (Kg a c)) (J2 Hd8 O O O O) O (JLh (Eh e) (Ga Ja O O O) O (JLh (I64 e.Box) (Gg Gb O O O) O ?_)))
           obtain⟨a0,d3,h⟩:=Gd h
           refine JLh (.tup []) (H25 (args:=[I64 e.Box]) (caps:=(Kg a c)) (L0:=[(1061,.box 140 [.mp 1067]),(1067,MP 140 Ks (fun _:Unit=>.agg []) d.1),(1062,.box 49 [.vec 1068 d.2.length 1 d.2.length]),(1068,.vec 3 1 d.2.length (d.2.map I64)),(1063,.box 141 [.fn 67 (Kg a c)])]) (Lr:=[(1061,.box 140 [.mp 1067]),(1067,MP 140 Ks (fun _:Unit=>.agg []) a0.1),(1062,.box 49 [.vec 1068 a0.2.length 1 a0.2.length]),(1068,.vec 3 1 a0.2.length (a0.2.map I64)),(1063,.box 141 [.fn 67 (Kg a c)])]) O O (self_w e.Box d.1 d.2 a c a0 d3) Jb3 ⟨.inl O,O,ø⟩ O ⟨O,O,O,O,O,ø⟩ O O O) O (G6 ?_)
           exact ej110 _ _ (a0.1,a0.2) h ⟨(.sm O O),⟨fmQ O,⟨_,rfl,.vec⟩,fbQ O ⟨.same rfl,ø⟩,fbQ O ⟨.same rfl,ø⟩,fbQ O ⟨.same rfl,ø⟩,ø⟩,rfl⟩
          ·
           refine Gk (ej110 _ _ (d.1,d.2) h ⟨(.sm O O),⟨fmQ O,⟨_,rfl,.vec⟩,fbQ O ⟨.same rfl,ø⟩,fbQ O ⟨.same rfl,ø⟩,fbQ O ⟨.same rfl,ø⟩,ø⟩,rfl⟩)
         ·intro q h
          replace h:=app1 b5 h
          refine G2 (JLh (I64 ((k+1:Nat):Int)) (J3 (Hp a9 h7) O O O) O (JLm (I64 ((k+1:Nat):Int)) O (G6 (h9 _ _ (k+1) (q.1,q.2) (app1 c7 h) (by omega) ⟨(.sm O O),⟨fmQ O,⟨_,rfl,.vec⟩,fbQ O ⟨.same rfl,ø⟩,fbQ O ⟨.same rfl,ø⟩,fbQ O ⟨.same rfl,ø⟩,ø⟩,rfl⟩))))
        ·
         have h:=app1 b4 (Hw a8 (Hf hb))
         refine Hr (h4 (G2 (JLh (I64 ((o+1:Nat):Int)) (J3 (Hp b3 g7) O O O) O (JLm (I64 ((o+1:Nat):Int)) O (G6 (j6 _ _ (o+1) (d.1,d.2) (app1 h3 h) (by omega) ⟨(.sm O O),⟨fmQ O,⟨_,rfl,.vec⟩,fbQ O ⟨.same rfl,ø⟩,fbQ O ⟨.same rfl,ø⟩,fbQ O ⟨.same rfl,ø⟩,ø⟩,rfl⟩))))))
       ·
        have h:=app1 c1 (Hw b2 (Hf hb))
        refine Hr (ej10 _ _ (v.1,v.2) h ⟨(.sm O O),⟨fmQ O,⟨_,rfl,.vec⟩,fbQ O ⟨.same rfl,ø⟩,fbQ O ⟨.same rfl,ø⟩,fbQ O ⟨.same rfl,ø⟩,ø⟩,rfl⟩)
   ·intro x h
    replace h:=app1 b6 h
    refine G2 (JLh (I64 ((s+1:Nat):Int)) (J3 (Hp d5 d7) O O O) O (JLm (I64 ((s+1:Nat):Int)) O (G6 (e7 _ _ (s+1) (x.1,x.2) (app1 j2 h) (by omega) ⟨(.sm O O),⟨fmQ O,⟨_,rfl,.vec⟩,fbQ O ⟨.same rfl,ø⟩,fbQ O ⟨.same rfl,ø⟩,fbQ O ⟨.same rfl,ø⟩,ø⟩,rfl⟩))))
  ·
   have h:=app1 d8 (Hw d4 (Hf hb))
   refine Hr ?_
   obtain rfl:=M8 h
   exact⟨[],[(1061,.box 140 [.mp 1067]),(1067,MP 140 Ks (fun _:Unit=>.agg []) l.1),(1062,.box 49 [.vec 1068 l.2.length 1 l.2.length]),(1068,.vec 3 1 l.2.length (l.2.map I64)),(1063,.box 141 [.fn 67 (Kg a c)])],⟨⟨_,O,.boxL O ⟨.same O,ø⟩⟩,⟨_,O,.map⟩,⟨_,O,.boxL O ⟨.same O,ø⟩⟩,⟨_,O,.vec⟩,⟨_,O,.boxL O ⟨.same O,ø⟩⟩,ø⟩,O,ø,O,O⟩
theorem Q03:∀ (F:Nat) (id_:Int) (d:Ha Int Unit) (a:List Int) (b:List (List G1)) (c:Gj) (r:(Ha Int Unit)×(List Int)) (h:Yf F id_ d a b c=some r),Hx En 67 [I64 id_,.ptr 1061 0,.ptr 1062 0,.dptr [LS 1 (E1) b],Ee c,.ptr 1063 0] [(1061,.box 140 [.mp 1067]),(1067,MP 140 Ks (fun _:Unit=>.agg []) d),(1062,.box 49 [.vec 1068 a.length 1 a.length]),(1068,.vec 3 1 a.length (a.map I64)),(1063,.box 141 [.fn 67 [.ptr 1061 0,.ptr 1062 0,.dptr [LS 1 (E1) b],Ee c,.ptr 1063 0]])] (fun av L'=>av=.tup []∧L'=[(1061,.box 140 [.mp 1067]),(1067,MP 140 Ks (fun _:Unit=>.agg []) r.1),(1062,.box 49 [.vec 1068 r.2.length 1 r.2.length]),(1068,.vec 3 1 r.2.length (r.2.map I64)),(1063,.box 141 [.fn 67 [.ptr 1061 0,.ptr 1062 0,.dptr [LS 1 (E1) b],Ee c,.ptr 1063 0]])]):=by
 intro F
 induction F with
 | zero=>intro id_ d a b c r h; cases h
 | succ F ih=>intro id_ d a b c r h; exact Q0b (Yf F) ih F id_ d a b c r h

def G08 (F:Nat) (s:Gj) (bf:List G1) (af:List G1):Option (List Int):=
 each (fun l n (d:(Ha Int Unit)×(List Int)) j=>
  each (fun b m (a:(Ha Int Unit)×(List Int)) i=>
   jp (fun c=>
    bnd (Gbb bf b.Box) fun e=>
    bnd (Gbb af b.Box) fun f=>
    bif ((!(e.2==f.2))||(!decide (e.1=f.1))) then
    (bnd (Yf F b.Box a.1 a.2 [bf,af] s) fun g=>
     c (g.1,g.2))
    else
    (c (a.1,a.2))) fun(h:(Ha Int Unit)×(List Int))=>
   i (h.1,h.2))
  (fun(a:(Ha Int Unit)×(List Int))=>
   j (a.1,a.2)) l 0 (d.1,d.2))
 (fun(d:(Ha Int Unit)×(List Int))=>
  bnd (Ga7 d.2) fun k=>
  some k) [bf,af] 0 ((Ha.empty:Ha Int Unit),[])
abbrev Kh (bf:List G1) (af:List G1) (s:Gj):List AV:=[.ptr 1061 0,.ptr 1062 0,.dptr [LS 1 (E1) [bf,af]],Ee s,.ptr 1063 0]
theorem Q80 (F:Nat) (s:Gj) (bf:List G1) (af:List G1) (r:(List Int)) (h:G08 F s bf af=some r):Pure En 32 [.agg (Gj.cs s),E1 bf,E1 af] (·=E2 r):=by
 unfold G08 at h
 refine Gz [.tmp 6] Tryz.func32 O O (Jr fun c3=>(JLh (.ptr 1059 0) (Q6 (cs:=(Gj.cs s)) 1059 O O O O O) O (JLh (E2 ([]:List Int)) (Jd 1 O O) O (G6 (c3 (Gr [(1,E1 bf),(2,E1 af),(3,Ee s)] [] 1059 rfl rfl rfl ø rfl (by exact⟨.conv (.same rfl),.conv (.same rfl),.ptr,ø⟩) ?_))))))
 refine Jr fun c4=>(JLm (E1 bf) O (JLm (E1 af) O (JLh (LS 1 (E1) [bf,af]) (He (xs:=[E1 bf,E1 af]) O ⟨O,O,O,O,ø⟩ Ju Hbe O O O O) O (JLh (.ptr 1060 0) (Hj 1060 1 R9a O O) O (Hq (u:=.junk) (H7 (u:=LS 1 (E1) [bf,af]) (ds:=[LS 1 (E1) [bf,af]]) Q91 O O O O O O O O) (G6 (c4 (fzQ [(1,E1 bf),(2,E1 af),(3,Ee s),(7,.dptr [LS 1 (E1) [bf,af]])] [] 1060 rfl rfl rfl ø rfl ?_))))))))
 refine Jr fun c5=>(JLh (.mp 1067) (Hb5 1067 Ks (fun _:Unit=>.agg []) O O) O (JLh (.ptr 1061 0) (Hj 1061 1 R62 O O) O (Hq (u:=.junk) (H7 (u:=.mp 1067) (ds:=[.mp 1067]) Ra1 O O O O O O O O) (G6 (c5 (Jr fun c6=>(JLh (.ptr 1062 0) (G10 1062 [.sc (.slice none 0 0)] [.slice none 0 0] Y0e ⟨.inl O,ø⟩ O O) O (R0a 1062 0 1068 3 1 O O O (cs':=[.vec 1068 (([]:List Int).length) 1 (([]:List Int).length)]) O (G6 (c6 (Jr fun c7=>(JLh (.ptr 1063 0) (Hj 1063 1 R61 O O) O (G6 (c7 ?_))))))))))))))
 refine Jr fun c8=>(JLh (.fn 67 (Kh bf af s)) (Q4 (cs:=(Kh bf af s)) O O) O (Hq (u:=.junk) (H7 (u:=.fn 67 (Kh bf af s)) (ds:=[.fn 67 (Kh bf af s)]) Ra0 O O O O O O O O) (G6 (c8 (Js fun c9=>Jr fun d0=>(JLh (LS 1 (E1) [bf,af]) (Gg R9 O O O) O (JLl Ju O O O fun w=>(JLm (I64 0) O (G6 (d0 (Gq ?_)))))))))))
 obtain⟨b9,d1,d2,x,h⟩:=Je h
 refine Hm (fun j (i:(Ha Int Unit)×(List Int))=>each b9 d1 (List.drop j [bf,af]) j i=some r) (fun j i=>[(1,E1 bf),(2,E1 af),(9,.ptr 1062 0),(10,.ptr 1063 0),(24,LS 1 (E1) [bf,af]),(25,I64 ([bf,af].length:Int)),(26,Em j)]) (fun j i=>[(1067,MP 140 Ks (fun _:Unit=>.agg []) i.1),(1068,.vec 3 1 i.2.length (i.2.map I64)),(1061,.box 140 [.mp 1067]),(1062,.box 49 [.vec 1068 i.2.length 1 i.2.length]),(1063,.box 141 [.fn 67 (Kh bf af s)])]) (fun j=>[bf,af].length - j) 0 ((Ha.empty:Ha Int Unit),[]) h ⟨(.sm O O),⟨fmQ O,⟨_,rfl,.vec⟩,fbQ O ⟨.same rfl,ø⟩,fbQ O ⟨.same rfl,ø⟩,fbQ O ⟨.same rfl,ø⟩,ø⟩,rfl⟩ ?_
 clear h
 intro j i q K9 e9
 refine Jr fun z=>(JLh (BL (decide ((j:Int) < ([bf,af].length:Int)))) (Jn O O O) O (G6 (z (Js fun a0=>Gp O (fun hb=>?_) (fun hb=>?_)))))
 ·
  have t:=Jz hb
  obtain⟨g,e0,d3,d4,h⟩:=Hv q t
  replace h:=Zm d2 h
  refine Gk (a0 (Js fun a1=>Gq (Jr fun a2=>(JLh (.dptr [E1 g]) (Hb (f:=(E1)) (xs:=[bf,af]) (y:=g) O O O Ju d3 O) O (JLh (E1 g) (Gg Yj O O O) O (JLm (E1 g) O (G6 (a2 (Jr fun a3=>(JLm (E1 g) O (JLl H5 O O O fun a4=>(JLm (I64 0) O (G6 (a3 (Gq ?_)))))))))))))))
  obtain⟨d5,a5,a6,o,h⟩:=Je h
  refine Hm (fun e (a:(Ha Int Unit)×(List Int))=>each d5 a5 (List.drop e g) e a=some r) (fun e a=>[(1,E1 bf),(2,E1 af),(9,.ptr 1062 0),(10,.ptr 1063 0),(24,LS 1 (E1) [bf,af]),(25,I64 ([bf,af].length:Int)),(26,Em j),(30,E1 g),(31,Em g.length),(32,Em e)]) (fun e a=>[(1067,MP 140 Ks (fun _:Unit=>.agg []) a.1),(1068,.vec 3 1 a.2.length (a.2.map I64)),(1061,.box 140 [.mp 1067]),(1062,.box 49 [.vec 1068 a.2.length 1 a.2.length]),(1063,.box 141 [.fn 67 (Kh bf af s)])]) (fun e=>g.length - e) 0 (i.1,i.2) h ⟨(.sm O O),⟨fmQ O,⟨_,rfl,.vec⟩,fbQ O ⟨.same rfl,ø⟩,fbQ O ⟨.same rfl,ø⟩,fbQ O ⟨.same rfl,ø⟩,ø⟩,rfl⟩ ?_
  clear h
  intro e a m e1 d6
  refine Jr fun a7=>(JLh (BL (decide ((e:Int) < (g.length:Int)))) (Jn O O O) O (G6 (a7 (Js fun a8=>Gp O (fun hb=>?_) (fun hb=>?_)))))
  ·
   have n:=Jz hb
   obtain⟨d,d9,a9,b0,h⟩:=Hv m n
   replace h:=Zm a6 h
   refine Gk (a8 ?_)
   obtain⟨b1,p,h⟩:=Rc h
   refine Qk (fun k:(Ha Int Unit)×(List Int)=>b1 k=some r) (fun k=>[(1,E1 bf),(2,E1 af),(9,.ptr 1062 0),(10,.ptr 1063 0),(24,LS 1 (E1) [bf,af]),(25,I64 ([bf,af].length:Int)),(26,Em j),(30,E1 g),(31,Em g.length),(32,Em e)]) (fun k=>[(1067,MP 140 Ks (fun _:Unit=>.agg []) k.1),(1068,.vec 3 1 k.2.length (k.2.map I64)),(1061,.box 140 [.mp 1067]),(1062,.box 49 [.vec 1068 k.2.length 1 k.2.length]),(1063,.box 141 [.fn 67 (Kh bf af s)])]) (fun Kj62 ej62=>?_) ?_
   ·
    refine Gq (Jr fun b2=>(JLh (Eh d) (Hb (f:=G1.av) (xs:=g) (y:=d) O O O H5 a9 O) O (JLh (.agg (G1.cs d)) (Gm Qh O O O) O (JLh (.ptr 1064 0) (Hj 1064 4 Q3 O O) O (Hq (u:=.junk) (H7 (u:=.agg (G1.cs d)) (ds:=[I64 d.Box,I64 d.Slot.G3,I64 d.Slot.Tier,U8 d.Slot.Half]) Ru O O O O O O O O) (G6 (b2 ?_)))))))
    refine fzQ [(1,E1 bf),(2,E1 af),(9,.ptr 1062 0),(10,.ptr 1063 0),(14,Eh d),(24,LS 1 (E1) [bf,af]),(25,I64 ([bf,af].length:Int)),(26,Em j),(30,E1 g),(31,Em g.length),(32,Em e)] [(1067,MP 140 Ks (fun _:Unit=>.agg []) a.1),(1068,.vec 3 1 a.2.length (a.2.map I64)),(1061,.box 140 [.mp 1067]),(1062,.box 49 [.vec 1068 a.2.length 1 a.2.length]),(1063,.box 141 [.fn 67 (Kh bf af s)])] 1064 rfl rfl rfl ⟨fmQ O,⟨_,rfl,.vec⟩,⟨_,rfl,.boxEq rfl rfl⟩,⟨_,rfl,.boxEq rfl rfl⟩,⟨_,rfl,.boxEq rfl rfl⟩,ø⟩ rfl ?_
    refine Jr fun b3=>(JLm (E1 bf) O (JLh (Eh d) (Ga Ja O O O) O (JLh (I64 d.Box) (Gg Gb O O O) O ?_)))
    obtain⟨b,b4,h⟩:=Gd h
    refine JLh (.tup [.agg (Slot.cs b.1),BL b.2]) (Gu O (He6 bf d.Box b b4) Jb2 ⟨O,O,O,O,ø⟩) O (JLm (.tup [.agg (Slot.cs b.1),BL b.2]) O (JLh (.agg (Slot.cs b.1)) (Gv O O O) O (JLh (BL b.2) (Gv O O O) O (JLh (.ptr 1065 0) (Hj 1065 3 Rr O O) O (Hq (u:=.junk) (H7 (u:=.agg (Slot.cs b.1)) (ds:=[I64 b.1.G3,I64 b.1.Tier,U8 b.1.Half]) Yq O O O O O O O O) (JLm (BL b.2) O (G6 (b3 ?_))))))))
    refine fzQ [(1,E1 bf),(2,E1 af),(9,.ptr 1062 0),(10,.ptr 1063 0),(14,Eh d),(15,Ek b.1),(16,BL b.2),(24,LS 1 (E1) [bf,af]),(25,I64 ([bf,af].length:Int)),(26,Em j),(30,E1 g),(31,Em g.length),(32,Em e)] [(1067,MP 140 Ks (fun _:Unit=>.agg []) a.1),(1068,.vec 3 1 a.2.length (a.2.map I64)),(1061,.box 140 [.mp 1067]),(1062,.box 49 [.vec 1068 a.2.length 1 a.2.length]),(1063,.box 141 [.fn 67 (Kh bf af s)])] 1065 rfl rfl rfl ⟨fmQ O,⟨_,rfl,.vec⟩,⟨_,rfl,.boxEq rfl rfl⟩,⟨_,rfl,.boxEq rfl rfl⟩,⟨_,rfl,.boxEq rfl rfl⟩,ø⟩ rfl ?_
    refine Jr fun b5=>(JLm (E1 af) O (JLh (Eh d) (Ga Ja O O O) O (JLh (I64 d.Box) (Gg Gb O O O) O ?_)))
    obtain⟨c,b6,h⟩:=Gd h
    refine JLh (.tup [.agg (Slot.cs c.1),BL c.2]) (Gu O (He6 af d.Box c b6) Jb2 ⟨O,O,O,O,ø⟩) O (JLm (.tup [.agg (Slot.cs c.1),BL c.2]) O (JLh (.agg (Slot.cs c.1)) (Gv O O O) O (JLh (BL c.2) (Gv O O O) O (JLh (.ptr 1066 0) (Hj 1066 3 Rr O O) O (Hq (u:=.junk) (H7 (u:=.agg (Slot.cs c.1)) (ds:=[I64 c.1.G3,I64 c.1.Tier,U8 c.1.Half]) Yq O O O O O O O O) (JLm (BL c.2) O (G6 (b5 ?_))))))))
    refine fzQ [(1,E1 bf),(2,E1 af),(9,.ptr 1062 0),(10,.ptr 1063 0),(14,Eh d),(15,Ek b.1),(16,BL b.2),(17,Ek c.1),(18,BL c.2),(24,LS 1 (E1) [bf,af]),(25,I64 ([bf,af].length:Int)),(26,Em j),(30,E1 g),(31,Em g.length),(32,Em e)] [(1067,MP 140 Ks (fun _:Unit=>.agg []) a.1),(1068,.vec 3 1 a.2.length (a.2.map I64)),(1061,.box 140 [.mp 1067]),(1062,.box 49 [.vec 1068 a.2.length 1 a.2.length]),(1063,.box 141 [.fn 67 (Kh bf af s)])] 1066 rfl rfl rfl ⟨fmQ O,⟨_,rfl,.vec⟩,⟨_,rfl,.boxEq rfl rfl⟩,⟨_,rfl,.boxEq rfl rfl⟩,⟨_,rfl,.boxEq rfl rfl⟩,ø⟩ rfl ?_
    refine Jr fun b7=>(JLm (BL b.2) O (JLm (BL c.2) O (JLh (BL (!(b.2==c.2))) (Rff H85 O O O) O (JLm (BL (!(b.2==c.2))) O (JLo (.agg (Slot.cs b.1)) [] O .scf ø (fun hc=>Gm J4 O O O) O (JLo (.agg (Slot.cs c.1)) [] O .scf ø (fun hc=>Gm J4 O O O) O (JLo (BL (!decide (b.1=c.1))) [54,55] O .scf ⟨Ua,Ua,ø⟩ (fun hc=>Yac (vs:=[.int .i64 b.1.G3,.int .i64 b.1.Tier,.int .u8 b.1.Half]) (us:=[.int .i64 c.1.G3,.int .i64 c.1.Tier,.int .u8 c.1.Half]) 4 O (Y7d b.1 c.1) J4f Q12 O O O) O (JLh (BL ((!(b.2==c.2))||(!decide (b.1=c.1)))) (G82 O O O O) O (G6 (b7 (JCc O h (fun h hb=>?_) (fun h hb=>?_))))))))))))
    ·
     refine G2 (JLh (.fn 67 (Kh bf af s)) (J2 Hd8 O O O O) O (JLh (Eh d) (Ga Ja O O O) O (JLh (I64 d.Box) (Gg Gb O O O) O ?_)))
     obtain⟨l,b8,h⟩:=Gd h
     refine JLh (.tup []) (H25 (args:=[I64 d.Box]) (caps:=(Kh bf af s)) (L0:=[(1061,.box 140 [.mp 1067]),(1067,MP 140 Ks (fun _:Unit=>.agg []) a.1),(1062,.box 49 [.vec 1068 a.2.length 1 a.2.length]),(1068,.vec 3 1 a.2.length (a.2.map I64)),(1063,.box 141 [.fn 67 (Kh bf af s)])]) (Lr:=[(1061,.box 140 [.mp 1067]),(1067,MP 140 Ks (fun _:Unit=>.agg []) l.1),(1062,.box 49 [.vec 1068 l.2.length 1 l.2.length]),(1068,.vec 3 1 l.2.length (l.2.map I64)),(1063,.box 141 [.fn 67 (Kh bf af s)])]) O O (Q03 F d.Box a.1 a.2 [bf,af] s l b8) Jb3 ⟨.inl O,O,ø⟩ O ⟨O,O,O,O,O,ø⟩ O O O) O (G6 ?_)
     exact ej62 _ _ (l.1,l.2) h ⟨(.sm O O),⟨fmQ O,⟨_,rfl,.vec⟩,fbQ O ⟨.same rfl,ø⟩,fbQ O ⟨.same rfl,ø⟩,fbQ O ⟨.same rfl,ø⟩,ø⟩,rfl⟩
    ·
     refine Gk (ej62 _ _ (a.1,a.2) h ⟨(.sm O O),⟨fmQ O,⟨_,rfl,.vec⟩,fbQ O ⟨.same rfl,ø⟩,fbQ O ⟨.same rfl,ø⟩,fbQ O ⟨.same rfl,ø⟩,ø⟩,rfl⟩)
   ·intro k h
    replace h:=app1 p h
    refine G2 (JLh (I64 ((e+1:Nat):Int)) (J3 (Hp n a4) O O O) O (JLm (I64 ((e+1:Nat):Int)) O (G6 (d6 _ _ (e+1) (k.1,k.2) (app1 b0 h) (by omega) ⟨(.sm O O),⟨fmQ O,⟨_,rfl,.vec⟩,fbQ O ⟨.same rfl,ø⟩,fbQ O ⟨.same rfl,ø⟩,fbQ O ⟨.same rfl,ø⟩,ø⟩,rfl⟩))))
  ·
   have h:=app1 o (Hw m (Hf hb))
   refine Hr (a1 (G2 (JLh (I64 ((j+1:Nat):Int)) (J3 (Hp t w) O O O) O (JLm (I64 ((j+1:Nat):Int)) O (G6 (e9 _ _ (j+1) (a.1,a.2) (app1 d4 h) (by omega) ⟨(.sm O O),⟨fmQ O,⟨_,rfl,.vec⟩,fbQ O ⟨.same rfl,ø⟩,fbQ O ⟨.same rfl,ø⟩,fbQ O ⟨.same rfl,ø⟩,ø⟩,rfl⟩))))))
 ·
  have h:=app1 x (Hw q (Hf hb))
  refine Hr (c9 (Jr fun c0=>(JLh (.vec 1068 i.2.length 1 i.2.length) (J2 Rv O O O O) O ?_)))
  obtain⟨v,c1,h⟩:=Gd h
  refine JLh (.tup []) (R8e (F:=72) (xs:=i.2) (r:=v) O J53 J18 Jb1 O O O c1 O) O (G6 (c0 (Jr fun c2=>(JLh (.vec 1068 i.2.length 1 i.2.length) (J2 Rv O O O O) O (JLm (.vec 1068 i.2.length 1 i.2.length) O (G6 (c2 (H43 [(6,E2 v)] [] 1068 rfl rfl ø rfl (by exact⟨.vec,ø⟩) (Gs (fin1 (fun r:(List Int)=>(E2 r:AV)) h))))))))))

def Z0 (F:Nat) (s:Gj) (boxes:List Box) (bf:List G1) (af:List G1):Option ((List Int)×Int):=
 bnd (Z6 s boxes bf) fun a=>
 bnd (bif (!(!a)) then Z6 s boxes af else some default) fun b=>
 bif ((!a)||(!b)) then
 (some ([],2))
 else
 (bnd (G08 F s bf af) fun c=>
  some (c,0))
theorem J38 (F:Nat) (s:Gj) (boxes:List Box) (bf:List G1) (af:List G1) (r:(List Int)×Int) (h:Z0 F s boxes bf af=some r):Pure En 9 [.agg (Gj.cs s),E8 boxes,E1 bf,E1 af] (·=.tup [E2 r.1,I64 r.2]):=by
 unfold Z0 at h
 refine Gz [.tmp 8,.tmp 9] Tryz.func9 O O (Jr fun e=>(JLh (.ptr 1016 0) (Q6 (cs:=(Gj.cs s)) 1016 O O O O O) O (JLh (E2 ([]:List Int)) (Jd 1 O O) O (JLm (I64 0) O (G6 (e (fzQ [(1,E8 boxes),(2,E1 bf),(3,E1 af),(4,Ee s)] [] 1016 rfl rfl rfl ø rfl (Js fun f=>Jr fun g=>(JLh (.agg (Gj.cs s)) (Gm J8 O O O) O (JLm (E8 boxes) O (JLm (E1 bf) O ?_)))))))))))
 obtain⟨a,i,h⟩:=Gd h
 refine JLh (BL a) (Gu O (Gaf s boxes bf a i) H92 ⟨O,O,O,O,O,O,ø⟩) O (JLh (BL (!a)) (Yc (b:=a) O O) O (JLm (BL (!a)) O (JLo (.agg (Gj.cs s)) [] O .scf ø (fun hc=>Gm J8 O O O) O (JLo (E8 boxes) [] O .scf ø (fun hc=>G5 O O) O (JLo (E1 af) [] O .scf ø (fun hc=>G5 O O) O ?_)))))
 obtain⟨c,j,h⟩:=Gd h
 refine JLo (BL c) [16,17,18] O .scf ⟨Ua,Ua,Ua,ø⟩ (fun hc=>Gu (args:=[.agg (Gj.cs s),E8 boxes,E1 af]) O (Gaf s boxes af c (H2 hc j)) H92 ⟨O,O,O,O,O,O,ø⟩) O (JLo (BL (!c)) [19] O .scf ⟨Ua,ø⟩ (fun hc=>Yc (b:=c) O O) O (JLh (BL ((!a)||(!c))) (G82 O O O O) O (G6 (g (JCc O h (fun h hb=>?_) (fun h hb=>?_))))))
 ·
  refine Jr fun k=>(JLh (E2 ([]:List Int)) (Jd 1 O O) O (JLm (I64 2) O (G6 (k (Gs (⟨[E2 ([]:List Int),I64 2],[],ø,O,⟨⟨_,O,.conv (.same O)⟩,⟨_,O,.conv (.same O)⟩,ø⟩,O,congrArg (fun r:(List Int)×Int=>(.tup [E2 r.1,I64 r.2]:AV)) (M8 h)⟩))))))
 ·
  refine Gk (f (Jr fun l=>(JLh (.agg (Gj.cs s)) (Gm J8 O O O) O (JLm (E1 bf) O (JLm (E1 af) O ?_)))))
  obtain⟨d,m,h⟩:=Gd h
  refine JLh (E2 d) (Gu O (Q80 F s bf af d m) Y35 ⟨O,O,O,O,O,O,ø⟩) O (JLm (E2 d) O (JLm (I64 0) O (G6 (l (Gs (⟨[E2 d,I64 0],[],ø,O,⟨⟨_,O,.conv (.same O)⟩,⟨_,O,.conv (.same O)⟩,ø⟩,O,congrArg (fun r:(List Int)×Int=>(.tup [E2 r.1,I64 r.2]:AV)) (M8 h)⟩))))))

def R2 (F:Nat) (places:List H9) (covers:Int) (items:List H8):Option (Gj×(List Box)×J26):=
 bnd (Zo places covers) fun a=>
 bnd (Zd F a items 4 10) fun b=>
 some (a,b.1,b.2)
abbrev Ki:List AV:=[E3 ([]:List G3),E7 ([]:List G9),I64 0,I64 0,I64 0,I64 0,E4 ([]:List Row),E5 ([]:List Frame),E6 ([]:List H0),I64 0,I64 0,I64 0,I64 0]
abbrev Kj:List AV:=[LS 1 (E1) ([]:List (List G1)),LS 1 (E2) ([]:List (List Int))]
theorem G40 (F:Nat) (places:List H9) (covers:Int) (items:List H8) (r:Gj×(List Box)×J26) (h:R2 F places covers items=some r):Pure En 7 [Ed places,.sc (.int .u32 covers),Ec items] (·=.tup [.agg (Gj.cs r.1),E8 r.2.1,.agg [LS 1 (E1) r.2.2.States,LS 1 (E2) r.2.2.Water]]):=by
 unfold R2 at h
 refine Gz [.cell 6 36,.tmp 7,.cell 8 41] Tryz.func7 O O ?_
 refine Jr fun c=>(JLh (.ptr 1011 0) (G10 1011 Ki [.slice none 0 0,.slice none 0 0,E0,E0,E0,E0,.slice none 0 0,.slice none 0 0,.slice none 0 0,E0,E0,E0,E0] Ge9 ⟨.inr ⟨_,O,O⟩,.inr ⟨_,O,O⟩,.inl O,.inl O,.inl O,.inl O,.inr ⟨_,O,O⟩,.inr ⟨_,O,O⟩,.inr ⟨_,O,O⟩,.inl O,.inl O,.inl O,.inl O,ø⟩ O O) O (JLh (E8 ([]:List Box)) (Jd 9 O O) O (JLh (.ptr 1012 0) (G10 1012 Kj [.slice none 0 0,.slice none 0 0] H2e ⟨.inr ⟨_,O,O⟩,.inr ⟨_,O,O⟩,ø⟩ O O) O (G6 (c ?_)))))
 refine Jr fun d=>(JLm (Ed places) O (JLm (.sc (.int .u32 covers)) O ?_))
 obtain⟨b,e,h⟩:=Gd h
 refine JLh (.agg (Gj.cs b)) (Gu O (He1 places covers b e) Y38 ⟨O,O,O,O,ø⟩) O (JLh (.ptr 1013 0) (Hj 1013 13 H59 O O) O (Hq (u:=.junk) (H7 (u:=.agg (Gj.cs b)) (ds:=(Gj.cs b)) G57 O O O O O O O O) (G6 (d ?_))))
 refine fzQ [(2,Ec items),(6,.ptr 1011 0),(8,.ptr 1012 0),(9,Ee b)] [(1011,.box 36 Ki),(1012,.box 41 Kj)] 1013 rfl rfl rfl ⟨⟨_,rfl,.boxEq rfl rfl⟩,⟨_,rfl,.boxEq rfl rfl⟩,ø⟩ rfl (Jr fun f=>(JLh (.agg (Gj.cs b)) (Gm J8 O O O) O (JLm (Ec items) O ?_)))
 obtain⟨a,g,h⟩:=Gd h
 refine JLh (.tup [E8 a.1,.agg [LS 1 (E1) a.2.States,LS 1 (E2) a.2.Water]]) (Gu O (Hb8 F b items 4 10 a g) Y37 ⟨O,O,O,O,O,O,O,O,ø⟩) O (JLm (.tup [E8 a.1,.agg [LS 1 (E1) a.2.States,LS 1 (E2) a.2.Water]]) O (JLh (E8 a.1) (Gv O O O) O (JLh (.agg [LS 1 (E1) a.2.States,LS 1 (E2) a.2.Water]) (Gv O O O) O (JLh (.ptr 1014 0) (Hj 1014 2 H58 O O) O (JLm (E8 a.1) O (Hq (u:=.junk) (H7 (u:=.agg [LS 1 (E1) a.2.States,LS 1 (E2) a.2.Water]) (ds:=[LS 1 (E1) a.2.States,LS 1 (E2) a.2.Water]) G56 O O O O O O O O) (G6 (f ?_))))))))
 refine fzQ [(6,.ptr 1011 0),(8,.ptr 1012 0),(9,Ee b),(10,E8 a.1),(11,.dptr [LS 1 (E1) a.2.States,LS 1 (E2) a.2.Water])] [(1011,.box 36 Ki),(1012,.box 41 Kj)] 1014 rfl rfl rfl ⟨⟨_,rfl,.boxEq rfl rfl⟩,⟨_,rfl,.boxEq rfl rfl⟩,ø⟩ rfl (Js fun i=>?_)
 refine Qn (l':=[(6,.ptr 1011 0),(8,.ptr 1012 0),(9,Ee b),(10,E8 a.1),(11,.dptr [LS 1 (E1) a.2.States,LS 1 (E2) a.2.Water])]) (L':=[(1011,.box 36 Ki),(1012,.box 41 Kj)]) ⟨(.sm O O),⟨fbQ O (.sm O O),fbQ O (.sm O O),ø⟩,rfl⟩ ?_
 refine Jm [3,5] [0,0,0,0,1,0] [0,1,1,0,1,0] [[(1011,.box 36 Ki),(1012,.box 41 Kj)],((1011,.box 36 (Gj.cs b))::[(1011,.box 36 Ki),(1012,.box 41 Kj)]),((1012,.box 41 [LS 1 (E1) a.2.States,LS 1 (E2) a.2.Water])::((1011,.box 36 (Gj.cs b))::[(1011,.box 36 Ki),(1012,.box 41 Kj)]))] J1 (by kernel_rfl) rfl rfl ?_
 refine Gc (u:=.agg (Gj.cs b)) O O ⟨Gf (Gm J8 O O O) O,ø⟩ (Gc (u:=E8 a.1) O O ⟨Gf (G5 O O) O,Gf (G5 O O) O,ø⟩ (Gc (u:=.agg [LS 1 (E1) a.2.States,LS 1 (E2) a.2.Water]) O O ⟨Gf (Gm Gc0 O O O) O,Gf (Gm Gc0 O O O) O,ø⟩ (H22 (u:=.junk) O O O O (Gf (H7 (u:=.agg (Gj.cs b)) (ds:=(Gj.cs b)) G57 O O O O O O O O) O) (Gc (u:=E8 a.1) O O ⟨Gf (G7 O O) O,ø⟩ (H22 (u:=.junk) O O O O (Gf (H7 (u:=.agg [LS 1 (E1) a.2.States,LS 1 (E2) a.2.Water]) (ds:=[LS 1 (E1) a.2.States,LS 1 (E2) a.2.Water]) G56 O O O O O O O O) O) (R4 ?_))))))
 refine i (Gs (⟨[.agg (Gj.cs b),E8 a.1,.agg [LS 1 (E1) a.2.States,LS 1 (E2) a.2.Water]],[],ø,O,⟨⟨_,⟨_,_,_,_,O,O,O,.inl ⟨J8,O⟩⟩,.conv (.same O)⟩,⟨_,O,.conv (.same O)⟩,⟨_,⟨_,_,_,_,O,O,O,.inl ⟨Gc0,O⟩⟩,.conv (.same O)⟩,ø⟩,O,congrArg (fun r:Gj×(List Box)×J26=>(.tup [.agg (Gj.cs r.1),E8 r.2.1,.agg [LS 1 (E1) r.2.2.States,LS 1 (E2) r.2.2.Water]]:AV)) (M8 h)⟩))
end
end Go.Proofs.YtgcpimpnpcdmmaaGreat
