/- Walks of functions. -/
import Derived.Test.YtgcpimpnpcdmmaaGreatXVa
set_option maxRecDepth 100000
set_option maxHeartbeats 1000000
set_option linter.unusedVariables false
set_option linter.unusedSimpArgs false
namespace Go.Proofs.YtgcpimpnpcdmmaaGreat
open Go.RowKit
noncomputable section
open XAF
open XCF
open XSF
open XKF
open XTF
open XUF
open XVF

def Gaf (l:List G1) (id_:Int):Option (Slot×Bool):=
 bnd (Qa l (fun z0=>Gdc z0 id_)) fun a=>
 bif decide (a < 0) then
 (some ((Slot.mk 0 0 0),false))
 else
 (Qw l a fun b=>
  some (b.Slot,true))
theorem Hd7 (l:List G1) (id_:Int) (r:Slot×Bool) (h:Gaf l id_=some r):Pure En 69 [E1 l,I64 id_] (·=.tup [.agg (Slot.cs r.1),BL r.2]):=by
 unfold Gaf at h
 refine Gx [.cell 4 57,.tmp 5] Tryz.func69 O O (Jr fun c=>(JLh (.ptr 1136 0) (Q4 (cs:=[I64 id_]) 1136 O O O O O) O (JLh (.ptr 1137 0) (G06 1137 [I64 0,I64 0,U8 0] [E0,E0,.int .u8 0] Ge3 (zzQ O) O O) O (JLm (BL false) O (G5 (c (Gn [(0,E1 l),(3,.dptr [I64 id_]),(4,.ptr 1137 0)] [(1137,.box 57 [I64 0,I64 0,U8 0])] 1136 rfl rfl rfl ⟨⟨_,rfl,.boxEq rfl rfl⟩,ø⟩ rfl (by exact⟨.conv (.same rfl),.ptr,.conv (.same rfl),ø⟩) (Jr fun d=>(JLm (E1 l) O (JLh (.fn 118 [.dptr [I64 id_]]) (Q2 (cs:=[.dptr [I64 id_]]) O O) O ?_))))))))))
 obtain⟨b,e,h⟩:=Ge h
 refine JLh (I64 b) (Gu O (G5a l (fun z0=>Gdc z0 id_) 118 [.dptr [I64 id_]] Rad O (fun z0 q hq=>Q71 z0 id_ q hq) b e) Qa8 ⟨O,O,O,O,ø⟩) O (JLm (I64 b) O (G5 (d (Js fun g=>Jr fun i=>(JLm (I64 b) O (JLh (BL (decide (b < 0))) (Jo O O O) O (G5 (i (JCc O h (fun h hb=>?_) (fun h hb=>?_))))))))))
 ·
  refine Jr fun j=>(JLh (.agg [I64 0,I64 0,U8 0]) (Hg (cs:=[I64 0,I64 0,U8 0]) [(0,1),(1,1),(2,1)] [I64 0,I64 0,U8 0] [E0,E0,.int .u8 0] H05 Ge3 (zzQ O) O O) O (Ho (u:=.junk) (H7 (u:=.agg [I64 0,I64 0,U8 0]) (ds:=[I64 0,I64 0,U8 0]) Yd O O O O O O O O) (JLm (BL false) O (G5 (j (Gs (⟨[.agg [I64 0,I64 0,U8 0],BL false],[],ø,O,⟨⟨_,⟨_,_,_,_,O,O,O,.inl ⟨J2,O⟩⟩,.conv (.same O)⟩,⟨_,O,.conv (.same O)⟩,ø⟩,O,congrArg (fun r:Slot×Bool=>(.tup [.agg (Slot.cs r.1),BL r.2]:AV)) (M7 h)⟩)))))))
 ·
  refine Gm (g (Jr fun k=>(JLm (E1 l) O (JLm (I64 b) O ?_))))
  obtain⟨o,a,m,n,h⟩:=Yc h
  refine JLh (Eh a) (Hb (f:=G1.av) (xs:=l) (y:=a) O O O H3 n m) O (JLh (.dptr ((G1.cs a).drop 1)) (Ga Jn O O O) O (JLh (.agg ((G1.cs a).drop 1)) (Gk J2 O O O) O (Ho (u:=.junk) (H7 (u:=.agg ((G1.cs a).drop 1)) (ds:=[I64 a.Slot.G3,I64 a.Slot.Tier,U8 a.Slot.Half]) Yd O O O O O O O O) (JLm (BL true) O (G5 (k (Gs (⟨[.agg ((G1.cs a).drop 1),BL true],[],ø,O,⟨⟨_,⟨_,_,_,_,O,O,O,.inl ⟨J2,O⟩⟩,.conv (.same O)⟩,⟨_,O,.conv (.same O)⟩,ø⟩,O,congrArg (fun r:Slot×Bool=>(.tup [.agg (Slot.cs r.1),BL r.2]:AV)) (M7 h)⟩))))))))

def G2b (m:H8 Int Unit) (k:Int):Option (Bool×(H8 Int Unit)):=
 bif (H8.has m k) then
 (some (false,m))
 else
 (some (true,(H8.put m k ())))
theorem H5d (m:H8 Int Unit) (k:Int) (r:Bool×(H8 Int Unit)) (h:G2b m k=some r):J5 En 68 [.mp 1064,I64 k] [(1064,MP 140 Ks (fun _:Unit=>.agg []) m)] (fun av L'=>av=BL r.1∧L'=[(1064,MP 140 Ks (fun _:Unit=>.agg []) r.2)]):=by
 unfold G2b at h
 refine Jk [1064] [.tmp 4] Tryz.func68 O O (G18 O) (Jr fun b=>(JLm (BL false) O (G5 (b (Js fun c=>Jr fun d=>(JLm (.mp 1064) O (JLm (I64 k) O (JLh (.tup [.agg [],BL (H8.has m k)]) (R04 (av:=(fun _:Unit=>.agg [])) (m:=m) (a:=k) () (.agg #[]) O O O O J7c Q87 Ya2 O) O (JLm (.tup [.agg [],BL (H8.has m k)]) O (JLh (.agg []) (Gz O O O) O (JLh (BL (H8.has m k)) (Gz O O O) O (JLh (.ptr 1135 0) (Hk 1135 0 R56 O O) O (Ho (u:=.junk) (Z29 (u:=.agg []) R96 O O O O O O) (JLm (BL (H8.has m k)) O (G5 (d ?_))))))))))))))))
 refine Gn [(0,.mp 1064),(1,I64 k),(6,BL (H8.has m k))] [(1064,MP 140 Ks (fun _:Unit=>.agg []) m)] 1135 rfl rfl rfl ⟨fmQ O,ø⟩ rfl (by exact⟨.conv (.same rfl),.conv (.same rfl),.conv (.same rfl),ø⟩) (Jr fun e=>(JLm (BL (H8.has m k)) O (G5 (e (JCc O h (fun h hb=>?_) (fun h hb=>?_))))))
 ·
  refine Jr fun f=>(JLm (BL false) O (G5 (f (Gs ?_))))
  obtain rfl:=M7 h
  exact⟨[BL false],[(1064,MP 140 Ks (fun _:Unit=>.agg []) m)],⟨⟨_,O,.map⟩,ø⟩,O,⟨⟨_,O,.conv (.same O)⟩,ø⟩,O,O⟩
 ·
  refine Gm (c (Jr fun g=>(JLm (.mp 1064) O (JLm (I64 k) O (JLh (.agg []) (Hg (cs:=[]) [] [] [] R0a R92 ø O O) O (Ho (u:=.junk) (J1a (m:=m) (a:=k) (v:=()) O O O O O O J7c Q87) (G5 (g (Jr fun i=>(JLm (BL true) O (G5 (i (Gs ?_)))))))))))))
  obtain rfl:=M7 h
  exact⟨[BL true],[(1064,MP 140 Ks (fun _:Unit=>.agg []) (H8.put m k ()))],⟨⟨_,O,.map⟩,ø⟩,O,⟨⟨_,O,.conv (.same O)⟩,ø⟩,O,O⟩

def G15 (self_:Int→(H8 Int Unit)→(List Int)→(List (List G1))→Gi→Option ((H8 Int Unit)×(List Int))) (F:Nat) (id_:Int) (p1:H8 Int Unit) (p:List Int) (q:List (List G1)) (i:Gi):Option ((H8 Int Unit)×(List Int)):=
 bnd (G2b p1 id_) fun w=>
 bif (!w.1) then
 (some (w.2,p))
 else
 (need (decide ((p.length+[id_].length)*8≤140737488355328∧p.length+[id_].length≤maxLen)) <|
  each (fun y7 i7 (d:(H8 Int Unit)×(List Int)) a1=>
   jp (fun j=>
    bnd (Gaf y7 id_) fun f=>
    bif (!f.2) then
    (j (d.1,d.2))
    else
    (jp (fun k=>
      Qw i.Columns f.1.G3 fun a2=>
      bif (!a2.Deck) then
      (bnd (Rb i f.1.G3) fun a3=>
       k a3)
      else
      (k (-1))) fun(g:Int)=>
     each (fun s a8 (b:(H8 Int Unit)×(List Int)) x=>
      jp (fun l=>
       bnd (Gfd s.Slot f.1) fun a4=>
       bif a4 then
       (bnd (self_ s.Box b.1 b.2 q i) fun t=>
        l (t.1,t.2))
       else
       (l (b.1,b.2))) fun(u:(H8 Int Unit)×(List Int))=>
      x (u.1,u.2))
     (fun(b:(H8 Int Unit)×(List Int))=>
      each (fun a5 a9 (c:(H8 Int Unit)×(List Int)) y=>
       each (fun e a7 (a:(H8 Int Unit)×(List Int)) r=>
        jp (fun h=>
         bnd (bif decide (0≤g) then Qw i.Columns e.Slot.G3 some else some default) fun m=>
         bnd (bif ((decide (0≤g))&&m.Deck) then Rb i e.Slot.G3 else some default) fun z=>
         bif (((decide (0≤g))&&m.Deck)&&(decide (z=g))) then
         (bnd (self_ e.Box a.1 a.2 q i) fun n=>
          h (n.1,n.2))
         else
         (h (a.1,a.2))) fun(o:(H8 Int Unit)×(List Int))=>
        r (o.1,o.2))
       (fun(a:(H8 Int Unit)×(List Int))=>
        y (a.1,a.2)) a5 0 (c.1,c.2))
      (fun(c:(H8 Int Unit)×(List Int))=>
       j (c.1,c.2)) q 0 (b.1,b.2)) y7 0 (d.1,d.2))) fun(v:(H8 Int Unit)×(List Int))=>
   a1 (v.1,v.2))
  (fun(d:(H8 Int Unit)×(List Int))=>
   some (d.1,d.2)) q 0 (w.2,(p++[id_])))
def Y6:Nat→Int→(H8 Int Unit)→(List Int)→(List (List G1))→Gi→Option ((H8 Int Unit)×(List Int))
 | 0,_,_,_,_,_=>none
 | F+1,id_,a,b,c,d=>G15 (Y6 F) F id_ a b c d
abbrev Kg (a:List (List G1)) (b:Gi):List AV:=[.ptr 1058 0,.ptr 1059 0,.dptr [LS 1 (E1) a],Ee b,.ptr 1060 0]
theorem Jfc (self_:Int→(H8 Int Unit)→(List Int)→(List (List G1))→Gi→Option ((H8 Int Unit)×(List Int))) (self_w:∀ (id_:Int) (p1:H8 Int Unit) (m:List Int) (a:List (List G1)) (c:Gi) (r:(H8 Int Unit)×(List Int)),self_ id_ p1 m a c=some r→J5 En 67 [I64 id_,.ptr 1058 0,.ptr 1059 0,.dptr [LS 1 (E1) a],Ee c,.ptr 1060 0] [(1058,.box 140 [.mp 1064]),(1064,MP 140 Ks (fun _:Unit=>.agg []) p1),(1059,.box 49 [.vec 1065 m.length 1 m.length]),(1065,.vec 3 1 m.length (m.map I64)),(1060,.box 141 [.fn 67 [.ptr 1058 0,.ptr 1059 0,.dptr [LS 1 (E1) a],Ee c,.ptr 1060 0]])] (fun av L'=>av=.tup []∧L'=[(1058,.box 140 [.mp 1064]),(1064,MP 140 Ks (fun _:Unit=>.agg []) r.1),(1059,.box 49 [.vec 1065 r.2.length 1 r.2.length]),(1065,.vec 3 1 r.2.length (r.2.map I64)),(1060,.box 141 [.fn 67 [.ptr 1058 0,.ptr 1059 0,.dptr [LS 1 (E1) a],Ee c,.ptr 1060 0]])])) (F:Nat) (id_:Int) (p1:H8 Int Unit) (m:List Int) (a:List (List G1)) (c:Gi) (r:(H8 Int Unit)×(List Int)) (h:G15 self_ F id_ p1 m a c=some r):J5 En 67 [I64 id_,.ptr 1058 0,.ptr 1059 0,.dptr [LS 1 (E1) a],Ee c,.ptr 1060 0] [(1058,.box 140 [.mp 1064]),(1064,MP 140 Ks (fun _:Unit=>.agg []) p1),(1059,.box 49 [.vec 1065 m.length 1 m.length]),(1065,.vec 3 1 m.length (m.map I64)),(1060,.box 141 [.fn 67 [.ptr 1058 0,.ptr 1059 0,.dptr [LS 1 (E1) a],Ee c,.ptr 1060 0]])] (fun av L'=>av=.tup []∧L'=[(1058,.box 140 [.mp 1064]),(1064,MP 140 Ks (fun _:Unit=>.agg []) r.1),(1059,.box 49 [.vec 1065 r.2.length 1 r.2.length]),(1065,.vec 3 1 r.2.length (r.2.map I64)),(1060,.box 141 [.fn 67 [.ptr 1058 0,.ptr 1059 0,.dptr [LS 1 (E1) a],Ee c,.ptr 1060 0]])]):=by
 unfold G15 at h
 refine Jk [1058,1064,1059,1065,1060] [] Tryz.func67 O O (G18 O) (Js fun i0=>Jr fun i1=>(JLh (.mp 1064) (J1 R09 O O O O) O (JLm (I64 id_) O ?_)))
 obtain⟨r3,i2,h⟩:=Ge h
 refine JLh (BL r3.1) (Yv (args:=[.mp 1064,I64 id_]) (L0:=[(1064,MP 140 Ks (fun _:Unit=>.agg []) p1)]) (Lr:=[(1064,MP 140 Ks (fun _:Unit=>.agg []) r3.2)]) O (H5d p1 id_ r3 i2) Y18 ⟨.inl O,O,.inl O,O,ø⟩ ⟨O,ø⟩ O O O) O (JLh (BL (!r3.1)) (Y8 (b:=r3.1) O O) O (G5 (i1 (JCc O h (fun h hb=>?_) (fun h hb=>?_)))))
 ·
  refine Gs ?_
  obtain rfl:=M7 h
  exact⟨[],[(1058,.box 140 [.mp 1064]),(1064,MP 140 Ks (fun _:Unit=>.agg []) r3.2),(1059,.box 49 [.vec 1065 m.length 1 m.length]),(1065,.vec 3 1 m.length (m.map I64)),(1060,.box 141 [.fn 67 (Kg a c)])],⟨⟨_,O,.boxL O ⟨.same O,ø⟩⟩,⟨_,O,.map⟩,⟨_,O,.boxL O ⟨.same O,ø⟩⟩,⟨_,O,.vec⟩,⟨_,O,.boxL O ⟨.same O,ø⟩⟩,ø⟩,O,ø,O,O⟩
 ·
  refine Gm (i0 (Jr fun i3=>(JLh (.vec 1065 m.length 1 m.length) (J1 Rn O O O O) O (JLm (I64 id_) O (JLh (E2 [id_]) (He (xs:=[I64 id_]) O ⟨O,O,ø⟩ H1 Y0 O O O O) O ?_)))))
  obtain⟨i4,h⟩:=Ji h
  refine JLh (.vec 1065 ((m++[id_]).length) 1 ((m++[id_]).length)) (G4f (f:=I64) (xs:=m) (ys:=[id_]) (ver:=m.length) (ver1:=(m++[id_]).length) rfl rfl rfl rfl H1 G89 i4 (fun _=>rfl) (.inl rfl) (by simp)) O (Ho (u:=.junk) (H7 (u:=.vec 1065 ((m++[id_]).length) 1 ((m++[id_]).length)) (ds:=[.vec 1065 ((m++[id_]).length) 1 ((m++[id_]).length)]) Hf8 O O O O O O O O) (G5 (i3 (Jr fun i5=>(JLh (LS 1 (E1) a) (Gg Ys O O O) O (JLl Jz O O O fun d7=>(JLm (I64 0) O (G5 (i5 (Gq ?_))))))))))
  obtain⟨b7,i6,i8,d8,h⟩:=Jc h
  refine Hn (fun s (l:(H8 Int Unit)×(List Int))=>each b7 i6 (List.drop s a) s l=some r) (fun s l=>[(0,I64 id_),(3,.dptr [LS 1 (E1) a]),(4,Ee c),(5,.ptr 1060 0),(26,LS 1 (E1) a),(27,Em a.length),(28,Em s)]) (fun s l=>[(1064,MP 140 Ks (fun _:Unit=>.agg []) l.1),(1065,.vec 3 1 l.2.length (l.2.map I64)),(1058,.box 140 [.mp 1064]),(1059,.box 49 [.vec 1065 l.2.length 1 l.2.length]),(1060,.box 141 [.fn 67 (Kg a c)])]) (fun s=>a.length - s) 0 (r3.2,(m++[id_])) h ⟨(.sm O O),⟨fmQ O,⟨_,rfl,.vec⟩,fbQ O ⟨.same rfl,ø⟩,fbQ O ⟨.same rfl,ø⟩,fbQ O ⟨.same rfl,ø⟩,ø⟩,rfl⟩ ?_
  clear h
  intro s l d4 K7 e7
  refine Jr fun i9=>(JLh (BL (decide ((s:Int) < (a.length:Int)))) (Jo O O O) O (G5 (i9 (Js fun j0=>Gr O (fun hb=>?_) (fun hb=>?_)))))
  ·
   have d5:=Q1 hb
   obtain⟨w,k3,j1,j2,h⟩:=Ht d4 d5
   replace h:=Zn i8 h
   refine Gm (j0 ?_)
   obtain⟨d9,b6,h⟩:=Rm h
   refine Qi (fun x:(H8 Int Unit)×(List Int)=>d9 x=some r) (fun x=>[(0,I64 id_),(3,.dptr [LS 1 (E1) a]),(4,Ee c),(5,.ptr 1060 0),(26,LS 1 (E1) a),(27,Em a.length),(28,Em s)]) (fun x=>[(1064,MP 140 Ks (fun _:Unit=>.agg []) x.1),(1065,.vec 3 1 x.2.length (x.2.map I64)),(1058,.box 140 [.mp 1064]),(1059,.box 49 [.vec 1065 x.2.length 1 x.2.length]),(1060,.box 141 [.fn 67 (Kg a c)])]) (fun Kj10 ej10=>?_) ?_
   ·
    refine Gq (Jr fun e0=>(JLh (.dptr [E1 w]) (Hb (f:=(E1)) (xs:=a) (y:=w) O O O Jz j1 O) O (JLh (E1 w) (Gg Ze O O O) O (JLm (E1 w) O (G5 (e0 (Jr fun e1=>(JLm (E1 w) O (JLm (I64 id_) O ?_)))))))))
    obtain⟨g,e2,h⟩:=Ge h
    refine JLh (.tup [.agg (Slot.cs g.1),BL g.2]) (Gu O (Hd7 w id_ g e2) J9f ⟨O,O,O,O,ø⟩) O (JLm (.tup [.agg (Slot.cs g.1),BL g.2]) O (JLh (.agg (Slot.cs g.1)) (Gz O O O) O (JLh (BL g.2) (Gz O O O) O (JLh (.ptr 1132 0) (Hk 1132 3 Rg O O) O (Ho (u:=.junk) (H7 (u:=.agg (Slot.cs g.1)) (ds:=[I64 g.1.G3,I64 g.1.Tier,U8 g.1.Half]) Yd O O O O O O O O) (JLm (BL g.2) O (G5 (e1 ?_))))))))
    refine fzQ [(0,I64 id_),(3,.dptr [LS 1 (E1) a]),(4,Ee c),(5,.ptr 1060 0),(8,E1 w),(9,Ek g.1),(10,BL g.2),(26,LS 1 (E1) a),(27,Em a.length),(28,Em s)] [(1064,MP 140 Ks (fun _:Unit=>.agg []) l.1),(1065,.vec 3 1 l.2.length (l.2.map I64)),(1058,.box 140 [.mp 1064]),(1059,.box 49 [.vec 1065 l.2.length 1 l.2.length]),(1060,.box 141 [.fn 67 (Kg a c)])] 1132 rfl rfl rfl ⟨fmQ O,⟨_,rfl,.vec⟩,⟨_,rfl,.boxEq rfl rfl⟩,⟨_,rfl,.boxEq rfl rfl⟩,⟨_,rfl,.boxEq rfl rfl⟩,ø⟩ rfl (Js fun e3=>?_)
    refine Jr fun e4=>(JLm (BL g.2) O (JLh (BL (!g.2)) (Y8 (b:=g.2) O O) O (G5 (e4 (JCc O h (fun h hb=>?_) (fun h hb=>?_))))))
    ·
     refine Hr (ej10 _ _ (l.1,l.2) h ⟨(.sm O O),⟨fmQ O,⟨_,rfl,.vec⟩,fbQ O ⟨.same rfl,ø⟩,fbQ O ⟨.same rfl,ø⟩,fbQ O ⟨.same rfl,ø⟩,ø⟩,rfl⟩)
    ·
     refine Gm (e3 (Jr fun e5=>(JLm (I64 (-1)) O (G5 (e5 ?_)))))
     obtain⟨e6,b8,h⟩:=Rm h
     refine Qi (fun j:Int=>e6 j=some r) (fun j=>[(0,I64 id_),(3,.dptr [LS 1 (E1) a]),(4,Ee c),(5,.ptr 1060 0),(8,E1 w),(9,Ek g.1),(11,I64 j),(26,LS 1 (E1) a),(27,Em a.length),(28,Em s)]) (fun j=>[(1064,MP 140 Ks (fun _:Unit=>.agg []) l.1),(1065,.vec 3 1 l.2.length (l.2.map I64)),(1058,.box 140 [.mp 1064]),(1059,.box 49 [.vec 1065 l.2.length 1 l.2.length]),(1060,.box 141 [.fn 67 (Kg a c)])]) (fun Kj17 ej17=>?_) ?_
     ·
      refine Jr fun e8=>(JLh (Ee c) (Ga J8 O O O) O (JLh (E3 c.Columns) (Gg Jp O O O) O (JLh (Ek g.1) (Ga J7 O O O) O (JLh (I64 g.1.G3) (Gg Gb O O O) O ?_))))
      obtain⟨k4,a3,e9,f0,h⟩:=Yc h
      refine JLh (Ej a3) (Hb (f:=G3.av) (xs:=c.Columns) (y:=a3) O O O Hy f0 e9) O (JLh (.dptr ((G3.cs a3).drop 2)) (Ga Yj O O O) O (JLh (BL a3.Deck) (Gg Qb O O O) O (JLh (BL (!a3.Deck)) (Y8 (b:=a3.Deck) O O) O (G5 (e8 (JCc O h (fun h hb=>?_) (fun h hb=>?_)))))))
      ·
       refine G2 (JLh (.agg (Gi.cs c)) (Gk Jd O O O) O (JLh (Ek g.1) (Ga J7 O O O) O (JLh (I64 g.1.G3) (Gg Gb O O O) O ?_)))
       obtain⟨a7,f1,h⟩:=Ge h
       refine JLh (I64 a7) (Gu O (G5f c g.1.G3 a7 f1) H83 ⟨O,O,O,O,ø⟩) O (JLm (I64 a7) O (G5 (ej17 _ _ a7 h ⟨(.sm O O),⟨fmQ O,⟨_,rfl,.vec⟩,fbQ O ⟨.same rfl,ø⟩,fbQ O ⟨.same rfl,ø⟩,fbQ O ⟨.same rfl,ø⟩,ø⟩,rfl⟩)))
      ·
       refine Gm (ej17 _ _ (-1) h ⟨(.sm O O),⟨fmQ O,⟨_,rfl,.vec⟩,fbQ O ⟨.same rfl,ø⟩,fbQ O ⟨.same rfl,ø⟩,fbQ O ⟨.same rfl,ø⟩,ø⟩,rfl⟩)
     ·intro j h
      replace h:=app1 b8 h
      refine Js fun f2=>Jr fun f3=>(JLm (E1 w) O (JLl H3 O O O fun f4=>(JLm (I64 0) O (G5 (f3 (Gq ?_))))))
      obtain⟨j3,f5,f6,b9,h⟩:=Jc h
      refine Hn (fun t (i:(H8 Int Unit)×(List Int))=>each j3 f5 (List.drop t w) t i=some r) (fun t i=>[(0,I64 id_),(3,.dptr [LS 1 (E1) a]),(4,Ee c),(5,.ptr 1060 0),(9,Ek g.1),(11,I64 j),(26,LS 1 (E1) a),(27,Em a.length),(28,Em s),(52,E1 w),(53,Em w.length),(54,Em t)]) (fun t i=>[(1064,MP 140 Ks (fun _:Unit=>.agg []) i.1),(1065,.vec 3 1 i.2.length (i.2.map I64)),(1058,.box 140 [.mp 1064]),(1059,.box 49 [.vec 1065 i.2.length 1 i.2.length]),(1060,.box 141 [.fn 67 (Kg a c)])]) (fun t=>w.length - t) 0 (l.1,l.2) h ⟨(.sm O O),⟨fmQ O,⟨_,rfl,.vec⟩,fbQ O ⟨.same rfl,ø⟩,fbQ O ⟨.same rfl,ø⟩,fbQ O ⟨.same rfl,ø⟩,ø⟩,rfl⟩ ?_
      clear h
      intro t i b0 k5 j4
      refine Jr fun f7=>(JLh (BL (decide ((t:Int) < (w.length:Int)))) (Jo O O O) O (G5 (f7 (Js fun f8=>Gr O (fun hb=>?_) (fun hb=>?_)))))
      ·
       have b1:=Q1 hb
       obtain⟨n,k0,f9,g0,h⟩:=Ht b0 b1
       replace h:=Zn f6 h
       refine Gm (f8 ?_)
       obtain⟨g1,c0,h⟩:=Rm h
       refine Qi (fun z:(H8 Int Unit)×(List Int)=>g1 z=some r) (fun z=>[(0,I64 id_),(3,.dptr [LS 1 (E1) a]),(4,Ee c),(5,.ptr 1060 0),(9,Ek g.1),(11,I64 j),(26,LS 1 (E1) a),(27,Em a.length),(28,Em s),(52,E1 w),(53,Em w.length),(54,Em t)]) (fun z=>[(1064,MP 140 Ks (fun _:Unit=>.agg []) z.1),(1065,.vec 3 1 z.2.length (z.2.map I64)),(1058,.box 140 [.mp 1064]),(1059,.box 49 [.vec 1065 z.2.length 1 z.2.length]),(1060,.box 141 [.fn 67 (Kg a c)])]) (fun Kj59 ej59=>?_) ?_
       ·
        refine Gq (Jr fun g2=>(JLh (Eh n) (Hb (f:=G1.av) (xs:=w) (y:=n) O O O H3 f9 O) O (JLh (.agg (G1.cs n)) (Gk Qd O O O) O (JLh (.ptr 1133 0) (Hk 1133 4 Jy O O) O (Ho (u:=.junk) (H7 (u:=.agg (G1.cs n)) (ds:=[I64 n.Box,I64 n.Slot.G3,I64 n.Slot.Tier,U8 n.Slot.Half]) Rk O O O O O O O O) (G5 (g2 ?_)))))))
        refine fzQ [(0,I64 id_),(3,.dptr [LS 1 (E1) a]),(4,Ee c),(5,.ptr 1060 0),(9,Ek g.1),(11,I64 j),(13,Eh n),(26,LS 1 (E1) a),(27,Em a.length),(28,Em s),(52,E1 w),(53,Em w.length),(54,Em t)] [(1064,MP 140 Ks (fun _:Unit=>.agg []) i.1),(1065,.vec 3 1 i.2.length (i.2.map I64)),(1058,.box 140 [.mp 1064]),(1059,.box 49 [.vec 1065 i.2.length 1 i.2.length]),(1060,.box 141 [.fn 67 (Kg a c)])] 1133 rfl rfl rfl ⟨fmQ O,⟨_,rfl,.vec⟩,⟨_,rfl,.boxEq rfl rfl⟩,⟨_,rfl,.boxEq rfl rfl⟩,⟨_,rfl,.boxEq rfl rfl⟩,ø⟩ rfl ?_
        refine Jr fun g3=>(JLh (.dptr ((G1.cs n).drop 1)) (Ga Jn O O O) O (JLh (.agg ((G1.cs n).drop 1)) (Gk J2 O O O) O (JLh (.agg (Slot.cs g.1)) (Gk J2 O O O) O ?_)))
        obtain⟨d6,g4,h⟩:=Ge h
        refine JLh (BL d6) (Gu O (J90 n.Slot g.1 d6 g4) Q9e ⟨O,O,O,O,ø⟩) O (G5 (g3 (JCc O h (fun h hb=>?_) (fun h hb=>?_))))
        ·
         refine G2 (JLh (.fn 67 (Kg a c)) (J1 Hc6 O O O O) O (JLh (Eh n) (Ga J6 O O O) O (JLh (I64 n.Box) (Gg Gb O O O) O ?_)))
         obtain⟨a2,g5,h⟩:=Ge h
         refine JLh (.tup []) (H1f (args:=[I64 n.Box]) (caps:=(Kg a c)) (L0:=[(1058,.box 140 [.mp 1064]),(1064,MP 140 Ks (fun _:Unit=>.agg []) i.1),(1059,.box 49 [.vec 1065 i.2.length 1 i.2.length]),(1065,.vec 3 1 i.2.length (i.2.map I64)),(1060,.box 141 [.fn 67 (Kg a c)])]) (Lr:=[(1058,.box 140 [.mp 1064]),(1064,MP 140 Ks (fun _:Unit=>.agg []) a2.1),(1059,.box 49 [.vec 1065 a2.2.length 1 a2.2.length]),(1065,.vec 3 1 a2.2.length (a2.2.map I64)),(1060,.box 141 [.fn 67 (Kg a c)])]) O O (self_w n.Box i.1 i.2 a c a2 g5) Ja0 ⟨.inl O,O,ø⟩ O ⟨O,O,O,O,O,ø⟩ O O O) O (G5 ?_)
         exact ej59 _ _ (a2.1,a2.2) h ⟨(.sm O O),⟨fmQ O,⟨_,rfl,.vec⟩,fbQ O ⟨.same rfl,ø⟩,fbQ O ⟨.same rfl,ø⟩,fbQ O ⟨.same rfl,ø⟩,ø⟩,rfl⟩
        ·
         refine Gm (ej59 _ _ (i.1,i.2) h ⟨(.sm O O),⟨fmQ O,⟨_,rfl,.vec⟩,fbQ O ⟨.same rfl,ø⟩,fbQ O ⟨.same rfl,ø⟩,fbQ O ⟨.same rfl,ø⟩,ø⟩,rfl⟩)
       ·intro z h
        replace h:=app1 c0 h
        refine G2 (JLh (I64 ((t+1:Nat):Int)) (Ja (Hp b1 f4) O O O) O (JLm (I64 ((t+1:Nat):Int)) O (G5 (j4 _ _ (t+1) (z.1,z.2) (app1 g0 h) (by omega) ⟨(.sm O O),⟨fmQ O,⟨_,rfl,.vec⟩,fbQ O ⟨.same rfl,ø⟩,fbQ O ⟨.same rfl,ø⟩,fbQ O ⟨.same rfl,ø⟩,ø⟩,rfl⟩))))
      ·
       have h:=app1 b9 (Hu b0 (Hh hb))
       refine Hr (f2 (Jr fun g6=>(JLh (LS 1 (E1) a) (Gg Ys O O O) O (JLl Jz O O O fun g7=>(JLm (I64 0) O (G5 (g6 (Gq ?_))))))))
       obtain⟨j5,g8,g9,c1,h⟩:=Jc h
       refine Hn (fun o (v:(H8 Int Unit)×(List Int))=>each j5 g8 (List.drop o a) o v=some r) (fun o v=>[(0,I64 id_),(3,.dptr [LS 1 (E1) a]),(4,Ee c),(5,.ptr 1060 0),(11,I64 j),(26,LS 1 (E1) a),(27,Em a.length),(28,Em s),(67,LS 1 (E1) a),(68,Em a.length),(69,Em o)]) (fun o v=>[(1064,MP 140 Ks (fun _:Unit=>.agg []) v.1),(1065,.vec 3 1 v.2.length (v.2.map I64)),(1058,.box 140 [.mp 1064]),(1059,.box 49 [.vec 1065 v.2.length 1 v.2.length]),(1060,.box 141 [.fn 67 (Kg a c)])]) (fun o=>a.length - o) 0 (i.1,i.2) h ⟨(.sm O O),⟨fmQ O,⟨_,rfl,.vec⟩,fbQ O ⟨.same rfl,ø⟩,fbQ O ⟨.same rfl,ø⟩,fbQ O ⟨.same rfl,ø⟩,ø⟩,rfl⟩ ?_
       clear h
       intro o v b2 k6 j6
       refine Jr fun h0=>(JLh (BL (decide ((o:Int) < (a.length:Int)))) (Jo O O O) O (G5 (h0 (Js fun h1=>Gr O (fun hb=>?_) (fun hb=>?_)))))
       ·
        have b3:=Q1 hb
        obtain⟨p,k1,h2,h3,h⟩:=Ht b2 b3
        replace h:=Zn g9 h
        refine Gm (h1 (Js fun h4=>Gq (Jr fun h5=>(JLh (.dptr [E1 p]) (Hb (f:=(E1)) (xs:=a) (y:=p) O O O Jz h2 O) O (JLh (E1 p) (Gg Ze O O O) O (JLm (E1 p) O (G5 (h5 (Jr fun h6=>(JLm (E1 p) O (JLl H3 O O O fun h7=>(JLm (I64 0) O (G5 (h6 (Gq ?_)))))))))))))))
        obtain⟨h8,c2,c3,b4,h⟩:=Jc h
        refine Hn (fun k (d:(H8 Int Unit)×(List Int))=>each h8 c2 (List.drop k p) k d=some r) (fun k d=>[(0,I64 id_),(3,.dptr [LS 1 (E1) a]),(4,Ee c),(5,.ptr 1060 0),(11,I64 j),(26,LS 1 (E1) a),(27,Em a.length),(28,Em s),(67,LS 1 (E1) a),(68,Em a.length),(69,Em o),(73,E1 p),(74,Em p.length),(75,Em k)]) (fun k d=>[(1064,MP 140 Ks (fun _:Unit=>.agg []) d.1),(1065,.vec 3 1 d.2.length (d.2.map I64)),(1058,.box 140 [.mp 1064]),(1059,.box 49 [.vec 1065 d.2.length 1 d.2.length]),(1060,.box 141 [.fn 67 (Kg a c)])]) (fun k=>p.length - k) 0 (v.1,v.2) h ⟨(.sm O O),⟨fmQ O,⟨_,rfl,.vec⟩,fbQ O ⟨.same rfl,ø⟩,fbQ O ⟨.same rfl,ø⟩,fbQ O ⟨.same rfl,ø⟩,ø⟩,rfl⟩ ?_
        clear h
        intro k d a8 k2 h9
        refine Jr fun c4=>(JLh (BL (decide ((k:Int) < (p.length:Int)))) (Jo O O O) O (G5 (c4 (Js fun c5=>Gr O (fun hb=>?_) (fun hb=>?_)))))
        ·
         have a9:=Q1 hb
         obtain⟨e,j7,c6,c7,h⟩:=Ht a8 a9
         replace h:=Zn c3 h
         refine Gm (c5 ?_)
         obtain⟨c8,b5,h⟩:=Rm h
         refine Qi (fun q:(H8 Int Unit)×(List Int)=>c8 q=some r) (fun q=>[(0,I64 id_),(3,.dptr [LS 1 (E1) a]),(4,Ee c),(5,.ptr 1060 0),(11,I64 j),(26,LS 1 (E1) a),(27,Em a.length),(28,Em s),(67,LS 1 (E1) a),(68,Em a.length),(69,Em o),(73,E1 p),(74,Em p.length),(75,Em k)]) (fun q=>[(1064,MP 140 Ks (fun _:Unit=>.agg []) q.1),(1065,.vec 3 1 q.2.length (q.2.map I64)),(1058,.box 140 [.mp 1064]),(1059,.box 49 [.vec 1065 q.2.length 1 q.2.length]),(1060,.box 141 [.fn 67 (Kg a c)])]) (fun Kj110 ej110=>?_) ?_
         ·
          refine Gq (Jr fun c9=>(JLh (Eh e) (Hb (f:=G1.av) (xs:=p) (y:=e) O O O H3 c6 O) O (JLh (.agg (G1.cs e)) (Gk Qd O O O) O (JLh (.ptr 1134 0) (Hk 1134 4 Jy O O) O (Ho (u:=.junk) (H7 (u:=.agg (G1.cs e)) (ds:=[I64 e.Box,I64 e.Slot.G3,I64 e.Slot.Tier,U8 e.Slot.Half]) Rk O O O O O O O O) (G5 (c9 ?_)))))))
          refine fzQ [(0,I64 id_),(3,.dptr [LS 1 (E1) a]),(4,Ee c),(5,.ptr 1060 0),(11,I64 j),(17,Eh e),(26,LS 1 (E1) a),(27,Em a.length),(28,Em s),(67,LS 1 (E1) a),(68,Em a.length),(69,Em o),(73,E1 p),(74,Em p.length),(75,Em k)] [(1064,MP 140 Ks (fun _:Unit=>.agg []) d.1),(1065,.vec 3 1 d.2.length (d.2.map I64)),(1058,.box 140 [.mp 1064]),(1059,.box 49 [.vec 1065 d.2.length 1 d.2.length]),(1060,.box 141 [.fn 67 (Kg a c)])] 1134 rfl rfl rfl ⟨fmQ O,⟨_,rfl,.vec⟩,⟨_,rfl,.boxEq rfl rfl⟩,⟨_,rfl,.boxEq rfl rfl⟩,⟨_,rfl,.boxEq rfl rfl⟩,ø⟩ rfl ?_
          refine Jr fun d0=>(JLm (I64 j) O (JLh (BL (decide (0≤j))) (H24 O O O) O (JLm (BL (decide (0≤j))) O (JLo (Ee c) [] O .sct ø (fun hc=>Ga J8 O O O) O (JLo (E3 c.Columns) [82] O .sct ⟨Ua,ø⟩ (fun hc=>Gg Jp O O O) O (JLo (.dptr ((G1.cs e).drop 1)) [] O .sct ø (fun hc=>Ga Jn O O O) O (JLo (.dptr ((G1.cs e).drop 1)) [84] O .sct ⟨Ua,ø⟩ (fun hc=>Ga J7 O O O) O (JLo (I64 e.Slot.G3) [85] O .sct ⟨Ua,ø⟩ (fun hc=>Gg Gb O O O) O ?_))))))))
          obtain⟨a1,d1,h⟩:=Ge h
          refine JLo (Ej a1) [83,86] O .sct ⟨Ua,Ua,ø⟩ (fun hc=>(match Gba (H4 hc d1) with | ⟨_,hm_,hy_⟩=>Hb (f:=G3.av) (xs:=c.Columns) (y:=a1) O O O Hy hy_ hm_)) O (JLo (.dptr ((G3.cs a1).drop 2)) [87] O .sct ⟨Ua,ø⟩ (fun hc=>Ga Yj O O O) O (JLo (BL a1.Deck) [88] O .sct ⟨Ua,ø⟩ (fun hc=>Gg Qb O O O) O (JLh (BL ((decide (0≤j))&&a1.Deck)) (Y4 O O O O) O (JLm (BL ((decide (0≤j))&&a1.Deck)) O (JLo (.agg (Gi.cs c)) [] O .sct ø (fun hc=>Gk Jd O O O) O (JLo (.dptr ((G1.cs e).drop 1)) [] O .sct ø (fun hc=>Ga Jn O O O) O (JLo (.dptr ((G1.cs e).drop 1)) [93] O .sct ⟨Ua,ø⟩ (fun hc=>Ga J7 O O O) O (JLo (I64 e.Slot.G3) [94] O .sct ⟨Ua,ø⟩ (fun hc=>Gg Gb O O O) O ?_))))))))
          obtain⟨a4,d2,h⟩:=Ge h
          refine JLo (I64 a4) [92,95] O .sct ⟨Ua,Ua,ø⟩ (fun hc=>Gu (args:=[.agg (Gi.cs c),I64 e.Slot.G3]) O (G5f c e.Slot.G3 a4 (H4 hc d2)) H83 ⟨O,O,O,O,ø⟩) O (JLo (I64 j) [] O .sct ø (fun hc=>G6 O O) O (JLo (BL (decide (a4=j))) [96,97] O .sct ⟨Ua,Ua,ø⟩ (fun hc=>Qk O O O) O (JLh (BL (((decide (0≤j))&&a1.Deck)&&(decide (a4=j)))) (Y4 O O O O) O (G5 (d0 (JCc O h (fun h hb=>?_) (fun h hb=>?_)))))))
          ·
           refine G2 (JLh (.fn 67 (Kg a c)) (J1 Hc6 O O O O) O (JLh (Eh e) (Ga J6 O O O) O (JLh (I64 e.Box) (Gg Gb O O O) O ?_)))
           obtain⟨a0,d3,h⟩:=Ge h
           refine JLh (.tup []) (H1f (args:=[I64 e.Box]) (caps:=(Kg a c)) (L0:=[(1058,.box 140 [.mp 1064]),(1064,MP 140 Ks (fun _:Unit=>.agg []) d.1),(1059,.box 49 [.vec 1065 d.2.length 1 d.2.length]),(1065,.vec 3 1 d.2.length (d.2.map I64)),(1060,.box 141 [.fn 67 (Kg a c)])]) (Lr:=[(1058,.box 140 [.mp 1064]),(1064,MP 140 Ks (fun _:Unit=>.agg []) a0.1),(1059,.box 49 [.vec 1065 a0.2.length 1 a0.2.length]),(1065,.vec 3 1 a0.2.length (a0.2.map I64)),(1060,.box 141 [.fn 67 (Kg a c)])]) O O (self_w e.Box d.1 d.2 a c a0 d3) Ja0 ⟨.inl O,O,ø⟩ O ⟨O,O,O,O,O,ø⟩ O O O) O (G5 ?_)
           exact ej110 _ _ (a0.1,a0.2) h ⟨(.sm O O),⟨fmQ O,⟨_,rfl,.vec⟩,fbQ O ⟨.same rfl,ø⟩,fbQ O ⟨.same rfl,ø⟩,fbQ O ⟨.same rfl,ø⟩,ø⟩,rfl⟩
          ·
           refine Gm (ej110 _ _ (d.1,d.2) h ⟨(.sm O O),⟨fmQ O,⟨_,rfl,.vec⟩,fbQ O ⟨.same rfl,ø⟩,fbQ O ⟨.same rfl,ø⟩,fbQ O ⟨.same rfl,ø⟩,ø⟩,rfl⟩)
         ·intro q h
          replace h:=app1 b5 h
          refine G2 (JLh (I64 ((k+1:Nat):Int)) (Ja (Hp a9 h7) O O O) O (JLm (I64 ((k+1:Nat):Int)) O (G5 (h9 _ _ (k+1) (q.1,q.2) (app1 c7 h) (by omega) ⟨(.sm O O),⟨fmQ O,⟨_,rfl,.vec⟩,fbQ O ⟨.same rfl,ø⟩,fbQ O ⟨.same rfl,ø⟩,fbQ O ⟨.same rfl,ø⟩,ø⟩,rfl⟩))))
        ·
         have h:=app1 b4 (Hu a8 (Hh hb))
         refine Hr (h4 (G2 (JLh (I64 ((o+1:Nat):Int)) (Ja (Hp b3 g7) O O O) O (JLm (I64 ((o+1:Nat):Int)) O (G5 (j6 _ _ (o+1) (d.1,d.2) (app1 h3 h) (by omega) ⟨(.sm O O),⟨fmQ O,⟨_,rfl,.vec⟩,fbQ O ⟨.same rfl,ø⟩,fbQ O ⟨.same rfl,ø⟩,fbQ O ⟨.same rfl,ø⟩,ø⟩,rfl⟩))))))
       ·
        have h:=app1 c1 (Hu b2 (Hh hb))
        refine Hr (ej10 _ _ (v.1,v.2) h ⟨(.sm O O),⟨fmQ O,⟨_,rfl,.vec⟩,fbQ O ⟨.same rfl,ø⟩,fbQ O ⟨.same rfl,ø⟩,fbQ O ⟨.same rfl,ø⟩,ø⟩,rfl⟩)
   ·intro x h
    replace h:=app1 b6 h
    refine G2 (JLh (I64 ((s+1:Nat):Int)) (Ja (Hp d5 d7) O O O) O (JLm (I64 ((s+1:Nat):Int)) O (G5 (e7 _ _ (s+1) (x.1,x.2) (app1 j2 h) (by omega) ⟨(.sm O O),⟨fmQ O,⟨_,rfl,.vec⟩,fbQ O ⟨.same rfl,ø⟩,fbQ O ⟨.same rfl,ø⟩,fbQ O ⟨.same rfl,ø⟩,ø⟩,rfl⟩))))
  ·
   have h:=app1 d8 (Hu d4 (Hh hb))
   refine Hr ?_
   obtain rfl:=M7 h
   exact⟨[],[(1058,.box 140 [.mp 1064]),(1064,MP 140 Ks (fun _:Unit=>.agg []) l.1),(1059,.box 49 [.vec 1065 l.2.length 1 l.2.length]),(1065,.vec 3 1 l.2.length (l.2.map I64)),(1060,.box 141 [.fn 67 (Kg a c)])],⟨⟨_,O,.boxL O ⟨.same O,ø⟩⟩,⟨_,O,.map⟩,⟨_,O,.boxL O ⟨.same O,ø⟩⟩,⟨_,O,.vec⟩,⟨_,O,.boxL O ⟨.same O,ø⟩⟩,ø⟩,O,ø,O,O⟩
theorem Jf4:∀ (F:Nat) (id_:Int) (d:H8 Int Unit) (a:List Int) (b:List (List G1)) (c:Gi) (r:(H8 Int Unit)×(List Int)) (h:Y6 F id_ d a b c=some r),J5 En 67 [I64 id_,.ptr 1058 0,.ptr 1059 0,.dptr [LS 1 (E1) b],Ee c,.ptr 1060 0] [(1058,.box 140 [.mp 1064]),(1064,MP 140 Ks (fun _:Unit=>.agg []) d),(1059,.box 49 [.vec 1065 a.length 1 a.length]),(1065,.vec 3 1 a.length (a.map I64)),(1060,.box 141 [.fn 67 [.ptr 1058 0,.ptr 1059 0,.dptr [LS 1 (E1) b],Ee c,.ptr 1060 0]])] (fun av L'=>av=.tup []∧L'=[(1058,.box 140 [.mp 1064]),(1064,MP 140 Ks (fun _:Unit=>.agg []) r.1),(1059,.box 49 [.vec 1065 r.2.length 1 r.2.length]),(1065,.vec 3 1 r.2.length (r.2.map I64)),(1060,.box 141 [.fn 67 [.ptr 1058 0,.ptr 1059 0,.dptr [LS 1 (E1) b],Ee c,.ptr 1060 0]])]):=by
 intro F
 induction F with
 | zero=>intro id_ d a b c r h; cases h
 | succ F ih=>intro id_ d a b c r h; exact Jfc (Y6 F) ih F id_ d a b c r h

def Zz (F:Nat) (s:Gi) (bf:List G1) (af:List G1):Option (List Int):=
 each (fun l n (d:(H8 Int Unit)×(List Int)) j=>
  each (fun b m (a:(H8 Int Unit)×(List Int)) i=>
   jp (fun c=>
    bnd (Gaf bf b.Box) fun e=>
    bnd (Gaf af b.Box) fun f=>
    bif ((!(e.2==f.2))||(!decide (e.1=f.1))) then
    (bnd (Y6 F b.Box a.1 a.2 [bf,af] s) fun g=>
     c (g.1,g.2))
    else
    (c (a.1,a.2))) fun(h:(H8 Int Unit)×(List Int))=>
   i (h.1,h.2))
  (fun(a:(H8 Int Unit)×(List Int))=>
   j (a.1,a.2)) l 0 (d.1,d.2))
 (fun(d:(H8 Int Unit)×(List Int))=>
  bnd (G9b d.2) fun k=>
  some k) [bf,af] 0 ((H8.empty:H8 Int Unit),[])
abbrev Kh (bf:List G1) (af:List G1) (s:Gi):List AV:=[.ptr 1058 0,.ptr 1059 0,.dptr [LS 1 (E1) [bf,af]],Ee s,.ptr 1060 0]
theorem Q70 (F:Nat) (s:Gi) (bf:List G1) (af:List G1) (r:(List Int)) (h:Zz F s bf af=some r):Pure En 32 [.agg (Gi.cs s),E1 bf,E1 af] (·=E2 r):=by
 unfold Zz at h
 refine Gx [.tmp 6] Tryz.func32 O O (Jr fun c3=>(JLh (.ptr 1056 0) (Q4 (cs:=(Gi.cs s)) 1056 O O O O O) O (JLh (E2 ([]:List Int)) (Jh 1 O O) O (G5 (c3 (Gn [(1,E1 bf),(2,E1 af),(3,Ee s)] [] 1056 rfl rfl rfl ø rfl (by exact⟨.conv (.same rfl),.conv (.same rfl),.ptr,ø⟩) ?_))))))
 refine Jr fun c4=>(JLm (E1 bf) O (JLm (E1 af) O (JLh (LS 1 (E1) [bf,af]) (He (xs:=[E1 bf,E1 af]) O ⟨O,O,O,O,ø⟩ Jz Had O O O O) O (JLh (.ptr 1057 0) (Hk 1057 1 R91 O O) O (Ho (u:=.junk) (H7 (u:=LS 1 (E1) [bf,af]) (ds:=[LS 1 (E1) [bf,af]]) Q83 O O O O O O O O) (G5 (c4 (fzQ [(1,E1 bf),(2,E1 af),(3,Ee s),(7,.dptr [LS 1 (E1) [bf,af]])] [] 1057 rfl rfl rfl ø rfl ?_))))))))
 refine Jr fun c5=>(JLh (.mp 1064) (Ha4 1064 Ks (fun _:Unit=>.agg []) O O) O (JLh (.ptr 1058 0) (Hk 1058 1 R58 O O) O (Ho (u:=.junk) (H7 (u:=.mp 1064) (ds:=[.mp 1064]) R98 O O O O O O O O) (G5 (c5 (Jr fun c6=>(JLh (.ptr 1059 0) (G06 1059 [.sc (.slice none 0 0)] [.slice none 0 0] Y02 ⟨.inl O,ø⟩ O O) O (Qfb 1059 0 1065 3 1 O O O (cs':=[.vec 1065 (([]:List Int).length) 1 (([]:List Int).length)]) O (G5 (c6 (Jr fun c7=>(JLh (.ptr 1060 0) (Hk 1060 1 R57 O O) O (G5 (c7 ?_))))))))))))))
 refine Jr fun c8=>(JLh (.fn 67 (Kh bf af s)) (Q2 (cs:=(Kh bf af s)) O O) O (Ho (u:=.junk) (H7 (u:=.fn 67 (Kh bf af s)) (ds:=[.fn 67 (Kh bf af s)]) R97 O O O O O O O O) (G5 (c8 (Js fun c9=>Jr fun d0=>(JLh (LS 1 (E1) [bf,af]) (Gg Ys O O O) O (JLl Jz O O O fun w=>(JLm (I64 0) O (G5 (d0 (Gq ?_)))))))))))
 obtain⟨b9,d1,d2,x,h⟩:=Jc h
 refine Hn (fun j (i:(H8 Int Unit)×(List Int))=>each b9 d1 (List.drop j [bf,af]) j i=some r) (fun j i=>[(1,E1 bf),(2,E1 af),(9,.ptr 1059 0),(10,.ptr 1060 0),(24,LS 1 (E1) [bf,af]),(25,I64 ([bf,af].length:Int)),(26,Em j)]) (fun j i=>[(1064,MP 140 Ks (fun _:Unit=>.agg []) i.1),(1065,.vec 3 1 i.2.length (i.2.map I64)),(1058,.box 140 [.mp 1064]),(1059,.box 49 [.vec 1065 i.2.length 1 i.2.length]),(1060,.box 141 [.fn 67 (Kh bf af s)])]) (fun j=>[bf,af].length - j) 0 ((H8.empty:H8 Int Unit),[]) h ⟨(.sm O O),⟨fmQ O,⟨_,rfl,.vec⟩,fbQ O ⟨.same rfl,ø⟩,fbQ O ⟨.same rfl,ø⟩,fbQ O ⟨.same rfl,ø⟩,ø⟩,rfl⟩ ?_
 clear h
 intro j i q K9 e9
 refine Jr fun z=>(JLh (BL (decide ((j:Int) < ([bf,af].length:Int)))) (Jo O O O) O (G5 (z (Js fun a0=>Gr O (fun hb=>?_) (fun hb=>?_)))))
 ·
  have t:=Q1 hb
  obtain⟨g,e0,d3,d4,h⟩:=Ht q t
  replace h:=Zn d2 h
  refine Gm (a0 (Js fun a1=>Gq (Jr fun a2=>(JLh (.dptr [E1 g]) (Hb (f:=(E1)) (xs:=[bf,af]) (y:=g) O O O Jz d3 O) O (JLh (E1 g) (Gg Ze O O O) O (JLm (E1 g) O (G5 (a2 (Jr fun a3=>(JLm (E1 g) O (JLl H3 O O O fun a4=>(JLm (I64 0) O (G5 (a3 (Gq ?_)))))))))))))))
  obtain⟨d5,a5,a6,o,h⟩:=Jc h
  refine Hn (fun e (a:(H8 Int Unit)×(List Int))=>each d5 a5 (List.drop e g) e a=some r) (fun e a=>[(1,E1 bf),(2,E1 af),(9,.ptr 1059 0),(10,.ptr 1060 0),(24,LS 1 (E1) [bf,af]),(25,I64 ([bf,af].length:Int)),(26,Em j),(30,E1 g),(31,Em g.length),(32,Em e)]) (fun e a=>[(1064,MP 140 Ks (fun _:Unit=>.agg []) a.1),(1065,.vec 3 1 a.2.length (a.2.map I64)),(1058,.box 140 [.mp 1064]),(1059,.box 49 [.vec 1065 a.2.length 1 a.2.length]),(1060,.box 141 [.fn 67 (Kh bf af s)])]) (fun e=>g.length - e) 0 (i.1,i.2) h ⟨(.sm O O),⟨fmQ O,⟨_,rfl,.vec⟩,fbQ O ⟨.same rfl,ø⟩,fbQ O ⟨.same rfl,ø⟩,fbQ O ⟨.same rfl,ø⟩,ø⟩,rfl⟩ ?_
  clear h
  intro e a m e1 d6
  refine Jr fun a7=>(JLh (BL (decide ((e:Int) < (g.length:Int)))) (Jo O O O) O (G5 (a7 (Js fun a8=>Gr O (fun hb=>?_) (fun hb=>?_)))))
  ·
   have n:=Q1 hb
   obtain⟨d,d9,a9,b0,h⟩:=Ht m n
   replace h:=Zn a6 h
   refine Gm (a8 ?_)
   obtain⟨b1,p,h⟩:=Rm h
   refine Qi (fun k:(H8 Int Unit)×(List Int)=>b1 k=some r) (fun k=>[(1,E1 bf),(2,E1 af),(9,.ptr 1059 0),(10,.ptr 1060 0),(24,LS 1 (E1) [bf,af]),(25,I64 ([bf,af].length:Int)),(26,Em j),(30,E1 g),(31,Em g.length),(32,Em e)]) (fun k=>[(1064,MP 140 Ks (fun _:Unit=>.agg []) k.1),(1065,.vec 3 1 k.2.length (k.2.map I64)),(1058,.box 140 [.mp 1064]),(1059,.box 49 [.vec 1065 k.2.length 1 k.2.length]),(1060,.box 141 [.fn 67 (Kh bf af s)])]) (fun Kj62 ej62=>?_) ?_
   ·
    refine Gq (Jr fun b2=>(JLh (Eh d) (Hb (f:=G1.av) (xs:=g) (y:=d) O O O H3 a9 O) O (JLh (.agg (G1.cs d)) (Gk Qd O O O) O (JLh (.ptr 1061 0) (Hk 1061 4 Jy O O) O (Ho (u:=.junk) (H7 (u:=.agg (G1.cs d)) (ds:=[I64 d.Box,I64 d.Slot.G3,I64 d.Slot.Tier,U8 d.Slot.Half]) Rk O O O O O O O O) (G5 (b2 ?_)))))))
    refine fzQ [(1,E1 bf),(2,E1 af),(9,.ptr 1059 0),(10,.ptr 1060 0),(14,Eh d),(24,LS 1 (E1) [bf,af]),(25,I64 ([bf,af].length:Int)),(26,Em j),(30,E1 g),(31,Em g.length),(32,Em e)] [(1064,MP 140 Ks (fun _:Unit=>.agg []) a.1),(1065,.vec 3 1 a.2.length (a.2.map I64)),(1058,.box 140 [.mp 1064]),(1059,.box 49 [.vec 1065 a.2.length 1 a.2.length]),(1060,.box 141 [.fn 67 (Kh bf af s)])] 1061 rfl rfl rfl ⟨fmQ O,⟨_,rfl,.vec⟩,⟨_,rfl,.boxEq rfl rfl⟩,⟨_,rfl,.boxEq rfl rfl⟩,⟨_,rfl,.boxEq rfl rfl⟩,ø⟩ rfl ?_
    refine Jr fun b3=>(JLm (E1 bf) O (JLh (Eh d) (Ga J6 O O O) O (JLh (I64 d.Box) (Gg Gb O O O) O ?_)))
    obtain⟨b,b4,h⟩:=Ge h
    refine JLh (.tup [.agg (Slot.cs b.1),BL b.2]) (Gu O (Hd7 bf d.Box b b4) J9f ⟨O,O,O,O,ø⟩) O (JLm (.tup [.agg (Slot.cs b.1),BL b.2]) O (JLh (.agg (Slot.cs b.1)) (Gz O O O) O (JLh (BL b.2) (Gz O O O) O (JLh (.ptr 1062 0) (Hk 1062 3 Rg O O) O (Ho (u:=.junk) (H7 (u:=.agg (Slot.cs b.1)) (ds:=[I64 b.1.G3,I64 b.1.Tier,U8 b.1.Half]) Yd O O O O O O O O) (JLm (BL b.2) O (G5 (b3 ?_))))))))
    refine fzQ [(1,E1 bf),(2,E1 af),(9,.ptr 1059 0),(10,.ptr 1060 0),(14,Eh d),(15,Ek b.1),(16,BL b.2),(24,LS 1 (E1) [bf,af]),(25,I64 ([bf,af].length:Int)),(26,Em j),(30,E1 g),(31,Em g.length),(32,Em e)] [(1064,MP 140 Ks (fun _:Unit=>.agg []) a.1),(1065,.vec 3 1 a.2.length (a.2.map I64)),(1058,.box 140 [.mp 1064]),(1059,.box 49 [.vec 1065 a.2.length 1 a.2.length]),(1060,.box 141 [.fn 67 (Kh bf af s)])] 1062 rfl rfl rfl ⟨fmQ O,⟨_,rfl,.vec⟩,⟨_,rfl,.boxEq rfl rfl⟩,⟨_,rfl,.boxEq rfl rfl⟩,⟨_,rfl,.boxEq rfl rfl⟩,ø⟩ rfl ?_
    refine Jr fun b5=>(JLm (E1 af) O (JLh (Eh d) (Ga J6 O O O) O (JLh (I64 d.Box) (Gg Gb O O O) O ?_)))
    obtain⟨c,b6,h⟩:=Ge h
    refine JLh (.tup [.agg (Slot.cs c.1),BL c.2]) (Gu O (Hd7 af d.Box c b6) J9f ⟨O,O,O,O,ø⟩) O (JLm (.tup [.agg (Slot.cs c.1),BL c.2]) O (JLh (.agg (Slot.cs c.1)) (Gz O O O) O (JLh (BL c.2) (Gz O O O) O (JLh (.ptr 1063 0) (Hk 1063 3 Rg O O) O (Ho (u:=.junk) (H7 (u:=.agg (Slot.cs c.1)) (ds:=[I64 c.1.G3,I64 c.1.Tier,U8 c.1.Half]) Yd O O O O O O O O) (JLm (BL c.2) O (G5 (b5 ?_))))))))
    refine fzQ [(1,E1 bf),(2,E1 af),(9,.ptr 1059 0),(10,.ptr 1060 0),(14,Eh d),(15,Ek b.1),(16,BL b.2),(17,Ek c.1),(18,BL c.2),(24,LS 1 (E1) [bf,af]),(25,I64 ([bf,af].length:Int)),(26,Em j),(30,E1 g),(31,Em g.length),(32,Em e)] [(1064,MP 140 Ks (fun _:Unit=>.agg []) a.1),(1065,.vec 3 1 a.2.length (a.2.map I64)),(1058,.box 140 [.mp 1064]),(1059,.box 49 [.vec 1065 a.2.length 1 a.2.length]),(1060,.box 141 [.fn 67 (Kh bf af s)])] 1063 rfl rfl rfl ⟨fmQ O,⟨_,rfl,.vec⟩,⟨_,rfl,.boxEq rfl rfl⟩,⟨_,rfl,.boxEq rfl rfl⟩,⟨_,rfl,.boxEq rfl rfl⟩,ø⟩ rfl ?_
    refine Jr fun b7=>(JLm (BL b.2) O (JLm (BL c.2) O (JLh (BL (!(b.2==c.2))) (Rf5 H7b O O O) O (JLm (BL (!(b.2==c.2))) O (JLo (.agg (Slot.cs b.1)) [] O .scf ø (fun hc=>Gk J2 O O O) O (JLo (.agg (Slot.cs c.1)) [] O .scf ø (fun hc=>Gk J2 O O O) O (JLo (BL (!decide (b.1=c.1))) [54,55] O .scf ⟨Ua,Ua,ø⟩ (fun hc=>Y9b (vs:=[.int .i64 b.1.G3,.int .i64 b.1.Tier,.int .u8 b.1.Half]) (us:=[.int .i64 c.1.G3,.int .i64 c.1.Tier,.int .u8 c.1.Half]) 4 O (Y6e b.1 c.1) J3e Q03 O O O) O (JLh (BL ((!(b.2==c.2))||(!decide (b.1=c.1)))) (G94 O O O O) O (G5 (b7 (JCc O h (fun h hb=>?_) (fun h hb=>?_))))))))))))
    ·
     refine G2 (JLh (.fn 67 (Kh bf af s)) (J1 Hc6 O O O O) O (JLh (Eh d) (Ga J6 O O O) O (JLh (I64 d.Box) (Gg Gb O O O) O ?_)))
     obtain⟨l,b8,h⟩:=Ge h
     refine JLh (.tup []) (H1f (args:=[I64 d.Box]) (caps:=(Kh bf af s)) (L0:=[(1058,.box 140 [.mp 1064]),(1064,MP 140 Ks (fun _:Unit=>.agg []) a.1),(1059,.box 49 [.vec 1065 a.2.length 1 a.2.length]),(1065,.vec 3 1 a.2.length (a.2.map I64)),(1060,.box 141 [.fn 67 (Kh bf af s)])]) (Lr:=[(1058,.box 140 [.mp 1064]),(1064,MP 140 Ks (fun _:Unit=>.agg []) l.1),(1059,.box 49 [.vec 1065 l.2.length 1 l.2.length]),(1065,.vec 3 1 l.2.length (l.2.map I64)),(1060,.box 141 [.fn 67 (Kh bf af s)])]) O O (Jf4 F d.Box a.1 a.2 [bf,af] s l b8) Ja0 ⟨.inl O,O,ø⟩ O ⟨O,O,O,O,O,ø⟩ O O O) O (G5 ?_)
     exact ej62 _ _ (l.1,l.2) h ⟨(.sm O O),⟨fmQ O,⟨_,rfl,.vec⟩,fbQ O ⟨.same rfl,ø⟩,fbQ O ⟨.same rfl,ø⟩,fbQ O ⟨.same rfl,ø⟩,ø⟩,rfl⟩
    ·
     refine Gm (ej62 _ _ (a.1,a.2) h ⟨(.sm O O),⟨fmQ O,⟨_,rfl,.vec⟩,fbQ O ⟨.same rfl,ø⟩,fbQ O ⟨.same rfl,ø⟩,fbQ O ⟨.same rfl,ø⟩,ø⟩,rfl⟩)
   ·intro k h
    replace h:=app1 p h
    refine G2 (JLh (I64 ((e+1:Nat):Int)) (Ja (Hp n a4) O O O) O (JLm (I64 ((e+1:Nat):Int)) O (G5 (d6 _ _ (e+1) (k.1,k.2) (app1 b0 h) (by omega) ⟨(.sm O O),⟨fmQ O,⟨_,rfl,.vec⟩,fbQ O ⟨.same rfl,ø⟩,fbQ O ⟨.same rfl,ø⟩,fbQ O ⟨.same rfl,ø⟩,ø⟩,rfl⟩))))
  ·
   have h:=app1 o (Hu m (Hh hb))
   refine Hr (a1 (G2 (JLh (I64 ((j+1:Nat):Int)) (Ja (Hp t w) O O O) O (JLm (I64 ((j+1:Nat):Int)) O (G5 (e9 _ _ (j+1) (a.1,a.2) (app1 d4 h) (by omega) ⟨(.sm O O),⟨fmQ O,⟨_,rfl,.vec⟩,fbQ O ⟨.same rfl,ø⟩,fbQ O ⟨.same rfl,ø⟩,fbQ O ⟨.same rfl,ø⟩,ø⟩,rfl⟩))))))
 ·
  have h:=app1 x (Hu q (Hh hb))
  refine Hr (c9 (Jr fun c0=>(JLh (.vec 1065 i.2.length 1 i.2.length) (J1 Rn O O O O) O ?_)))
  obtain⟨v,c1,h⟩:=Ge h
  refine JLh (.tup []) (R86 (F:=72) (xs:=i.2) (r:=v) O J40 J04 J9e O O O c1 O) O (G5 (c0 (Jr fun c2=>(JLh (.vec 1065 i.2.length 1 i.2.length) (J1 Rn O O O O) O (JLm (.vec 1065 i.2.length 1 i.2.length) O (G5 (c2 (Ha1 [(6,E2 v)] [] 1065 rfl rfl ø rfl (by exact⟨.vec,ø⟩) (Gs (fin1 (fun r:(List Int)=>(E2 r:AV)) h))))))))))

def Yo (F:Nat) (s:Gi) (boxes:List Box) (bf:List G1) (af:List G1):Option ((List Int)×Int):=
 bnd (Yu s boxes bf) fun a=>
 bnd (bif (!(!a)) then Yu s boxes af else some default) fun b=>
 bif ((!a)||(!b)) then
 (some ([],2))
 else
 (bnd (Zz F s bf af) fun c=>
  some (c,0))
theorem J25 (F:Nat) (s:Gi) (boxes:List Box) (bf:List G1) (af:List G1) (r:(List Int)×Int) (h:Yo F s boxes bf af=some r):Pure En 9 [.agg (Gi.cs s),E7 boxes,E1 bf,E1 af] (·=.tup [E2 r.1,I64 r.2]):=by
 unfold Yo at h
 refine Gx [.tmp 8,.tmp 9] Tryz.func9 O O (Jr fun e=>(JLh (.ptr 1014 0) (Q4 (cs:=(Gi.cs s)) 1014 O O O O O) O (JLh (E2 ([]:List Int)) (Jh 1 O O) O (JLm (I64 0) O (G5 (e (fzQ [(1,E7 boxes),(2,E1 bf),(3,E1 af),(4,Ee s)] [] 1014 rfl rfl rfl ø rfl (Js fun f=>Jr fun g=>(JLh (.agg (Gi.cs s)) (Gk Jd O O O) O (JLm (E7 boxes) O (JLm (E1 bf) O ?_)))))))))))
 obtain⟨a,i,h⟩:=Ge h
 refine JLh (BL a) (Gu O (Ga1 s boxes bf a i) H85 ⟨O,O,O,O,O,O,ø⟩) O (JLh (BL (!a)) (Y8 (b:=a) O O) O (JLm (BL (!a)) O (JLo (.agg (Gi.cs s)) [] O .scf ø (fun hc=>Gk Jd O O O) O (JLo (E7 boxes) [] O .scf ø (fun hc=>G6 O O) O (JLo (E1 af) [] O .scf ø (fun hc=>G6 O O) O ?_)))))
 obtain⟨c,j,h⟩:=Ge h
 refine JLo (BL c) [16,17,18] O .scf ⟨Ua,Ua,Ua,ø⟩ (fun hc=>Gu (args:=[.agg (Gi.cs s),E7 boxes,E1 af]) O (Ga1 s boxes af c (H4 hc j)) H85 ⟨O,O,O,O,O,O,ø⟩) O (JLo (BL (!c)) [19] O .scf ⟨Ua,ø⟩ (fun hc=>Y8 (b:=c) O O) O (JLh (BL ((!a)||(!c))) (G94 O O O O) O (G5 (g (JCc O h (fun h hb=>?_) (fun h hb=>?_))))))
 ·
  refine Jr fun k=>(JLh (E2 ([]:List Int)) (Jh 1 O O) O (JLm (I64 2) O (G5 (k (Gs (⟨[E2 ([]:List Int),I64 2],[],ø,O,⟨⟨_,O,.conv (.same O)⟩,⟨_,O,.conv (.same O)⟩,ø⟩,O,congrArg (fun r:(List Int)×Int=>(.tup [E2 r.1,I64 r.2]:AV)) (M7 h)⟩))))))
 ·
  refine Gm (f (Jr fun l=>(JLh (.agg (Gi.cs s)) (Gk Jd O O O) O (JLm (E1 bf) O (JLm (E1 af) O ?_)))))
  obtain⟨d,m,h⟩:=Ge h
  refine JLh (E2 d) (Gu O (Q70 F s bf af d m) Y28 ⟨O,O,O,O,O,O,ø⟩) O (JLm (E2 d) O (JLm (I64 0) O (G5 (l (Gs (⟨[E2 d,I64 0],[],ø,O,⟨⟨_,O,.conv (.same O)⟩,⟨_,O,.conv (.same O)⟩,ø⟩,O,congrArg (fun r:(List Int)×Int=>(.tup [E2 r.1,I64 r.2]:AV)) (M7 h)⟩))))))

def Ru (F:Nat) (places:List Hd) (covers:Int) (items:List H9):Option (Gi×(List Box)×J13):=
 bnd (Zh places covers) fun a=>
 bnd (Z3 F a items 4 10) fun b=>
 some (a,b.1,b.2)
abbrev Ki:List AV:=[E3 ([]:List G3),E8 ([]:List G9),I64 0,I64 0,I64 0,I64 0,E4 ([]:List Row),E5 ([]:List Frame),E6 ([]:List H2),I64 0,I64 0,I64 0,I64 0]
abbrev Kj:List AV:=[LS 1 (E1) ([]:List (List G1)),LS 1 (E2) ([]:List (List Int))]
theorem Gc4 (F:Nat) (places:List Hd) (covers:Int) (items:List H9) (r:Gi×(List Box)×J13) (h:Ru F places covers items=some r):Pure En 7 [Ed places,.sc (.int .u32 covers),Ec items] (·=.tup [.agg (Gi.cs r.1),E7 r.2.1,.agg [LS 1 (E1) r.2.2.States,LS 1 (E2) r.2.2.Water]]):=by
 unfold Ru at h
 refine Gx [.cell 6 36,.tmp 7,.cell 8 41] Tryz.func7 O O ?_
 refine Jr fun c=>(JLh (.ptr 1009 0) (G06 1009 Ki [.slice none 0 0,.slice none 0 0,E0,E0,E0,E0,.slice none 0 0,.slice none 0 0,.slice none 0 0,E0,E0,E0,E0] Ge4 ⟨.inr ⟨_,O,O⟩,.inr ⟨_,O,O⟩,.inl O,.inl O,.inl O,.inl O,.inr ⟨_,O,O⟩,.inr ⟨_,O,O⟩,.inr ⟨_,O,O⟩,.inl O,.inl O,.inl O,.inl O,ø⟩ O O) O (JLh (E7 ([]:List Box)) (Jh 9 O O) O (JLh (.ptr 1010 0) (G06 1010 Kj [.slice none 0 0,.slice none 0 0] H26 ⟨.inr ⟨_,O,O⟩,.inr ⟨_,O,O⟩,ø⟩ O O) O (G5 (c ?_)))))
 refine Jr fun d=>(JLm (Ed places) O (JLm (.sc (.int .u32 covers)) O ?_))
 obtain⟨b,e,h⟩:=Ge h
 refine JLh (.agg (Gi.cs b)) (Gu O (Hd2 places covers b e) Y2b ⟨O,O,O,O,ø⟩) O (JLh (.ptr 1011 0) (Hk 1011 13 Haf O O) O (Ho (u:=.junk) (H7 (u:=.agg (Gi.cs b)) (ds:=(Gi.cs b)) G6d O O O O O O O O) (G5 (d ?_))))
 refine fzQ [(2,Ec items),(6,.ptr 1009 0),(8,.ptr 1010 0),(9,Ee b)] [(1009,.box 36 Ki),(1010,.box 41 Kj)] 1011 rfl rfl rfl ⟨⟨_,rfl,.boxEq rfl rfl⟩,⟨_,rfl,.boxEq rfl rfl⟩,ø⟩ rfl (Jr fun f=>(JLh (.agg (Gi.cs b)) (Gk Jd O O O) O (JLm (Ec items) O ?_)))
 obtain⟨a,g,h⟩:=Ge h
 refine JLh (.tup [E7 a.1,.agg [LS 1 (E1) a.2.States,LS 1 (E2) a.2.Water]]) (Gu O (Ha8 F b items 4 10 a g) Y2a ⟨O,O,O,O,O,O,O,O,ø⟩) O (JLm (.tup [E7 a.1,.agg [LS 1 (E1) a.2.States,LS 1 (E2) a.2.Water]]) O (JLh (E7 a.1) (Gz O O O) O (JLh (.agg [LS 1 (E1) a.2.States,LS 1 (E2) a.2.Water]) (Gz O O O) O (JLh (.ptr 1012 0) (Hk 1012 2 Hae O O) O (JLm (E7 a.1) O (Ho (u:=.junk) (H7 (u:=.agg [LS 1 (E1) a.2.States,LS 1 (E2) a.2.Water]) (ds:=[LS 1 (E1) a.2.States,LS 1 (E2) a.2.Water]) G6c O O O O O O O O) (G5 (f ?_))))))))
 refine fzQ [(6,.ptr 1009 0),(8,.ptr 1010 0),(9,Ee b),(10,E7 a.1),(11,.dptr [LS 1 (E1) a.2.States,LS 1 (E2) a.2.Water])] [(1009,.box 36 Ki),(1010,.box 41 Kj)] 1012 rfl rfl rfl ⟨⟨_,rfl,.boxEq rfl rfl⟩,⟨_,rfl,.boxEq rfl rfl⟩,ø⟩ rfl (Js fun i=>?_)
 refine Qs (l':=[(6,.ptr 1009 0),(8,.ptr 1010 0),(9,Ee b),(10,E7 a.1),(11,.dptr [LS 1 (E1) a.2.States,LS 1 (E2) a.2.Water])]) (L':=[(1009,.box 36 Ki),(1010,.box 41 Kj)]) ⟨(.sm O O),⟨fbQ O (.sm O O),fbQ O (.sm O O),ø⟩,rfl⟩ ?_
 refine Jq [3,5] [0,0,0,0,1,0] [0,1,1,0,1,0] [[(1009,.box 36 Ki),(1010,.box 41 Kj)],((1009,.box 36 (Gi.cs b))::[(1009,.box 36 Ki),(1010,.box 41 Kj)]),((1010,.box 41 [LS 1 (E1) a.2.States,LS 1 (E2) a.2.Water])::((1009,.box 36 (Gi.cs b))::[(1009,.box 36 Ki),(1010,.box 41 Kj)]))] J9 (by kernel_rfl) rfl rfl ?_
 refine Gd (u:=.agg (Gi.cs b)) O O ⟨Gh (Gk Jd O O O) O,ø⟩ (Gd (u:=E7 a.1) O O ⟨Gh (G6 O O) O,Gh (G6 O O) O,ø⟩ (Gd (u:=.agg [LS 1 (E1) a.2.States,LS 1 (E2) a.2.Water]) O O ⟨Gh (Gk Gb5 O O O) O,Gh (Gk Gb5 O O O) O,ø⟩ (H3a (u:=.junk) O O O O (Gh (H7 (u:=.agg (Gi.cs b)) (ds:=(Gi.cs b)) G6d O O O O O O O O) O) (Gd (u:=E7 a.1) O O ⟨Gh (G7 O O) O,ø⟩ (H3a (u:=.junk) O O O O (Gh (H7 (u:=.agg [LS 1 (E1) a.2.States,LS 1 (E2) a.2.Water]) (ds:=[LS 1 (E1) a.2.States,LS 1 (E2) a.2.Water]) G6c O O O O O O O O) O) (Rj ?_))))))
 refine i (Gs (⟨[.agg (Gi.cs b),E7 a.1,.agg [LS 1 (E1) a.2.States,LS 1 (E2) a.2.Water]],[],ø,O,⟨⟨_,⟨_,_,_,_,O,O,O,.inl ⟨Jd,O⟩⟩,.conv (.same O)⟩,⟨_,O,.conv (.same O)⟩,⟨_,⟨_,_,_,_,O,O,O,.inl ⟨Gb5,O⟩⟩,.conv (.same O)⟩,ø⟩,O,congrArg (fun r:Gi×(List Box)×J13=>(.tup [.agg (Gi.cs r.1),E7 r.2.1,.agg [LS 1 (E1) r.2.2.States,LS 1 (E2) r.2.2.Water]]:AV)) (M7 h)⟩))
end
end Go.Proofs.YtgcpimpnpcdmmaaGreat
