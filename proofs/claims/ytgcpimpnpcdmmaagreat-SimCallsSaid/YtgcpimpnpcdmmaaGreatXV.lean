/- Walks of functions. -/
import Derived.Test.YtgcpimpnpcdmmaaGreatXVa
set_option maxRecDepth 100000
set_option maxHeartbeats 1000000
set_option linter.unusedVariables false
set_option linter.unusedSimpArgs false
namespace Go.Proofs.YtgcpimpnpcdmmaaGreat
open Go.RowKit
noncomputable section
open XAF
open XCF
open XSF
open XKF
open XTF
open XUF
open XVF

def G9e (l:List G1) (id_:Int):Option (Slot×Bool):=
 bnd (Qa l (fun z0=>Gc9 z0 id_)) fun a=>
 bif decide (a < 0) then
 (some ((Slot.mk 0 0 0),false))
 else
 (Qy l a fun b=>
  some (b.Slot,true))
theorem Hc4 (l:List G1) (id_:Int) (r:Slot×Bool) (h:G9e l id_=some r):Pure En 69 [E1 l,I64 id_] (·=.tup [.agg (Slot.cs r.1),BL r.2]):=by
 unfold G9e at h
 refine Gx [.cell 4 57,.tmp 5] Tryz.func69 O O (Jr fun c=>(JLh (.ptr 1131 0) (Q2 (cs:=[I64 id_]) 1131 O O O O O) O (JLh (.ptr 1132 0) (Zw 1132 [I64 0,I64 0,U8 0] [E0,E0,.int .u8 0] Gd1 (zzQ O) O O) O (JLm (BL false) O (G5 (c (Gp [(0,E1 l),(3,.dptr [I64 id_]),(4,.ptr 1132 0)] [(1132,.box 57 [I64 0,I64 0,U8 0])] 1131 rfl rfl rfl ⟨⟨_,rfl,.boxEq rfl rfl⟩,ø⟩ rfl (by exact⟨.conv (.same rfl),.ptr,.conv (.same rfl),ø⟩) (Jr fun d=>(JLm (E1 l) O (JLh (.fn 118 [.dptr [I64 id_]]) (Q4 (cs:=[.dptr [I64 id_]]) O O) O ?_))))))))))
 obtain⟨b,e,h⟩:=Ge h
 refine JLh (I64 b) (Gw O (G4c l (fun z0=>Gc9 z0 id_) 118 [.dptr [I64 id_]] R8a O (fun z0 q hq=>Q51 z0 id_ q hq) b e) Q86 ⟨O,O,O,O,ø⟩) O (JLm (I64 b) O (G5 (d (Js fun g=>Jr fun i=>(JLm (I64 b) O (JLh (BL (decide (b < 0))) (Jq O O O) O (G5 (i (JCc O h (fun h hb=>?_) (fun h hb=>?_))))))))))
 ·
  refine Jr fun j=>(JLh (.agg [I64 0,I64 0,U8 0]) (He (cs:=[I64 0,I64 0,U8 0]) [(0,1),(1,1),(2,1)] [I64 0,I64 0,U8 0] [E0,E0,.int .u8 0] Gf2 Gd1 (zzQ O) O O) O (Ho (u:=.junk) (H7 (u:=.agg [I64 0,I64 0,U8 0]) (ds:=[I64 0,I64 0,U8 0]) Y9 O O O O O O O O) (JLm (BL false) O (G5 (j (Gs (⟨[.agg [I64 0,I64 0,U8 0],BL false],[],ø,O,⟨⟨_,⟨_,_,_,_,O,O,O,.inl ⟨J0,O⟩⟩,.conv (.same O)⟩,⟨_,O,.conv (.same O)⟩,ø⟩,O,congrArg (fun r:Slot×Bool=>(.tup [.agg (Slot.cs r.1),BL r.2]:AV)) (M7 h)⟩)))))))
 ·
  refine Gn (g (Jr fun k=>(JLm (E1 l) O (JLm (I64 b) O ?_))))
  obtain⟨o,a,m,n,h⟩:=Zs h
  refine JLh (Eh a) (Hg (f:=G1.av) (xs:=l) (y:=a) O O O H1 n m) O (JLh (.dptr ((G1.cs a).drop 1)) (Ga Jm O O O) O (JLh (.agg ((G1.cs a).drop 1)) (Gk J0 O O O) O (Ho (u:=.junk) (H7 (u:=.agg ((G1.cs a).drop 1)) (ds:=[I64 a.Slot.G3,I64 a.Slot.Tier,U8 a.Slot.Half]) Y9 O O O O O O O O) (JLm (BL true) O (G5 (k (Gs (⟨[.agg ((G1.cs a).drop 1),BL true],[],ø,O,⟨⟨_,⟨_,_,_,_,O,O,O,.inl ⟨J0,O⟩⟩,.conv (.same O)⟩,⟨_,O,.conv (.same O)⟩,ø⟩,O,congrArg (fun r:Slot×Bool=>(.tup [.agg (Slot.cs r.1),BL r.2]:AV)) (M7 h)⟩))))))))

def G22 (m:H8 Int Unit) (k:Int):Option (Bool×(H8 Int Unit)):=
 bif (H8.has m k) then
 (some (false,m))
 else
 (some (true,(H8.put m k ())))
theorem H49 (m:H8 Int Unit) (k:Int) (r:Bool×(H8 Int Unit)) (h:G22 m k=some r):J3 En 68 [.mp 1059,I64 k] [(1059,MP 140 Ks (fun _:Unit=>.agg []) m)] (fun av L'=>av=BL r.1∧L'=[(1059,MP 140 Ks (fun _:Unit=>.agg []) r.2)]):=by
 unfold G22 at h
 refine Jj [1059] [.tmp 4] Tryz.func68 O O (G0d O) (Jr fun b=>(JLm (BL false) O (G5 (b (Js fun c=>Jr fun d=>(JLm (.mp 1059) O (JLm (I64 k) O (JLh (.tup [.agg [],BL (H8.has m k)]) (Qeb (av:=(fun _:Unit=>.agg [])) (m:=m) (a:=k) () (.agg #[]) O O O O J68 Q65 Y79 O) O (JLm (.tup [.agg [],BL (H8.has m k)]) O (JLh (.agg []) (H3 O O O) O (JLh (BL (H8.has m k)) (H3 O O O) O (JLh (.ptr 1130 0) (Hm 1130 0 R35 O O) O (Ho (u:=.junk) (Z03 (u:=.agg []) R73 O O O O O O) (JLm (BL (H8.has m k)) O (G5 (d ?_))))))))))))))))
 refine Gp [(0,.mp 1059),(1,I64 k),(6,BL (H8.has m k))] [(1059,MP 140 Ks (fun _:Unit=>.agg []) m)] 1130 rfl rfl rfl ⟨fmQ O,ø⟩ rfl (by exact⟨.conv (.same rfl),.conv (.same rfl),.conv (.same rfl),ø⟩) (Jr fun e=>(JLm (BL (H8.has m k)) O (G5 (e (JCc O h (fun h hb=>?_) (fun h hb=>?_))))))
 ·
  refine Jr fun f=>(JLm (BL false) O (G5 (f (Gs ?_))))
  obtain rfl:=M7 h
  exact⟨[BL false],[(1059,MP 140 Ks (fun _:Unit=>.agg []) m)],⟨⟨_,O,.map⟩,ø⟩,O,⟨⟨_,O,.conv (.same O)⟩,ø⟩,O,O⟩
 ·
  refine Gn (c (Jr fun g=>(JLm (.mp 1059) O (JLm (I64 k) O (JLh (.agg []) (He (cs:=[]) [] [] [] Qf1 R6f ø O O) O (Ho (u:=.junk) (J05 (m:=m) (a:=k) (v:=()) O O O O O O J68 Q65) (G5 (g (Jr fun i=>(JLm (BL true) O (G5 (i (Gs ?_)))))))))))))
  obtain rfl:=M7 h
  exact⟨[BL true],[(1059,MP 140 Ks (fun _:Unit=>.agg []) (H8.put m k ()))],⟨⟨_,O,.map⟩,ø⟩,O,⟨⟨_,O,.conv (.same O)⟩,ø⟩,O,O⟩

def G0a (self_:Int→(H8 Int Unit)→(List Int)→(List (List G1))→Gh→Option ((H8 Int Unit)×(List Int))) (F:Nat) (id_:Int) (p1:H8 Int Unit) (p:List Int) (q:List (List G1)) (i:Gh):Option ((H8 Int Unit)×(List Int)):=
 bnd (G22 p1 id_) fun w=>
 bif (!w.1) then
 (some (w.2,p))
 else
 (need (decide ((p.length+[id_].length)*8≤140737488355328∧p.length+[id_].length≤maxLen)) <|
  each (fun y7 i7 (d:(H8 Int Unit)×(List Int)) a1=>
   jp (fun j=>
    bnd (G9e y7 id_) fun f=>
    bif (!f.2) then
    (j (d.1,d.2))
    else
    (jp (fun k=>
      Qy i.Columns f.1.G3 fun a2=>
      bif (!a2.Deck) then
      (bnd (R8 i f.1.G3) fun a3=>
       k a3)
      else
      (k (-1))) fun(g:Int)=>
     each (fun s a8 (b:(H8 Int Unit)×(List Int)) x=>
      jp (fun l=>
       bnd (Ge9 s.Slot f.1) fun a4=>
       bif a4 then
       (bnd (self_ s.Box b.1 b.2 q i) fun t=>
        l (t.1,t.2))
       else
       (l (b.1,b.2))) fun(u:(H8 Int Unit)×(List Int))=>
      x (u.1,u.2))
     (fun(b:(H8 Int Unit)×(List Int))=>
      each (fun a5 a9 (c:(H8 Int Unit)×(List Int)) y=>
       each (fun e a7 (a:(H8 Int Unit)×(List Int)) r=>
        jp (fun h=>
         bnd (bif decide (0≤g) then Qy i.Columns e.Slot.G3 some else some default) fun m=>
         bnd (bif ((decide (0≤g))&&m.Deck) then R8 i e.Slot.G3 else some default) fun z=>
         bif (((decide (0≤g))&&m.Deck)&&(decide (z=g))) then
         (bnd (self_ e.Box a.1 a.2 q i) fun n=>
          h (n.1,n.2))
         else
         (h (a.1,a.2))) fun(o:(H8 Int Unit)×(List Int))=>
        r (o.1,o.2))
       (fun(a:(H8 Int Unit)×(List Int))=>
        y (a.1,a.2)) a5 0 (c.1,c.2))
      (fun(c:(H8 Int Unit)×(List Int))=>
       j (c.1,c.2)) q 0 (b.1,b.2)) y7 0 (d.1,d.2))) fun(v:(H8 Int Unit)×(List Int))=>
   a1 (v.1,v.2))
  (fun(d:(H8 Int Unit)×(List Int))=>
   some (d.1,d.2)) q 0 (w.2,(p++[id_])))
def Y1:Nat→Int→(H8 Int Unit)→(List Int)→(List (List G1))→Gh→Option ((H8 Int Unit)×(List Int))
 | 0,_,_,_,_,_=>none
 | F+1,id_,a,b,c,d=>G0a (Y1 F) F id_ a b c d
abbrev Kg (a:List (List G1)) (b:Gh):List AV:=[.ptr 1053 0,.ptr 1054 0,.dptr [LS 1 (E1) a],Ee b,.ptr 1055 0]
theorem Jdc (self_:Int→(H8 Int Unit)→(List Int)→(List (List G1))→Gh→Option ((H8 Int Unit)×(List Int))) (self_w:∀ (id_:Int) (p1:H8 Int Unit) (m:List Int) (a:List (List G1)) (c:Gh) (r:(H8 Int Unit)×(List Int)),self_ id_ p1 m a c=some r→J3 En 67 [I64 id_,.ptr 1053 0,.ptr 1054 0,.dptr [LS 1 (E1) a],Ee c,.ptr 1055 0] [(1053,.box 140 [.mp 1059]),(1059,MP 140 Ks (fun _:Unit=>.agg []) p1),(1054,.box 49 [.vec 1060 m.length 1 m.length]),(1060,.vec 3 1 m.length (m.map I64)),(1055,.box 141 [.fn 67 [.ptr 1053 0,.ptr 1054 0,.dptr [LS 1 (E1) a],Ee c,.ptr 1055 0]])] (fun av L'=>av=.tup []∧L'=[(1053,.box 140 [.mp 1059]),(1059,MP 140 Ks (fun _:Unit=>.agg []) r.1),(1054,.box 49 [.vec 1060 r.2.length 1 r.2.length]),(1060,.vec 3 1 r.2.length (r.2.map I64)),(1055,.box 141 [.fn 67 [.ptr 1053 0,.ptr 1054 0,.dptr [LS 1 (E1) a],Ee c,.ptr 1055 0]])])) (F:Nat) (id_:Int) (p1:H8 Int Unit) (m:List Int) (a:List (List G1)) (c:Gh) (r:(H8 Int Unit)×(List Int)) (h:G0a self_ F id_ p1 m a c=some r):J3 En 67 [I64 id_,.ptr 1053 0,.ptr 1054 0,.dptr [LS 1 (E1) a],Ee c,.ptr 1055 0] [(1053,.box 140 [.mp 1059]),(1059,MP 140 Ks (fun _:Unit=>.agg []) p1),(1054,.box 49 [.vec 1060 m.length 1 m.length]),(1060,.vec 3 1 m.length (m.map I64)),(1055,.box 141 [.fn 67 [.ptr 1053 0,.ptr 1054 0,.dptr [LS 1 (E1) a],Ee c,.ptr 1055 0]])] (fun av L'=>av=.tup []∧L'=[(1053,.box 140 [.mp 1059]),(1059,MP 140 Ks (fun _:Unit=>.agg []) r.1),(1054,.box 49 [.vec 1060 r.2.length 1 r.2.length]),(1060,.vec 3 1 r.2.length (r.2.map I64)),(1055,.box 141 [.fn 67 [.ptr 1053 0,.ptr 1054 0,.dptr [LS 1 (E1) a],Ee c,.ptr 1055 0]])]):=by
 unfold G0a at h
 refine Jj [1053,1059,1054,1060,1055] [] Tryz.func67 O O (G0d O) (Js fun i0=>Jr fun i1=>(JLh (.mp 1059) (Hz Qf0 O O O O) O (JLm (I64 id_) O ?_)))
 obtain⟨r3,i2,h⟩:=Ge h
 refine JLh (BL r3.1) (Z7 (args:=[.mp 1059,I64 id_]) (L0:=[(1059,MP 140 Ks (fun _:Unit=>.agg []) p1)]) (Lr:=[(1059,MP 140 Ks (fun _:Unit=>.agg []) r3.2)]) O (H49 p1 id_ r3 i2) Rf1 ⟨.inl O,O,.inl O,O,ø⟩ ⟨O,ø⟩ O O O) O (JLh (BL (!r3.1)) (Yc (b:=r3.1) O O) O (G5 (i1 (JCc O h (fun h hb=>?_) (fun h hb=>?_)))))
 ·
  refine Gs ?_
  obtain rfl:=M7 h
  exact⟨[],[(1053,.box 140 [.mp 1059]),(1059,MP 140 Ks (fun _:Unit=>.agg []) r3.2),(1054,.box 49 [.vec 1060 m.length 1 m.length]),(1060,.vec 3 1 m.length (m.map I64)),(1055,.box 141 [.fn 67 (Kg a c)])],⟨⟨_,O,.boxL O ⟨.same O,ø⟩⟩,⟨_,O,.map⟩,⟨_,O,.boxL O ⟨.same O,ø⟩⟩,⟨_,O,.vec⟩,⟨_,O,.boxL O ⟨.same O,ø⟩⟩,ø⟩,O,ø,O,O⟩
 ·
  refine Gn (i0 (Jr fun i3=>(JLh (.vec 1060 m.length 1 m.length) (Hz Ri O O O O) O (JLm (I64 id_) O (JLh (E2 [id_]) (Hd (xs:=[I64 id_]) O ⟨O,O,ø⟩ H0 Y8 O O O O) O ?_)))))
  obtain⟨i4,h⟩:=Jf h
  refine JLh (.vec 1060 ((m++[id_]).length) 1 ((m++[id_]).length)) (G41 (f:=I64) (xs:=m) (ys:=[id_]) (ver:=m.length) (ver1:=(m++[id_]).length) rfl rfl rfl rfl H0 G75 i4 (fun _=>rfl) (.inl rfl) (by simp)) O (Ho (u:=.junk) (H7 (u:=.vec 1060 ((m++[id_]).length) 1 ((m++[id_]).length)) (ds:=[.vec 1060 ((m++[id_]).length) 1 ((m++[id_]).length)]) He6 O O O O O O O O) (G5 (i3 (Jr fun i5=>(JLh (LS 1 (E1) a) (Gg Ga3 O O O) O (JLl Re O O O fun d7=>(JLm (I64 0) O (G5 (i5 (Gq ?_))))))))))
  obtain⟨b7,i6,i8,d8,h⟩:=Jd h
  refine Hn (fun s (l:(H8 Int Unit)×(List Int))=>each b7 i6 (List.drop s a) s l=some r) (fun s l=>[(0,I64 id_),(3,.dptr [LS 1 (E1) a]),(4,Ee c),(5,.ptr 1055 0),(26,LS 1 (E1) a),(27,Em a.length),(28,Em s)]) (fun s l=>[(1059,MP 140 Ks (fun _:Unit=>.agg []) l.1),(1060,.vec 3 1 l.2.length (l.2.map I64)),(1053,.box 140 [.mp 1059]),(1054,.box 49 [.vec 1060 l.2.length 1 l.2.length]),(1055,.box 141 [.fn 67 (Kg a c)])]) (fun s=>a.length - s) 0 (r3.2,(m++[id_])) h ⟨(.sm O O),⟨fmQ O,⟨_,rfl,.vec⟩,fbQ O ⟨.same rfl,ø⟩,fbQ O ⟨.same rfl,ø⟩,fbQ O ⟨.same rfl,ø⟩,ø⟩,rfl⟩ ?_
  clear h
  intro s l d4 K7 e7
  refine Jr fun i9=>(JLh (BL (decide ((s:Int) < (a.length:Int)))) (Jq O O O) O (G5 (i9 (Js fun j0=>Gr O (fun hb=>?_) (fun hb=>?_)))))
  ·
   have d5:=Q5 hb
   obtain⟨w,k3,j1,j2,h⟩:=Hu d4 d5
   replace h:=Zg i8 h
   refine Gn (j0 ?_)
   obtain⟨d9,b6,h⟩:=Rv h
   refine Qr (fun x:(H8 Int Unit)×(List Int)=>d9 x=some r) (fun x=>[(0,I64 id_),(3,.dptr [LS 1 (E1) a]),(4,Ee c),(5,.ptr 1055 0),(26,LS 1 (E1) a),(27,Em a.length),(28,Em s)]) (fun x=>[(1059,MP 140 Ks (fun _:Unit=>.agg []) x.1),(1060,.vec 3 1 x.2.length (x.2.map I64)),(1053,.box 140 [.mp 1059]),(1054,.box 49 [.vec 1060 x.2.length 1 x.2.length]),(1055,.box 141 [.fn 67 (Kg a c)])]) (fun Kj10 ej10=>?_) ?_
   ·
    refine Gq (Jr fun e0=>(JLh (.dptr [E1 w]) (Hg (f:=(E1)) (xs:=a) (y:=w) O O O Re j1 O) O (JLh (E1 w) (Gg Gf1 O O O) O (JLm (E1 w) O (G5 (e0 (Jr fun e1=>(JLm (E1 w) O (JLm (I64 id_) O ?_)))))))))
    obtain⟨g,e2,h⟩:=Ge h
    refine JLh (.tup [.agg (Slot.cs g.1),BL g.2]) (Gw O (Hc4 w id_ g e2) J89 ⟨O,O,O,O,ø⟩) O (JLm (.tup [.agg (Slot.cs g.1),BL g.2]) O (JLh (.agg (Slot.cs g.1)) (H3 O O O) O (JLh (BL g.2) (H3 O O O) O (JLh (.ptr 1127 0) (Hm 1127 3 Rc O O) O (Ho (u:=.junk) (H7 (u:=.agg (Slot.cs g.1)) (ds:=[I64 g.1.G3,I64 g.1.Tier,U8 g.1.Half]) Y9 O O O O O O O O) (JLm (BL g.2) O (G5 (e1 ?_))))))))
    refine fzQ [(0,I64 id_),(3,.dptr [LS 1 (E1) a]),(4,Ee c),(5,.ptr 1055 0),(8,E1 w),(9,Ek g.1),(10,BL g.2),(26,LS 1 (E1) a),(27,Em a.length),(28,Em s)] [(1059,MP 140 Ks (fun _:Unit=>.agg []) l.1),(1060,.vec 3 1 l.2.length (l.2.map I64)),(1053,.box 140 [.mp 1059]),(1054,.box 49 [.vec 1060 l.2.length 1 l.2.length]),(1055,.box 141 [.fn 67 (Kg a c)])] 1127 rfl rfl rfl ⟨fmQ O,⟨_,rfl,.vec⟩,⟨_,rfl,.boxEq rfl rfl⟩,⟨_,rfl,.boxEq rfl rfl⟩,⟨_,rfl,.boxEq rfl rfl⟩,ø⟩ rfl (Js fun e3=>?_)
    refine Jr fun e4=>(JLm (BL g.2) O (JLh (BL (!g.2)) (Yc (b:=g.2) O O) O (G5 (e4 (JCc O h (fun h hb=>?_) (fun h hb=>?_))))))
    ·
     refine Hq (ej10 _ _ (l.1,l.2) h ⟨(.sm O O),⟨fmQ O,⟨_,rfl,.vec⟩,fbQ O ⟨.same rfl,ø⟩,fbQ O ⟨.same rfl,ø⟩,fbQ O ⟨.same rfl,ø⟩,ø⟩,rfl⟩)
    ·
     refine Gn (e3 (Jr fun e5=>(JLm (I64 (-1)) O (G5 (e5 ?_)))))
     obtain⟨e6,b8,h⟩:=Rv h
     refine Qr (fun j:Int=>e6 j=some r) (fun j=>[(0,I64 id_),(3,.dptr [LS 1 (E1) a]),(4,Ee c),(5,.ptr 1055 0),(8,E1 w),(9,Ek g.1),(11,I64 j),(26,LS 1 (E1) a),(27,Em a.length),(28,Em s)]) (fun j=>[(1059,MP 140 Ks (fun _:Unit=>.agg []) l.1),(1060,.vec 3 1 l.2.length (l.2.map I64)),(1053,.box 140 [.mp 1059]),(1054,.box 49 [.vec 1060 l.2.length 1 l.2.length]),(1055,.box 141 [.fn 67 (Kg a c)])]) (fun Kj17 ej17=>?_) ?_
     ·
      refine Jr fun e8=>(JLh (Ee c) (Ga J5 O O O) O (JLh (E3 c.Columns) (Gg Jn O O O) O (JLh (Ek g.1) (Ga J4 O O O) O (JLh (I64 g.1.G3) (Gg Gb O O O) O ?_))))
      obtain⟨k4,a3,e9,f0,h⟩:=Zs h
      refine JLh (Ej a3) (Hg (f:=G3.av) (xs:=c.Columns) (y:=a3) O O O Hx f0 e9) O (JLh (.dptr ((G3.cs a3).drop 2)) (Ga Yf O O O) O (JLh (BL a3.Deck) (Gg Qb O O O) O (JLh (BL (!a3.Deck)) (Yc (b:=a3.Deck) O O) O (G5 (e8 (JCc O h (fun h hb=>?_) (fun h hb=>?_)))))))
      ·
       refine G2 (JLh (.agg (Gh.cs c)) (Gk Jh O O O) O (JLh (Ek g.1) (Ga J4 O O O) O (JLh (I64 g.1.G3) (Gg Gb O O O) O ?_)))
       obtain⟨a7,f1,h⟩:=Ge h
       refine JLh (I64 a7) (Gw O (G52 c g.1.G3 a7 f1) H6f ⟨O,O,O,O,ø⟩) O (JLm (I64 a7) O (G5 (ej17 _ _ a7 h ⟨(.sm O O),⟨fmQ O,⟨_,rfl,.vec⟩,fbQ O ⟨.same rfl,ø⟩,fbQ O ⟨.same rfl,ø⟩,fbQ O ⟨.same rfl,ø⟩,ø⟩,rfl⟩)))
      ·
       refine Gn (ej17 _ _ (-1) h ⟨(.sm O O),⟨fmQ O,⟨_,rfl,.vec⟩,fbQ O ⟨.same rfl,ø⟩,fbQ O ⟨.same rfl,ø⟩,fbQ O ⟨.same rfl,ø⟩,ø⟩,rfl⟩)
     ·intro j h
      replace h:=app1 b8 h
      refine Js fun f2=>Jr fun f3=>(JLm (E1 w) O (JLl H1 O O O fun f4=>(JLm (I64 0) O (G5 (f3 (Gq ?_))))))
      obtain⟨j3,f5,f6,b9,h⟩:=Jd h
      refine Hn (fun t (i:(H8 Int Unit)×(List Int))=>each j3 f5 (List.drop t w) t i=some r) (fun t i=>[(0,I64 id_),(3,.dptr [LS 1 (E1) a]),(4,Ee c),(5,.ptr 1055 0),(9,Ek g.1),(11,I64 j),(26,LS 1 (E1) a),(27,Em a.length),(28,Em s),(52,E1 w),(53,Em w.length),(54,Em t)]) (fun t i=>[(1059,MP 140 Ks (fun _:Unit=>.agg []) i.1),(1060,.vec 3 1 i.2.length (i.2.map I64)),(1053,.box 140 [.mp 1059]),(1054,.box 49 [.vec 1060 i.2.length 1 i.2.length]),(1055,.box 141 [.fn 67 (Kg a c)])]) (fun t=>w.length - t) 0 (l.1,l.2) h ⟨(.sm O O),⟨fmQ O,⟨_,rfl,.vec⟩,fbQ O ⟨.same rfl,ø⟩,fbQ O ⟨.same rfl,ø⟩,fbQ O ⟨.same rfl,ø⟩,ø⟩,rfl⟩ ?_
      clear h
      intro t i b0 k5 j4
      refine Jr fun f7=>(JLh (BL (decide ((t:Int) < (w.length:Int)))) (Jq O O O) O (G5 (f7 (Js fun f8=>Gr O (fun hb=>?_) (fun hb=>?_)))))
      ·
       have b1:=Q5 hb
       obtain⟨n,k0,f9,g0,h⟩:=Hu b0 b1
       replace h:=Zg f6 h
       refine Gn (f8 ?_)
       obtain⟨g1,c0,h⟩:=Rv h
       refine Qr (fun z:(H8 Int Unit)×(List Int)=>g1 z=some r) (fun z=>[(0,I64 id_),(3,.dptr [LS 1 (E1) a]),(4,Ee c),(5,.ptr 1055 0),(9,Ek g.1),(11,I64 j),(26,LS 1 (E1) a),(27,Em a.length),(28,Em s),(52,E1 w),(53,Em w.length),(54,Em t)]) (fun z=>[(1059,MP 140 Ks (fun _:Unit=>.agg []) z.1),(1060,.vec 3 1 z.2.length (z.2.map I64)),(1053,.box 140 [.mp 1059]),(1054,.box 49 [.vec 1060 z.2.length 1 z.2.length]),(1055,.box 141 [.fn 67 (Kg a c)])]) (fun Kj59 ej59=>?_) ?_
       ·
        refine Gq (Jr fun g2=>(JLh (Eh n) (Hg (f:=G1.av) (xs:=w) (y:=n) O O O H1 f9 O) O (JLh (.agg (G1.cs n)) (Gk Qd O O O) O (JLh (.ptr 1128 0) (Hm 1128 4 Jx O O) O (Ho (u:=.junk) (H7 (u:=.agg (G1.cs n)) (ds:=[I64 n.Box,I64 n.Slot.G3,I64 n.Slot.Tier,U8 n.Slot.Half]) Rh O O O O O O O O) (G5 (g2 ?_)))))))
        refine fzQ [(0,I64 id_),(3,.dptr [LS 1 (E1) a]),(4,Ee c),(5,.ptr 1055 0),(9,Ek g.1),(11,I64 j),(13,Eh n),(26,LS 1 (E1) a),(27,Em a.length),(28,Em s),(52,E1 w),(53,Em w.length),(54,Em t)] [(1059,MP 140 Ks (fun _:Unit=>.agg []) i.1),(1060,.vec 3 1 i.2.length (i.2.map I64)),(1053,.box 140 [.mp 1059]),(1054,.box 49 [.vec 1060 i.2.length 1 i.2.length]),(1055,.box 141 [.fn 67 (Kg a c)])] 1128 rfl rfl rfl ⟨fmQ O,⟨_,rfl,.vec⟩,⟨_,rfl,.boxEq rfl rfl⟩,⟨_,rfl,.boxEq rfl rfl⟩,⟨_,rfl,.boxEq rfl rfl⟩,ø⟩ rfl ?_
        refine Jr fun g3=>(JLh (.dptr ((G1.cs n).drop 1)) (Ga Jm O O O) O (JLh (.agg ((G1.cs n).drop 1)) (Gk J0 O O O) O (JLh (.agg (Slot.cs g.1)) (Gk J0 O O O) O ?_)))
        obtain⟨d6,g4,h⟩:=Ge h
        refine JLh (BL d6) (Gw O (J7a n.Slot g.1 d6 g4) Q7c ⟨O,O,O,O,ø⟩) O (G5 (g3 (JCc O h (fun h hb=>?_) (fun h hb=>?_))))
        ·
         refine G2 (JLh (.fn 67 (Kg a c)) (Hz Hb6 O O O O) O (JLh (Eh n) (Ga J7 O O O) O (JLh (I64 n.Box) (Gg Gb O O O) O ?_)))
         obtain⟨a2,g5,h⟩:=Ge h
         refine JLh (.tup []) (H0d (args:=[I64 n.Box]) (caps:=(Kg a c)) (L0:=[(1053,.box 140 [.mp 1059]),(1059,MP 140 Ks (fun _:Unit=>.agg []) i.1),(1054,.box 49 [.vec 1060 i.2.length 1 i.2.length]),(1060,.vec 3 1 i.2.length (i.2.map I64)),(1055,.box 141 [.fn 67 (Kg a c)])]) (Lr:=[(1053,.box 140 [.mp 1059]),(1059,MP 140 Ks (fun _:Unit=>.agg []) a2.1),(1054,.box 49 [.vec 1060 a2.2.length 1 a2.2.length]),(1060,.vec 3 1 a2.2.length (a2.2.map I64)),(1055,.box 141 [.fn 67 (Kg a c)])]) O O (self_w n.Box i.1 i.2 a c a2 g5) J8a ⟨.inl O,O,ø⟩ O ⟨O,O,O,O,O,ø⟩ O O O) O (G5 ?_)
         exact ej59 _ _ (a2.1,a2.2) h ⟨(.sm O O),⟨fmQ O,⟨_,rfl,.vec⟩,fbQ O ⟨.same rfl,ø⟩,fbQ O ⟨.same rfl,ø⟩,fbQ O ⟨.same rfl,ø⟩,ø⟩,rfl⟩
        ·
         refine Gn (ej59 _ _ (i.1,i.2) h ⟨(.sm O O),⟨fmQ O,⟨_,rfl,.vec⟩,fbQ O ⟨.same rfl,ø⟩,fbQ O ⟨.same rfl,ø⟩,fbQ O ⟨.same rfl,ø⟩,ø⟩,rfl⟩)
       ·intro z h
        replace h:=app1 c0 h
        refine G2 (JLh (I64 ((t+1:Nat):Int)) (Jb (Hp b1 f4) O O O) O (JLm (I64 ((t+1:Nat):Int)) O (G5 (j4 _ _ (t+1) (z.1,z.2) (app1 g0 h) (by omega) ⟨(.sm O O),⟨fmQ O,⟨_,rfl,.vec⟩,fbQ O ⟨.same rfl,ø⟩,fbQ O ⟨.same rfl,ø⟩,fbQ O ⟨.same rfl,ø⟩,ø⟩,rfl⟩))))
      ·
       have h:=app1 b9 (Hv b0 (Hj hb))
       refine Hq (f2 (Jr fun g6=>(JLh (LS 1 (E1) a) (Gg Ga3 O O O) O (JLl Re O O O fun g7=>(JLm (I64 0) O (G5 (g6 (Gq ?_))))))))
       obtain⟨j5,g8,g9,c1,h⟩:=Jd h
       refine Hn (fun o (v:(H8 Int Unit)×(List Int))=>each j5 g8 (List.drop o a) o v=some r) (fun o v=>[(0,I64 id_),(3,.dptr [LS 1 (E1) a]),(4,Ee c),(5,.ptr 1055 0),(11,I64 j),(26,LS 1 (E1) a),(27,Em a.length),(28,Em s),(67,LS 1 (E1) a),(68,Em a.length),(69,Em o)]) (fun o v=>[(1059,MP 140 Ks (fun _:Unit=>.agg []) v.1),(1060,.vec 3 1 v.2.length (v.2.map I64)),(1053,.box 140 [.mp 1059]),(1054,.box 49 [.vec 1060 v.2.length 1 v.2.length]),(1055,.box 141 [.fn 67 (Kg a c)])]) (fun o=>a.length - o) 0 (i.1,i.2) h ⟨(.sm O O),⟨fmQ O,⟨_,rfl,.vec⟩,fbQ O ⟨.same rfl,ø⟩,fbQ O ⟨.same rfl,ø⟩,fbQ O ⟨.same rfl,ø⟩,ø⟩,rfl⟩ ?_
       clear h
       intro o v b2 k6 j6
       refine Jr fun h0=>(JLh (BL (decide ((o:Int) < (a.length:Int)))) (Jq O O O) O (G5 (h0 (Js fun h1=>Gr O (fun hb=>?_) (fun hb=>?_)))))
       ·
        have b3:=Q5 hb
        obtain⟨p,k1,h2,h3,h⟩:=Hu b2 b3
        replace h:=Zg g9 h
        refine Gn (h1 (Js fun h4=>Gq (Jr fun h5=>(JLh (.dptr [E1 p]) (Hg (f:=(E1)) (xs:=a) (y:=p) O O O Re h2 O) O (JLh (E1 p) (Gg Gf1 O O O) O (JLm (E1 p) O (G5 (h5 (Jr fun h6=>(JLm (E1 p) O (JLl H1 O O O fun h7=>(JLm (I64 0) O (G5 (h6 (Gq ?_)))))))))))))))
        obtain⟨h8,c2,c3,b4,h⟩:=Jd h
        refine Hn (fun k (d:(H8 Int Unit)×(List Int))=>each h8 c2 (List.drop k p) k d=some r) (fun k d=>[(0,I64 id_),(3,.dptr [LS 1 (E1) a]),(4,Ee c),(5,.ptr 1055 0),(11,I64 j),(26,LS 1 (E1) a),(27,Em a.length),(28,Em s),(67,LS 1 (E1) a),(68,Em a.length),(69,Em o),(73,E1 p),(74,Em p.length),(75,Em k)]) (fun k d=>[(1059,MP 140 Ks (fun _:Unit=>.agg []) d.1),(1060,.vec 3 1 d.2.length (d.2.map I64)),(1053,.box 140 [.mp 1059]),(1054,.box 49 [.vec 1060 d.2.length 1 d.2.length]),(1055,.box 141 [.fn 67 (Kg a c)])]) (fun k=>p.length - k) 0 (v.1,v.2) h ⟨(.sm O O),⟨fmQ O,⟨_,rfl,.vec⟩,fbQ O ⟨.same rfl,ø⟩,fbQ O ⟨.same rfl,ø⟩,fbQ O ⟨.same rfl,ø⟩,ø⟩,rfl⟩ ?_
        clear h
        intro k d a8 k2 h9
        refine Jr fun c4=>(JLh (BL (decide ((k:Int) < (p.length:Int)))) (Jq O O O) O (G5 (c4 (Js fun c5=>Gr O (fun hb=>?_) (fun hb=>?_)))))
        ·
         have a9:=Q5 hb
         obtain⟨e,j7,c6,c7,h⟩:=Hu a8 a9
         replace h:=Zg c3 h
         refine Gn (c5 ?_)
         obtain⟨c8,b5,h⟩:=Rv h
         refine Qr (fun q:(H8 Int Unit)×(List Int)=>c8 q=some r) (fun q=>[(0,I64 id_),(3,.dptr [LS 1 (E1) a]),(4,Ee c),(5,.ptr 1055 0),(11,I64 j),(26,LS 1 (E1) a),(27,Em a.length),(28,Em s),(67,LS 1 (E1) a),(68,Em a.length),(69,Em o),(73,E1 p),(74,Em p.length),(75,Em k)]) (fun q=>[(1059,MP 140 Ks (fun _:Unit=>.agg []) q.1),(1060,.vec 3 1 q.2.length (q.2.map I64)),(1053,.box 140 [.mp 1059]),(1054,.box 49 [.vec 1060 q.2.length 1 q.2.length]),(1055,.box 141 [.fn 67 (Kg a c)])]) (fun Kj110 ej110=>?_) ?_
         ·
          refine Gq (Jr fun c9=>(JLh (Eh e) (Hg (f:=G1.av) (xs:=p) (y:=e) O O O H1 c6 O) O (JLh (.agg (G1.cs e)) (Gk Qd O O O) O (JLh (.ptr 1129 0) (Hm 1129 4 Jx O O) O (Ho (u:=.junk) (H7 (u:=.agg (G1.cs e)) (ds:=[I64 e.Box,I64 e.Slot.G3,I64 e.Slot.Tier,U8 e.Slot.Half]) Rh O O O O O O O O) (G5 (c9 ?_)))))))
          refine fzQ [(0,I64 id_),(3,.dptr [LS 1 (E1) a]),(4,Ee c),(5,.ptr 1055 0),(11,I64 j),(17,Eh e),(26,LS 1 (E1) a),(27,Em a.length),(28,Em s),(67,LS 1 (E1) a),(68,Em a.length),(69,Em o),(73,E1 p),(74,Em p.length),(75,Em k)] [(1059,MP 140 Ks (fun _:Unit=>.agg []) d.1),(1060,.vec 3 1 d.2.length (d.2.map I64)),(1053,.box 140 [.mp 1059]),(1054,.box 49 [.vec 1060 d.2.length 1 d.2.length]),(1055,.box 141 [.fn 67 (Kg a c)])] 1129 rfl rfl rfl ⟨fmQ O,⟨_,rfl,.vec⟩,⟨_,rfl,.boxEq rfl rfl⟩,⟨_,rfl,.boxEq rfl rfl⟩,⟨_,rfl,.boxEq rfl rfl⟩,ø⟩ rfl ?_
          refine Jr fun d0=>(JLm (I64 j) O (JLh (BL (decide (0≤j))) (H13 O O O) O (JLm (BL (decide (0≤j))) O (JLo (Ee c) [] O .sct ø (fun hc=>Ga J5 O O O) O (JLo (E3 c.Columns) [82] O .sct ⟨Ua,ø⟩ (fun hc=>Gg Jn O O O) O (JLo (.dptr ((G1.cs e).drop 1)) [] O .sct ø (fun hc=>Ga Jm O O O) O (JLo (.dptr ((G1.cs e).drop 1)) [84] O .sct ⟨Ua,ø⟩ (fun hc=>Ga J4 O O O) O (JLo (I64 e.Slot.G3) [85] O .sct ⟨Ua,ø⟩ (fun hc=>Gg Gb O O O) O ?_))))))))
          obtain⟨a1,d1,h⟩:=Ge h
          refine JLo (Ej a1) [83,86] O .sct ⟨Ua,Ua,ø⟩ (fun hc=>(match Ga9 (H5 hc d1) with | ⟨_,hm_,hy_⟩=>Hg (f:=G3.av) (xs:=c.Columns) (y:=a1) O O O Hx hy_ hm_)) O (JLo (.dptr ((G3.cs a1).drop 2)) [87] O .sct ⟨Ua,ø⟩ (fun hc=>Ga Yf O O O) O (JLo (BL a1.Deck) [88] O .sct ⟨Ua,ø⟩ (fun hc=>Gg Qb O O O) O (JLh (BL ((decide (0≤j))&&a1.Deck)) (Y3 O O O O) O (JLm (BL ((decide (0≤j))&&a1.Deck)) O (JLo (.agg (Gh.cs c)) [] O .sct ø (fun hc=>Gk Jh O O O) O (JLo (.dptr ((G1.cs e).drop 1)) [] O .sct ø (fun hc=>Ga Jm O O O) O (JLo (.dptr ((G1.cs e).drop 1)) [93] O .sct ⟨Ua,ø⟩ (fun hc=>Ga J4 O O O) O (JLo (I64 e.Slot.G3) [94] O .sct ⟨Ua,ø⟩ (fun hc=>Gg Gb O O O) O ?_))))))))
          obtain⟨a4,d2,h⟩:=Ge h
          refine JLo (I64 a4) [92,95] O .sct ⟨Ua,Ua,ø⟩ (fun hc=>Gw (args:=[.agg (Gh.cs c),I64 e.Slot.G3]) O (G52 c e.Slot.G3 a4 (H5 hc d2)) H6f ⟨O,O,O,O,ø⟩) O (JLo (I64 j) [] O .sct ø (fun hc=>G6 O O) O (JLo (BL (decide (a4=j))) [96,97] O .sct ⟨Ua,Ua,ø⟩ (fun hc=>Qm O O O) O (JLh (BL (((decide (0≤j))&&a1.Deck)&&(decide (a4=j)))) (Y3 O O O O) O (G5 (d0 (JCc O h (fun h hb=>?_) (fun h hb=>?_)))))))
          ·
           refine G2 (JLh (.fn 67 (Kg a c)) (Hz Hb6 O O O O) O (JLh (Eh e) (Ga J7 O O O) O (JLh (I64 e.Box) (Gg Gb O O O) O ?_)))
           obtain⟨a0,d3,h⟩:=Ge h
           refine JLh (.tup []) (H0d (args:=[I64 e.Box]) (caps:=(Kg a c)) (L0:=[(1053,.box 140 [.mp 1059]),(1059,MP 140 Ks (fun _:Unit=>.agg []) d.1),(1054,.box 49 [.vec 1060 d.2.length 1 d.2.length]),(1060,.vec 3 1 d.2.length (d.2.map I64)),(1055,.box 141 [.fn 67 (Kg a c)])]) (Lr:=[(1053,.box 140 [.mp 1059]),(1059,MP 140 Ks (fun _:Unit=>.agg []) a0.1),(1054,.box 49 [.vec 1060 a0.2.length 1 a0.2.length]),(1060,.vec 3 1 a0.2.length (a0.2.map I64)),(1055,.box 141 [.fn 67 (Kg a c)])]) O O (self_w e.Box d.1 d.2 a c a0 d3) J8a ⟨.inl O,O,ø⟩ O ⟨O,O,O,O,O,ø⟩ O O O) O (G5 ?_)
           exact ej110 _ _ (a0.1,a0.2) h ⟨(.sm O O),⟨fmQ O,⟨_,rfl,.vec⟩,fbQ O ⟨.same rfl,ø⟩,fbQ O ⟨.same rfl,ø⟩,fbQ O ⟨.same rfl,ø⟩,ø⟩,rfl⟩
          ·
           refine Gn (ej110 _ _ (d.1,d.2) h ⟨(.sm O O),⟨fmQ O,⟨_,rfl,.vec⟩,fbQ O ⟨.same rfl,ø⟩,fbQ O ⟨.same rfl,ø⟩,fbQ O ⟨.same rfl,ø⟩,ø⟩,rfl⟩)
         ·intro q h
          replace h:=app1 b5 h
          refine G2 (JLh (I64 ((k+1:Nat):Int)) (Jb (Hp a9 h7) O O O) O (JLm (I64 ((k+1:Nat):Int)) O (G5 (h9 _ _ (k+1) (q.1,q.2) (app1 c7 h) (by omega) ⟨(.sm O O),⟨fmQ O,⟨_,rfl,.vec⟩,fbQ O ⟨.same rfl,ø⟩,fbQ O ⟨.same rfl,ø⟩,fbQ O ⟨.same rfl,ø⟩,ø⟩,rfl⟩))))
        ·
         have h:=app1 b4 (Hv a8 (Hj hb))
         refine Hq (h4 (G2 (JLh (I64 ((o+1:Nat):Int)) (Jb (Hp b3 g7) O O O) O (JLm (I64 ((o+1:Nat):Int)) O (G5 (j6 _ _ (o+1) (d.1,d.2) (app1 h3 h) (by omega) ⟨(.sm O O),⟨fmQ O,⟨_,rfl,.vec⟩,fbQ O ⟨.same rfl,ø⟩,fbQ O ⟨.same rfl,ø⟩,fbQ O ⟨.same rfl,ø⟩,ø⟩,rfl⟩))))))
       ·
        have h:=app1 c1 (Hv b2 (Hj hb))
        refine Hq (ej10 _ _ (v.1,v.2) h ⟨(.sm O O),⟨fmQ O,⟨_,rfl,.vec⟩,fbQ O ⟨.same rfl,ø⟩,fbQ O ⟨.same rfl,ø⟩,fbQ O ⟨.same rfl,ø⟩,ø⟩,rfl⟩)
   ·intro x h
    replace h:=app1 b6 h
    refine G2 (JLh (I64 ((s+1:Nat):Int)) (Jb (Hp d5 d7) O O O) O (JLm (I64 ((s+1:Nat):Int)) O (G5 (e7 _ _ (s+1) (x.1,x.2) (app1 j2 h) (by omega) ⟨(.sm O O),⟨fmQ O,⟨_,rfl,.vec⟩,fbQ O ⟨.same rfl,ø⟩,fbQ O ⟨.same rfl,ø⟩,fbQ O ⟨.same rfl,ø⟩,ø⟩,rfl⟩))))
  ·
   have h:=app1 d8 (Hv d4 (Hj hb))
   refine Hq ?_
   obtain rfl:=M7 h
   exact⟨[],[(1053,.box 140 [.mp 1059]),(1059,MP 140 Ks (fun _:Unit=>.agg []) l.1),(1054,.box 49 [.vec 1060 l.2.length 1 l.2.length]),(1060,.vec 3 1 l.2.length (l.2.map I64)),(1055,.box 141 [.fn 67 (Kg a c)])],⟨⟨_,O,.boxL O ⟨.same O,ø⟩⟩,⟨_,O,.map⟩,⟨_,O,.boxL O ⟨.same O,ø⟩⟩,⟨_,O,.vec⟩,⟨_,O,.boxL O ⟨.same O,ø⟩⟩,ø⟩,O,ø,O,O⟩
theorem Jd4:∀ (F:Nat) (id_:Int) (d:H8 Int Unit) (a:List Int) (b:List (List G1)) (c:Gh) (r:(H8 Int Unit)×(List Int)) (h:Y1 F id_ d a b c=some r),J3 En 67 [I64 id_,.ptr 1053 0,.ptr 1054 0,.dptr [LS 1 (E1) b],Ee c,.ptr 1055 0] [(1053,.box 140 [.mp 1059]),(1059,MP 140 Ks (fun _:Unit=>.agg []) d),(1054,.box 49 [.vec 1060 a.length 1 a.length]),(1060,.vec 3 1 a.length (a.map I64)),(1055,.box 141 [.fn 67 [.ptr 1053 0,.ptr 1054 0,.dptr [LS 1 (E1) b],Ee c,.ptr 1055 0]])] (fun av L'=>av=.tup []∧L'=[(1053,.box 140 [.mp 1059]),(1059,MP 140 Ks (fun _:Unit=>.agg []) r.1),(1054,.box 49 [.vec 1060 r.2.length 1 r.2.length]),(1060,.vec 3 1 r.2.length (r.2.map I64)),(1055,.box 141 [.fn 67 [.ptr 1053 0,.ptr 1054 0,.dptr [LS 1 (E1) b],Ee c,.ptr 1055 0]])]):=by
 intro F
 induction F with
 | zero=>intro id_ d a b c r h; cases h
 | succ F ih=>intro id_ d a b c r h; exact Jdc (Y1 F) ih F id_ d a b c r h

def Zp (F:Nat) (s:Gh) (bf:List G1) (af:List G1):Option (List Int):=
 each (fun l n (d:(H8 Int Unit)×(List Int)) j=>
  each (fun b m (a:(H8 Int Unit)×(List Int)) i=>
   jp (fun c=>
    bnd (G9e bf b.Box) fun e=>
    bnd (G9e af b.Box) fun f=>
    bif ((!(e.2==f.2))||(!decide (e.1=f.1))) then
    (bnd (Y1 F b.Box a.1 a.2 [bf,af] s) fun g=>
     c (g.1,g.2))
    else
    (c (a.1,a.2))) fun(h:(H8 Int Unit)×(List Int))=>
   i (h.1,h.2))
  (fun(a:(H8 Int Unit)×(List Int))=>
   j (a.1,a.2)) l 0 (d.1,d.2))
 (fun(d:(H8 Int Unit)×(List Int))=>
  bnd (G8a d.2) fun k=>
  some k) [bf,af] 0 ((H8.empty:H8 Int Unit),[])
abbrev Kh (bf:List G1) (af:List G1) (s:Gh):List AV:=[.ptr 1053 0,.ptr 1054 0,.dptr [LS 1 (E1) [bf,af]],Ee s,.ptr 1055 0]
theorem Q50 (F:Nat) (s:Gh) (bf:List G1) (af:List G1) (r:(List Int)) (h:Zp F s bf af=some r):Pure En 32 [.agg (Gh.cs s),E1 bf,E1 af] (·=E2 r):=by
 unfold Zp at h
 refine Gx [.tmp 6] Tryz.func32 O O (Jr fun c3=>(JLh (.ptr 1051 0) (Q2 (cs:=(Gh.cs s)) 1051 O O O O O) O (JLh (E2 ([]:List Int)) (Ji 1 O O) O (G5 (c3 (Gp [(1,E1 bf),(2,E1 af),(3,Ee s)] [] 1051 rfl rfl rfl ø rfl (by exact⟨.conv (.same rfl),.conv (.same rfl),.ptr,ø⟩) ?_))))))
 refine Jr fun c4=>(JLm (E1 bf) O (JLm (E1 af) O (JLh (LS 1 (E1) [bf,af]) (Hd (xs:=[E1 bf,E1 af]) O ⟨O,O,O,O,ø⟩ Re J1b O O O O) O (JLh (.ptr 1052 0) (Hm 1052 1 R6e O O) O (Ho (u:=.junk) (H7 (u:=LS 1 (E1) [bf,af]) (ds:=[LS 1 (E1) [bf,af]]) Q61 O O O O O O O O) (G5 (c4 (fzQ [(1,E1 bf),(2,E1 af),(3,Ee s),(7,.dptr [LS 1 (E1) [bf,af]])] [] 1052 rfl rfl rfl ø rfl ?_))))))))
 refine Jr fun c5=>(JLh (.mp 1059) (H93 1059 Ks (fun _:Unit=>.agg []) O O) O (JLh (.ptr 1053 0) (Hm 1053 1 R37 O O) O (Ho (u:=.junk) (H7 (u:=.mp 1059) (ds:=[.mp 1059]) R75 O O O O O O O O) (G5 (c5 (Jr fun c6=>(JLh (.ptr 1054 0) (Zw 1054 [.sc (.slice none 0 0)] [.slice none 0 0] Rdb ⟨.inl O,ø⟩ O O) O (Qe2 1054 0 1060 3 1 O O O (cs':=[.vec 1060 (([]:List Int).length) 1 (([]:List Int).length)]) O (G5 (c6 (Jr fun c7=>(JLh (.ptr 1055 0) (Hm 1055 1 R36 O O) O (G5 (c7 ?_))))))))))))))
 refine Jr fun c8=>(JLh (.fn 67 (Kh bf af s)) (Q4 (cs:=(Kh bf af s)) O O) O (Ho (u:=.junk) (H7 (u:=.fn 67 (Kh bf af s)) (ds:=[.fn 67 (Kh bf af s)]) R74 O O O O O O O O) (G5 (c8 (Js fun c9=>Jr fun d0=>(JLh (LS 1 (E1) [bf,af]) (Gg Ga3 O O O) O (JLl Re O O O fun w=>(JLm (I64 0) O (G5 (d0 (Gq ?_)))))))))))
 obtain⟨b9,d1,d2,x,h⟩:=Jd h
 refine Hn (fun j (i:(H8 Int Unit)×(List Int))=>each b9 d1 (List.drop j [bf,af]) j i=some r) (fun j i=>[(1,E1 bf),(2,E1 af),(9,.ptr 1054 0),(10,.ptr 1055 0),(24,LS 1 (E1) [bf,af]),(25,I64 ([bf,af].length:Int)),(26,Em j)]) (fun j i=>[(1059,MP 140 Ks (fun _:Unit=>.agg []) i.1),(1060,.vec 3 1 i.2.length (i.2.map I64)),(1053,.box 140 [.mp 1059]),(1054,.box 49 [.vec 1060 i.2.length 1 i.2.length]),(1055,.box 141 [.fn 67 (Kh bf af s)])]) (fun j=>[bf,af].length - j) 0 ((H8.empty:H8 Int Unit),[]) h ⟨(.sm O O),⟨fmQ O,⟨_,rfl,.vec⟩,fbQ O ⟨.same rfl,ø⟩,fbQ O ⟨.same rfl,ø⟩,fbQ O ⟨.same rfl,ø⟩,ø⟩,rfl⟩ ?_
 clear h
 intro j i q K9 e9
 refine Jr fun z=>(JLh (BL (decide ((j:Int) < ([bf,af].length:Int)))) (Jq O O O) O (G5 (z (Js fun a0=>Gr O (fun hb=>?_) (fun hb=>?_)))))
 ·
  have t:=Q5 hb
  obtain⟨g,e0,d3,d4,h⟩:=Hu q t
  replace h:=Zg d2 h
  refine Gn (a0 (Js fun a1=>Gq (Jr fun a2=>(JLh (.dptr [E1 g]) (Hg (f:=(E1)) (xs:=[bf,af]) (y:=g) O O O Re d3 O) O (JLh (E1 g) (Gg Gf1 O O O) O (JLm (E1 g) O (G5 (a2 (Jr fun a3=>(JLm (E1 g) O (JLl H1 O O O fun a4=>(JLm (I64 0) O (G5 (a3 (Gq ?_)))))))))))))))
  obtain⟨d5,a5,a6,o,h⟩:=Jd h
  refine Hn (fun e (a:(H8 Int Unit)×(List Int))=>each d5 a5 (List.drop e g) e a=some r) (fun e a=>[(1,E1 bf),(2,E1 af),(9,.ptr 1054 0),(10,.ptr 1055 0),(24,LS 1 (E1) [bf,af]),(25,I64 ([bf,af].length:Int)),(26,Em j),(30,E1 g),(31,Em g.length),(32,Em e)]) (fun e a=>[(1059,MP 140 Ks (fun _:Unit=>.agg []) a.1),(1060,.vec 3 1 a.2.length (a.2.map I64)),(1053,.box 140 [.mp 1059]),(1054,.box 49 [.vec 1060 a.2.length 1 a.2.length]),(1055,.box 141 [.fn 67 (Kh bf af s)])]) (fun e=>g.length - e) 0 (i.1,i.2) h ⟨(.sm O O),⟨fmQ O,⟨_,rfl,.vec⟩,fbQ O ⟨.same rfl,ø⟩,fbQ O ⟨.same rfl,ø⟩,fbQ O ⟨.same rfl,ø⟩,ø⟩,rfl⟩ ?_
  clear h
  intro e a m e1 d6
  refine Jr fun a7=>(JLh (BL (decide ((e:Int) < (g.length:Int)))) (Jq O O O) O (G5 (a7 (Js fun a8=>Gr O (fun hb=>?_) (fun hb=>?_)))))
  ·
   have n:=Q5 hb
   obtain⟨d,d9,a9,b0,h⟩:=Hu m n
   replace h:=Zg a6 h
   refine Gn (a8 ?_)
   obtain⟨b1,p,h⟩:=Rv h
   refine Qr (fun k:(H8 Int Unit)×(List Int)=>b1 k=some r) (fun k=>[(1,E1 bf),(2,E1 af),(9,.ptr 1054 0),(10,.ptr 1055 0),(24,LS 1 (E1) [bf,af]),(25,I64 ([bf,af].length:Int)),(26,Em j),(30,E1 g),(31,Em g.length),(32,Em e)]) (fun k=>[(1059,MP 140 Ks (fun _:Unit=>.agg []) k.1),(1060,.vec 3 1 k.2.length (k.2.map I64)),(1053,.box 140 [.mp 1059]),(1054,.box 49 [.vec 1060 k.2.length 1 k.2.length]),(1055,.box 141 [.fn 67 (Kh bf af s)])]) (fun Kj62 ej62=>?_) ?_
   ·
    refine Gq (Jr fun b2=>(JLh (Eh d) (Hg (f:=G1.av) (xs:=g) (y:=d) O O O H1 a9 O) O (JLh (.agg (G1.cs d)) (Gk Qd O O O) O (JLh (.ptr 1056 0) (Hm 1056 4 Jx O O) O (Ho (u:=.junk) (H7 (u:=.agg (G1.cs d)) (ds:=[I64 d.Box,I64 d.Slot.G3,I64 d.Slot.Tier,U8 d.Slot.Half]) Rh O O O O O O O O) (G5 (b2 ?_)))))))
    refine fzQ [(1,E1 bf),(2,E1 af),(9,.ptr 1054 0),(10,.ptr 1055 0),(14,Eh d),(24,LS 1 (E1) [bf,af]),(25,I64 ([bf,af].length:Int)),(26,Em j),(30,E1 g),(31,Em g.length),(32,Em e)] [(1059,MP 140 Ks (fun _:Unit=>.agg []) a.1),(1060,.vec 3 1 a.2.length (a.2.map I64)),(1053,.box 140 [.mp 1059]),(1054,.box 49 [.vec 1060 a.2.length 1 a.2.length]),(1055,.box 141 [.fn 67 (Kh bf af s)])] 1056 rfl rfl rfl ⟨fmQ O,⟨_,rfl,.vec⟩,⟨_,rfl,.boxEq rfl rfl⟩,⟨_,rfl,.boxEq rfl rfl⟩,⟨_,rfl,.boxEq rfl rfl⟩,ø⟩ rfl ?_
    refine Jr fun b3=>(JLm (E1 bf) O (JLh (Eh d) (Ga J7 O O O) O (JLh (I64 d.Box) (Gg Gb O O O) O ?_)))
    obtain⟨b,b4,h⟩:=Ge h
    refine JLh (.tup [.agg (Slot.cs b.1),BL b.2]) (Gw O (Hc4 bf d.Box b b4) J89 ⟨O,O,O,O,ø⟩) O (JLm (.tup [.agg (Slot.cs b.1),BL b.2]) O (JLh (.agg (Slot.cs b.1)) (H3 O O O) O (JLh (BL b.2) (H3 O O O) O (JLh (.ptr 1057 0) (Hm 1057 3 Rc O O) O (Ho (u:=.junk) (H7 (u:=.agg (Slot.cs b.1)) (ds:=[I64 b.1.G3,I64 b.1.Tier,U8 b.1.Half]) Y9 O O O O O O O O) (JLm (BL b.2) O (G5 (b3 ?_))))))))
    refine fzQ [(1,E1 bf),(2,E1 af),(9,.ptr 1054 0),(10,.ptr 1055 0),(14,Eh d),(15,Ek b.1),(16,BL b.2),(24,LS 1 (E1) [bf,af]),(25,I64 ([bf,af].length:Int)),(26,Em j),(30,E1 g),(31,Em g.length),(32,Em e)] [(1059,MP 140 Ks (fun _:Unit=>.agg []) a.1),(1060,.vec 3 1 a.2.length (a.2.map I64)),(1053,.box 140 [.mp 1059]),(1054,.box 49 [.vec 1060 a.2.length 1 a.2.length]),(1055,.box 141 [.fn 67 (Kh bf af s)])] 1057 rfl rfl rfl ⟨fmQ O,⟨_,rfl,.vec⟩,⟨_,rfl,.boxEq rfl rfl⟩,⟨_,rfl,.boxEq rfl rfl⟩,⟨_,rfl,.boxEq rfl rfl⟩,ø⟩ rfl ?_
    refine Jr fun b5=>(JLm (E1 af) O (JLh (Eh d) (Ga J7 O O O) O (JLh (I64 d.Box) (Gg Gb O O O) O ?_)))
    obtain⟨c,b6,h⟩:=Ge h
    refine JLh (.tup [.agg (Slot.cs c.1),BL c.2]) (Gw O (Hc4 af d.Box c b6) J89 ⟨O,O,O,O,ø⟩) O (JLm (.tup [.agg (Slot.cs c.1),BL c.2]) O (JLh (.agg (Slot.cs c.1)) (H3 O O O) O (JLh (BL c.2) (H3 O O O) O (JLh (.ptr 1058 0) (Hm 1058 3 Rc O O) O (Ho (u:=.junk) (H7 (u:=.agg (Slot.cs c.1)) (ds:=[I64 c.1.G3,I64 c.1.Tier,U8 c.1.Half]) Y9 O O O O O O O O) (JLm (BL c.2) O (G5 (b5 ?_))))))))
    refine fzQ [(1,E1 bf),(2,E1 af),(9,.ptr 1054 0),(10,.ptr 1055 0),(14,Eh d),(15,Ek b.1),(16,BL b.2),(17,Ek c.1),(18,BL c.2),(24,LS 1 (E1) [bf,af]),(25,I64 ([bf,af].length:Int)),(26,Em j),(30,E1 g),(31,Em g.length),(32,Em e)] [(1059,MP 140 Ks (fun _:Unit=>.agg []) a.1),(1060,.vec 3 1 a.2.length (a.2.map I64)),(1053,.box 140 [.mp 1059]),(1054,.box 49 [.vec 1060 a.2.length 1 a.2.length]),(1055,.box 141 [.fn 67 (Kh bf af s)])] 1058 rfl rfl rfl ⟨fmQ O,⟨_,rfl,.vec⟩,⟨_,rfl,.boxEq rfl rfl⟩,⟨_,rfl,.boxEq rfl rfl⟩,⟨_,rfl,.boxEq rfl rfl⟩,ø⟩ rfl ?_
    refine Jr fun b7=>(JLm (BL b.2) O (JLm (BL c.2) O (JLh (BL (!(b.2==c.2))) (Rce H68 O O O) O (JLm (BL (!(b.2==c.2))) O (JLo (.agg (Slot.cs b.1)) [] O .scf ø (fun hc=>Gk J0 O O O) O (JLo (.agg (Slot.cs c.1)) [] O .scf ø (fun hc=>Gk J0 O O O) O (JLo (BL (!decide (b.1=c.1))) [54,55] O .scf ⟨Ua,Ua,ø⟩ (fun hc=>Y73 (vs:=[.int .i64 b.1.G3,.int .i64 b.1.Tier,.int .u8 b.1.Half]) (us:=[.int .i64 c.1.G3,.int .i64 c.1.Tier,.int .u8 c.1.Half]) 4 O (Y4a b.1 c.1) J27 Je2 O O O) O (JLh (BL ((!(b.2==c.2))||(!decide (b.1=c.1)))) (G7e O O O O) O (G5 (b7 (JCc O h (fun h hb=>?_) (fun h hb=>?_))))))))))))
    ·
     refine G2 (JLh (.fn 67 (Kh bf af s)) (Hz Hb6 O O O O) O (JLh (Eh d) (Ga J7 O O O) O (JLh (I64 d.Box) (Gg Gb O O O) O ?_)))
     obtain⟨l,b8,h⟩:=Ge h
     refine JLh (.tup []) (H0d (args:=[I64 d.Box]) (caps:=(Kh bf af s)) (L0:=[(1053,.box 140 [.mp 1059]),(1059,MP 140 Ks (fun _:Unit=>.agg []) a.1),(1054,.box 49 [.vec 1060 a.2.length 1 a.2.length]),(1060,.vec 3 1 a.2.length (a.2.map I64)),(1055,.box 141 [.fn 67 (Kh bf af s)])]) (Lr:=[(1053,.box 140 [.mp 1059]),(1059,MP 140 Ks (fun _:Unit=>.agg []) l.1),(1054,.box 49 [.vec 1060 l.2.length 1 l.2.length]),(1060,.vec 3 1 l.2.length (l.2.map I64)),(1055,.box 141 [.fn 67 (Kh bf af s)])]) O O (Jd4 F d.Box a.1 a.2 [bf,af] s l b8) J8a ⟨.inl O,O,ø⟩ O ⟨O,O,O,O,O,ø⟩ O O O) O (G5 ?_)
     exact ej62 _ _ (l.1,l.2) h ⟨(.sm O O),⟨fmQ O,⟨_,rfl,.vec⟩,fbQ O ⟨.same rfl,ø⟩,fbQ O ⟨.same rfl,ø⟩,fbQ O ⟨.same rfl,ø⟩,ø⟩,rfl⟩
    ·
     refine Gn (ej62 _ _ (a.1,a.2) h ⟨(.sm O O),⟨fmQ O,⟨_,rfl,.vec⟩,fbQ O ⟨.same rfl,ø⟩,fbQ O ⟨.same rfl,ø⟩,fbQ O ⟨.same rfl,ø⟩,ø⟩,rfl⟩)
   ·intro k h
    replace h:=app1 p h
    refine G2 (JLh (I64 ((e+1:Nat):Int)) (Jb (Hp n a4) O O O) O (JLm (I64 ((e+1:Nat):Int)) O (G5 (d6 _ _ (e+1) (k.1,k.2) (app1 b0 h) (by omega) ⟨(.sm O O),⟨fmQ O,⟨_,rfl,.vec⟩,fbQ O ⟨.same rfl,ø⟩,fbQ O ⟨.same rfl,ø⟩,fbQ O ⟨.same rfl,ø⟩,ø⟩,rfl⟩))))
  ·
   have h:=app1 o (Hv m (Hj hb))
   refine Hq (a1 (G2 (JLh (I64 ((j+1:Nat):Int)) (Jb (Hp t w) O O O) O (JLm (I64 ((j+1:Nat):Int)) O (G5 (e9 _ _ (j+1) (a.1,a.2) (app1 d4 h) (by omega) ⟨(.sm O O),⟨fmQ O,⟨_,rfl,.vec⟩,fbQ O ⟨.same rfl,ø⟩,fbQ O ⟨.same rfl,ø⟩,fbQ O ⟨.same rfl,ø⟩,ø⟩,rfl⟩))))))
 ·
  have h:=app1 x (Hv q (Hj hb))
  refine Hq (c9 (Jr fun c0=>(JLh (.vec 1060 i.2.length 1 i.2.length) (Hz Ri O O O O) O ?_)))
  obtain⟨v,c1,h⟩:=Ge h
  refine JLh (.tup []) (R64 (F:=72) (xs:=i.2) (r:=v) O J29 Hf0 J88 O O O c1 O) O (G5 (c0 (Jr fun c2=>(JLh (.vec 1060 i.2.length 1 i.2.length) (Hz Ri O O O O) O (JLm (.vec 1060 i.2.length 1 i.2.length) O (G5 (c2 (H90 [(6,E2 v)] [] 1060 rfl rfl ø rfl (by exact⟨.vec,ø⟩) (Gs (fin1 (fun r:(List Int)=>(E2 r:AV)) h))))))))))

def Z3 (F:Nat) (s:Gh) (boxes:List Box) (bf:List G1) (af:List G1):Option ((List Int)×Int):=
 bnd (Yn s boxes bf) fun a=>
 bnd (bif (!(!a)) then Yn s boxes af else some default) fun b=>
 bif ((!a)||(!b)) then
 (some ([],2))
 else
 (bnd (Zp F s bf af) fun c=>
  some (c,0))
theorem Q52 (F:Nat) (s:Gh) (boxes:List Box) (bf:List G1) (af:List G1) (r:(List Int)×Int) (h:Z3 F s boxes bf af=some r):Pure En 9 [.agg (Gh.cs s),E7 boxes,E1 bf,E1 af] (·=.tup [E2 r.1,I64 r.2]):=by
 unfold Z3 at h
 refine Gx [.tmp 8,.tmp 9] Tryz.func9 O O (Jr fun e=>(JLh (.ptr 1010 0) (Q2 (cs:=(Gh.cs s)) 1010 O O O O O) O (JLh (E2 ([]:List Int)) (Ji 1 O O) O (JLm (I64 0) O (G5 (e (fzQ [(1,E7 boxes),(2,E1 bf),(3,E1 af),(4,Ee s)] [] 1010 rfl rfl rfl ø rfl (Js fun f=>Jr fun g=>(JLh (.agg (Gh.cs s)) (Gk Jh O O O) O (JLm (E7 boxes) O (JLm (E1 bf) O ?_)))))))))))
 obtain⟨a,i,h⟩:=Ge h
 refine JLh (BL a) (Gw O (G91 s boxes bf a i) H71 ⟨O,O,O,O,O,O,ø⟩) O (JLh (BL (!a)) (Yc (b:=a) O O) O (JLm (BL (!a)) O (JLo (.agg (Gh.cs s)) [] O .scf ø (fun hc=>Gk Jh O O O) O (JLo (E7 boxes) [] O .scf ø (fun hc=>G6 O O) O (JLo (E1 af) [] O .scf ø (fun hc=>G6 O O) O ?_)))))
 obtain⟨c,j,h⟩:=Ge h
 refine JLo (BL c) [16,17,18] O .scf ⟨Ua,Ua,Ua,ø⟩ (fun hc=>Gw (args:=[.agg (Gh.cs s),E7 boxes,E1 af]) O (G91 s boxes af c (H5 hc j)) H71 ⟨O,O,O,O,O,O,ø⟩) O (JLo (BL (!c)) [19] O .scf ⟨Ua,ø⟩ (fun hc=>Yc (b:=c) O O) O (JLh (BL ((!a)||(!c))) (G7e O O O O) O (G5 (g (JCc O h (fun h hb=>?_) (fun h hb=>?_))))))
 ·
  refine Jr fun k=>(JLh (E2 ([]:List Int)) (Ji 1 O O) O (JLm (I64 2) O (G5 (k (Gs (⟨[E2 ([]:List Int),I64 2],[],ø,O,⟨⟨_,O,.conv (.same O)⟩,⟨_,O,.conv (.same O)⟩,ø⟩,O,congrArg (fun r:(List Int)×Int=>(.tup [E2 r.1,I64 r.2]:AV)) (M7 h)⟩))))))
 ·
  refine Gn (f (Jr fun l=>(JLh (.agg (Gh.cs s)) (Gk Jh O O O) O (JLm (E1 bf) O (JLm (E1 af) O ?_)))))
  obtain⟨d,m,h⟩:=Ge h
  refine JLh (E2 d) (Gw O (Q50 F s bf af d m) Y01 ⟨O,O,O,O,O,O,ø⟩) O (JLm (E2 d) O (JLm (I64 0) O (G5 (l (Gs (⟨[E2 d,I64 0],[],ø,O,⟨⟨_,O,.conv (.same O)⟩,⟨_,O,.conv (.same O)⟩,ø⟩,O,congrArg (fun r:(List Int)×Int=>(.tup [E2 r.1,I64 r.2]:AV)) (M7 h)⟩))))))

def Yt (F:Nat) (places:List Hi) (covers:Int) (items:List Hc):Option (Gh×(List Box)×Hfe):=
 bnd (Z4 places covers) fun a=>
 bnd (Yv F a items 4 10) fun b=>
 some (a,b.1,b.2)
abbrev Ki:List AV:=[E3 ([]:List G3),E8 ([]:List G9),I64 0,I64 0,I64 0,I64 0,E4 ([]:List Row),E5 ([]:List Frame),E6 ([]:List H4),I64 0,I64 0,I64 0,I64 0]
abbrev Kj:List AV:=[LS 1 (E1) ([]:List (List G1)),LS 1 (E2) ([]:List (List Int))]
theorem H96 (F:Nat) (places:List Hi) (covers:Int) (items:List Hc) (r:Gh×(List Box)×Hfe) (h:Yt F places covers items=some r):Pure En 7 [Ed places,.sc (.int .u32 covers),Ec items] (·=.tup [.agg (Gh.cs r.1),E7 r.2.1,.agg [LS 1 (E1) r.2.2.States,LS 1 (E2) r.2.2.Water]]):=by
 unfold Yt at h
 refine Gx [.cell 6 36,.tmp 7,.cell 8 41] Tryz.func7 O O ?_
 refine Jr fun c=>(JLh (.ptr 1005 0) (Zw 1005 Ki [.slice none 0 0,.slice none 0 0,E0,E0,E0,E0,.slice none 0 0,.slice none 0 0,.slice none 0 0,E0,E0,E0,E0] Gd2 ⟨.inr ⟨_,O,O⟩,.inr ⟨_,O,O⟩,.inl O,.inl O,.inl O,.inl O,.inr ⟨_,O,O⟩,.inr ⟨_,O,O⟩,.inr ⟨_,O,O⟩,.inl O,.inl O,.inl O,.inl O,ø⟩ O O) O (JLh (E7 ([]:List Box)) (Ji 9 O O) O (JLh (.ptr 1006 0) (Zw 1006 Kj [.slice none 0 0,.slice none 0 0] H15 ⟨.inr ⟨_,O,O⟩,.inr ⟨_,O,O⟩,ø⟩ O O) O (G5 (c ?_)))))
 refine Jr fun d=>(JLm (Ed places) O (JLm (.sc (.int .u32 covers)) O ?_))
 obtain⟨b,e,h⟩:=Ge h
 refine JLh (.agg (Gh.cs b)) (Gw O (Hc0 places covers b e) Y04 ⟨O,O,O,O,ø⟩) O (JLh (.ptr 1007 0) (Hm 1007 13 J1d O O) O (Ho (u:=.junk) (H7 (u:=.agg (Gh.cs b)) (ds:=(Gh.cs b)) G88 O O O O O O O O) (G5 (d ?_))))
 refine fzQ [(2,Ec items),(6,.ptr 1005 0),(8,.ptr 1006 0),(9,Ee b)] [(1005,.box 36 Ki),(1006,.box 41 Kj)] 1007 rfl rfl rfl ⟨⟨_,rfl,.boxEq rfl rfl⟩,⟨_,rfl,.boxEq rfl rfl⟩,ø⟩ rfl (Jr fun f=>(JLh (.agg (Gh.cs b)) (Gk Jh O O O) O (JLm (Ec items) O ?_)))
 obtain⟨a,g,h⟩:=Ge h
 refine JLh (.tup [E7 a.1,.agg [LS 1 (E1) a.2.States,LS 1 (E2) a.2.Water]]) (Gw O (H97 F b items 4 10 a g) Y03 ⟨O,O,O,O,O,O,O,O,ø⟩) O (JLm (.tup [E7 a.1,.agg [LS 1 (E1) a.2.States,LS 1 (E2) a.2.Water]]) O (JLh (E7 a.1) (H3 O O O) O (JLh (.agg [LS 1 (E1) a.2.States,LS 1 (E2) a.2.Water]) (H3 O O O) O (JLh (.ptr 1008 0) (Hm 1008 2 J1c O O) O (JLm (E7 a.1) O (Ho (u:=.junk) (H7 (u:=.agg [LS 1 (E1) a.2.States,LS 1 (E2) a.2.Water]) (ds:=[LS 1 (E1) a.2.States,LS 1 (E2) a.2.Water]) G87 O O O O O O O O) (G5 (f ?_))))))))
 refine fzQ [(6,.ptr 1005 0),(8,.ptr 1006 0),(9,Ee b),(10,E7 a.1),(11,.dptr [LS 1 (E1) a.2.States,LS 1 (E2) a.2.Water])] [(1005,.box 36 Ki),(1006,.box 41 Kj)] 1008 rfl rfl rfl ⟨⟨_,rfl,.boxEq rfl rfl⟩,⟨_,rfl,.boxEq rfl rfl⟩,ø⟩ rfl (Js fun i=>?_)
 refine Qs (l':=[(6,.ptr 1005 0),(8,.ptr 1006 0),(9,Ee b),(10,E7 a.1),(11,.dptr [LS 1 (E1) a.2.States,LS 1 (E2) a.2.Water])]) (L':=[(1005,.box 36 Ki),(1006,.box 41 Kj)]) ⟨(.sm O O),⟨fbQ O (.sm O O),fbQ O (.sm O O),ø⟩,rfl⟩ ?_
 refine Ju [3,5] [0,0,0,0,1,0] [0,1,1,0,1,0] [[(1005,.box 36 Ki),(1006,.box 41 Kj)],((1005,.box 36 (Gh.cs b))::[(1005,.box 36 Ki),(1006,.box 41 Kj)]),((1006,.box 41 [LS 1 (E1) a.2.States,LS 1 (E2) a.2.Water])::((1005,.box 36 (Gh.cs b))::[(1005,.box 36 Ki),(1006,.box 41 Kj)]))] Ja (by kernel_rfl) rfl rfl ?_
 refine Gf (u:=.agg (Gh.cs b)) O O ⟨Gi (Gk Jh O O O) O,ø⟩ (Gf (u:=E7 a.1) O O ⟨Gi (G6 O O) O,Gi (G6 O O) O,ø⟩ (Gf (u:=.agg [LS 1 (E1) a.2.States,LS 1 (E2) a.2.Water]) O O ⟨Gi (Gk Ga5 O O O) O,Gi (Gk Ga5 O O O) O,ø⟩ (H29 (u:=.junk) O O O O (Gi (H7 (u:=.agg (Gh.cs b)) (ds:=(Gh.cs b)) G88 O O O O O O O O) O) (Gf (u:=E7 a.1) O O ⟨Gi (G7 O O) O,ø⟩ (H29 (u:=.junk) O O O O (Gi (H7 (u:=.agg [LS 1 (E1) a.2.States,LS 1 (E2) a.2.Water]) (ds:=[LS 1 (E1) a.2.States,LS 1 (E2) a.2.Water]) G87 O O O O O O O O) O) (Rz ?_))))))
 refine i (Gs (⟨[.agg (Gh.cs b),E7 a.1,.agg [LS 1 (E1) a.2.States,LS 1 (E2) a.2.Water]],[],ø,O,⟨⟨_,⟨_,_,_,_,O,O,O,.inl ⟨Jh,O⟩⟩,.conv (.same O)⟩,⟨_,O,.conv (.same O)⟩,⟨_,⟨_,_,_,_,O,O,O,.inl ⟨Ga5,O⟩⟩,.conv (.same O)⟩,ø⟩,O,congrArg (fun r:Gh×(List Box)×Hfe=>(.tup [.agg (Gh.cs r.1),E7 r.2.1,.agg [LS 1 (E1) r.2.2.States,LS 1 (E2) r.2.2.Water]]:AV)) (M7 h)⟩))
end
end Go.Proofs.YtgcpimpnpcdmmaaGreat
