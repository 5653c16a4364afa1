/- Walks of functions. -/
import Derived.Test.YthkihfoleenlmaaGreatXPb
set_option maxRecDepth 100000
set_option maxHeartbeats 1000000
set_option linter.unusedVariables false
set_option linter.unusedSimpArgs false
namespace Go.Proofs.YthkihfoleenlmaaGreat
open Go.RowKit
noncomputable section
open XAF
open XLF
open XPF

def Rr (F:Nat) (s:Gq) (bx:List Box) (bf:List G2) (af:List G2):Option ((List Int)×Int):=
 bnd (Y6 F s bx bf) fun r4=>
 bnd (bif (!(!r4)) then Y6 F s bx af else some default) fun r5=>
 bif ((!r4)||(!r5)) then
 (some ([],2))
 else
 (each (fun e b3 (c:(List Gt)) x=>
   jp (fun n=>
    bnd (Jg bf e.ID) fun w=>
    bnd (bif (!(decide (0≤w))) then Jg af e.ID else some default) fun a9=>
    bif ((decide (0≤w))||(decide (0≤a9))) then
    (bnd (Yu bf af e.ID) fun o=>
     need (decide ((c.length+[(Gt.mk e.ID o)].length)*16≤140737488355328/\c.length+[(Gt.mk e.ID o)].length≤maxLen)) <|
     n (c++[(Gt.mk e.ID o)]))
    else
    (n c)) fun(b0:(List Gt))=>
   x b0)
  (fun(c:(List Gt))=>
   loop (fun y (l:Bool×(List Gt))=>
    bif l.1 then
    (need (decide (((c.length:Nat):Int)≤9223372036854775807)) <|
     upto (fun i (j:Bool×(List Gt)) z=>
      need (decide (((c.length:Nat):Int)≤9223372036854775807)) <|
      upto (fun k (a:Bool×(List Gt)) t=>
       jp (fun f=>
        Jo a.2 (i:Int) fun p=>
        bnd (bif (!p.in_) then Jo a.2 (k:Int) some else some default) fun a0=>
        bif (p.in_||(!a0.in_)) then
        (f (a.1,a.2))
        else
        (Jo a.2 (i:Int) fun a1=>
         Jo a.2 (k:Int) fun a2=>
         bnd (R1 s bf af a1.id a2.id) fun g=>
         bnd (bif (!g) then Jo a.2 (i:Int) some else some default) fun a3=>
         bnd (bif (!g) then Jo a.2 (k:Int) some else some default) fun a4=>
         bnd (bif (!g) then R1 s af bf a3.id a4.id else some default) fun a5=>
         bif (g||a5) then
         (Jo a.2 (i:Int) fun a6=>
          f (true,(a.2.set (i:Int).toNat (Gt.mk a6.id true))))
         else
         (f (a.1,a.2)))) fun(q:Bool×(List Gt))=>
       t (q.1,q.2))
      (fun(a:Bool×(List Gt))=>
       z (a.1,a.2)) ((c.length:Nat):Int).toNat 0 (j.1,j.2))
     (fun(j:Bool×(List Gt))=>
      y (j.1,j.2)) ((c.length:Nat):Int).toNat 0 (false,l.2))
    else
    (loop (fun u (d:(List Int)×Int)=>
      each (fun h b2 (b:Int×Bool) v=>
       jp (fun m=>
        bnd (bA l.2 h.id) fun a7=>
        bif ((a7&&((decide ((d.1.length:Int)=0))||(decide (d.2 < h.id))))&&((!b.2)||(decide (h.id < b.1)))) then
        (m (h.id,true))
        else
        (m (b.1,b.2))) fun(r:Int×Bool)=>
       v (r.1,r.2))
      (fun(b:Int×Bool)=>
       bif (!b.2) then
       (some (d.1,0))
       else
       (need (decide ((d.1.length+[b.1].length)*8≤140737488355328/\d.1.length+[b.1].length≤maxLen)) <|
        u ((d.1++[b.1]),b.1))) l.2 0 (0,false)) F ([],0))) F (true,c)) bx 0 [])
abbrev Mj (a:(List Int)×Int):Loc:=[(1093,.spare 3 1 a.1.length a.1.length)]
theorem qD (F:Nat) (s:Gq) (bx:List Box) (bf:List G2) (af:List G2) (r:(List Int)×Int) (h:Rr F s bx bf af=some r):Pure Ek 55 [.agg (Gq.cs s),E3 bx,E1 bf,E1 af] (·=.tup [E2 r.1,I64 r.2]):=by
 unfold Rr at h
 refine Gy [.tmp 8,.tmp 9] Tryz.func55 G G (Jr fun l5=>(JLh (.ptr 1091 0) (Jy (cs:=(Gq.cs s)) 1091 G G G G G) G (JLh (E2 ([]:List Int)) (Qd 1 G G) G (JLm (I64 0) G (G5 (l5 (fzQ [(1,E3 bx),(2,E1 bf),(3,E1 af),(4,Ed s)] [] 1091 rfl rfl rfl U rfl (Js fun l6=>Jr fun l7=>(JLh (.agg (Gq.cs s)) (Gj J4 G G G) G (JLm (E3 bx) G (JLm (E1 bf) G ?_)))))))))))
 obtain⟨r4,l8,h⟩:=Gd h
 refine JLh (BL r4) (Gi G (eN F s bx bf r4 l8) yU ⟨G,G,G,G,G,G,U⟩) G (JLh (BL (!r4)) (Qj (b:=r4) G G) G (JLm (BL (!r4)) G (JLo (.agg (Gq.cs s)) [] G .scf U (fun hc=>Gj J4 G G G) G (JLo (E3 bx) [] G .scf U (fun hc=>G3 G G) G (JLo (E1 af) [] G .scf U (fun hc=>G3 G G) G ?_)))))
 obtain⟨r5,l9,h⟩:=Gd h
 refine JLo (BL r5) [27,28,29] G .scf ⟨Ua,Ua,Ua,U⟩ (fun hc=>Gi (args:=[.agg (Gq.cs s),E3 bx,E1 af]) G (eN F s bx af r5 (Gv hc l9)) yU ⟨G,G,G,G,G,G,U⟩) G (JLo (BL (!r5)) [30] G .scf ⟨Ua,U⟩ (fun hc=>Qj (b:=r5) G G) G (JLh (BL ((!r4)||(!r5))) (Rm G G G G) G (G5 (l7 (JCc G h (fun h hb=>?_) (fun h hb=>?_))))))
 ·
  refine Jr fun m0=>(JLh (E2 ([]:List Int)) (Qd 1 G G) G (JLm (I64 2) G (G5 (m0 (Gs (⟨[E2 ([]:List Int),I64 2],[],U,G,⟨⟨_,G,.conv (.same G)⟩,⟨_,G,.conv (.same G)⟩,U⟩,G,congrArg (fun r:(List Int)×Int=>(.tup [E2 r.1,I64 r.2]:AV)) (Pc h)⟩))))))
 ·
  refine Gn (l6 (Jr fun m1=>(JLh (.vec 1092 (([]:List Gt).length) 2 (([]:List Gt).length)) (Ha2 1092 210 2 G G G) G (G5 (m1 (Js fun m2=>Jr fun m3=>(JLm (I64 0) G (G5 (m3 (Gf ?_))))))))))
  obtain⟨m4,h7,h8,d9,h⟩:=Hy h
  refine H8 (fun o (a:(List Gt))=>each m4 h7 (List.drop o bx) o a=some r) (fun o a=>[(1,E3 bx),(2,E1 bf),(3,E1 af),(4,Ed s),(10,.vec 1092 a.length 2 a.length),(11,Ej o)]) (fun o a=>[(1092,.vec 210 2 a.length (a.map Gt.av))]) (fun o=>bx.length - o) 0 [] h ⟨(.sm G G),⟨⟨_,rfl,.vec⟩,U⟩,rfl⟩ ?_
  clear h
  intro o a c7 o0 m5
  refine Js fun h9=>Jr fun i0=>(JLm (Ej o) G (JLm (E3 bx) G (JLl J3 G G G fun i1=>(JLh (BL (decide ((o:Int) < (bx.length:Int)))) (Hr G G G) G (G5 (i0 (Gg G (fun hb=>?_) (fun hb=>?_))))))))
  ·
   have c8:=Je hb
   obtain⟨n,n4,i2,i3,h⟩:=Hh c7 c8
   replace h:=Rx h8 h
   refine Gn (h9 ?_)
   obtain⟨i4,e0,h⟩:=gF h
   refine Zc (fun w:(List Gt)=>i4 w=some r) (fun w=>[(1,E3 bx),(2,E1 bf),(3,E1 af),(4,Ed s),(10,.vec 1092 w.length 2 w.length),(11,Ej o)]) (fun w=>[(1092,.vec 210 2 w.length (w.map Gt.av))]) (fun Kj55 ej55=>?_) ?_
   ·
    refine Gf (Jr fun i5=>(JLm (E3 bx) G (JLm (Ej o) G (JLh (Eg n) (Gr (f:=Box.av) (xs:=bx) (y:=n) G G G J3 i2 G) G (JLh (Eg n) (Ga Yq G G G) G (JLh (I64 n.ID) (Ge Gb G G G) G (JLm (I64 n.ID) G (G5 (i5 (Jr fun i6=>(JLm (E1 bf) G (JLm (I64 n.ID) G ?_))))))))))))
    obtain⟨b4,i7,h⟩:=Gd h
    refine JLh (I64 b4) (Gi G (Qt bf n.ID b4 i7) eJ ⟨G,G,G,G,U⟩) G (JLh (BL (decide (0≤b4))) (cH G G G) G (JLm (BL (decide (0≤b4))) G (JLo (E1 af) [] G .scf U (fun hc=>G3 G G) G (JLo (I64 n.ID) [] G .scf U (fun hc=>G3 G G) G ?_))))
    obtain⟨b6,i8,h⟩:=Gd h
    refine JLo (I64 b6) [49,50] G .scf ⟨Ua,Ua,U⟩ (fun hc=>Gi (args:=[E1 af,I64 n.ID]) G (Qt af n.ID b6 (Gv hc i8)) eJ ⟨G,G,G,G,U⟩) G (JLo (BL (decide (0≤b6))) [51] G .scf ⟨Ua,U⟩ (fun hc=>cH G G G) G (JLh (BL ((decide (0≤b4))||(decide (0≤b6)))) (Rm G G G G) G (G5 (i6 (JCc G h (fun h hb=>?_) (fun h hb=>?_))))))
    ·
     refine G1 (JLm (.vec 1092 a.length 2 a.length) G (JLm (I64 n.ID) G (JLm (E1 bf) G (JLm (E1 af) G (JLm (I64 n.ID) G ?_)))))
     obtain⟨p,i9,h⟩:=Gd h
     refine JLh (BL p) (Gi G (rX bf af n.ID p i9) Gf1 ⟨G,G,G,G,G,G,U⟩) G (JLh (.agg [I64 n.ID,BL p]) (Jq (cs:=[I64 n.ID,BL p]) [(0,1),(1,1)] [I64 0,BL false] [E0,.bool false] G53 Gc9 (zzQ G) G G) G (JLh (Ec [(Gt.mk n.ID p)]) (Hf (xs:=[.agg [I64 n.ID,BL p]]) G ⟨G,G,U⟩ Qx G97 G G G G) G ?_))
     obtain⟨j0,h⟩:=J5 h
     refine JLh (.vec 1092 ((a++[(Gt.mk n.ID p)]).length) 2 ((a++[(Gt.mk n.ID p)]).length)) (G3d (f:=Gt.av) (xs:=a) (ys:=[(Gt.mk n.ID p)]) (ver:=a.length) (ver1:=(a++[(Gt.mk n.ID p)]).length) rfl rfl rfl rfl Qx Gd5 j0 (fun _=>rfl) (.inl rfl) (by simp)) G (JLm (.vec 1092 ((a++[(Gt.mk n.ID p)]).length) 2 ((a++[(Gt.mk n.ID p)]).length)) G (G5 (ej55 _ _ (a++[(Gt.mk n.ID p)]) h ⟨(.sm G G),⟨⟨_,rfl,.vec⟩,U⟩,rfl⟩)))
    ·
     refine Gn (ej55 _ _ a h ⟨(.sm G G),⟨⟨_,rfl,.vec⟩,U⟩,rfl⟩)
   .intro w h
    replace h:=app1 e0 h
    refine G1 (JLm (Ej o) G (JLh (I64 ((o+1:Nat):Int)) (Hs (Hb c8 i1) G G G) G (JLm (I64 ((o+1:Nat):Int)) G (G5 (m5 _ _ (o+1) w (app1 i3 h) (by omega) ⟨(.sm G G),⟨⟨_,rfl,.vec⟩,U⟩,rfl⟩)))))
  ·
   have h:=app1 d9 (Hi c7 (H6 hb))
   refine H9 (m2 (Js fun j1=>Jr fun j2=>(JLm (BL true) G (G5 (j2 (Gf ?_))))))
   obtain⟨m6,j3,h⟩:=Ga8 h
   refine H8 (fun a8 (l:Bool×(List Gt))=>loop m6 a8 l=some r) (fun a8 l=>[(2,E1 bf),(3,E1 af),(4,Ed s),(10,.vec 1092 a.length 2 a.length),(13,BL l.1)]) (fun a8 l=>[(1092,.vec 210 2 a.length (l.2.map Gt.av))]) (fun a8=>a8) F (true,a) h ⟨(.sm G G),⟨⟨_,rfl,.vec⟩,U⟩,rfl⟩ ?_
   clear h
   intro a8 l j4 o1 m7
   obtain⟨m8,n5,hm_64,j5,h⟩:=G15 j4
   replace h:=Jeb j3 h
   refine Js fun j6=>Jr fun j7=>(JLm (BL l.1) G (G5 (j7 (JCc G h (fun h hb=>?_) (fun h hb=>?_)))))
   ·
    refine Gn (j6 (Gf (Jr fun j8=>(JLm (BL false) G (G5 (j8 (Jr fun j9=>(JLm (I64 0) G (G5 (j9 (Gf ?_)))))))))))
    obtain⟨k0,h⟩:=J5 h
    obtain⟨m9,k1,k2,e1,h⟩:=dW h
    refine H8 (fun k (v:Bool×(List Gt))=>upto m9 k1 (((a.length:Nat):Int).toNat - k) k v=some r) (fun k v=>[(2,E1 bf),(3,E1 af),(4,Ed s),(10,.vec 1092 a.length 2 a.length),(13,BL v.1),(14,Ej k)]) (fun k v=>[(1092,.vec 210 2 a.length (v.2.map Gt.av))]) (fun k=>((a.length:Nat):Int).toNat - k) 0 (false,l.2) h ⟨(.sm G G),⟨⟨_,rfl,.vec⟩,U⟩,rfl⟩ ?_
    clear h
    intro k v c9 o2 n0
    refine Js fun k3=>Jr fun k4=>(JLm (Ej k) G (JLm (.vec 1092 a.length 2 a.length) G (JLh (I64 ((a.length:Nat):Int)) (Ha4 Qx G G G) G (JLh (BL (decide ((k:Int) < ((a.length:Nat):Int)))) (Hr G G G) G (G5 (k4 (Gg G (fun hb=>?_) (fun hb=>?_))))))))
    ·
     have d0:=cE hb
     obtain⟨n6,k5,h⟩:=cA c9 d0
     replace h:=vG k2 h
     refine Gn (k3 (Js fun k6=>Gf (Jr fun k7=>(JLm (I64 0) G (G5 (k7 (Gf ?_)))))))
     obtain⟨e2,h⟩:=J5 h
     obtain⟨k8,e3,e4,d1,h⟩:=dW h
     refine H8 (fun j (i:Bool×(List Gt))=>upto k8 e3 (((a.length:Nat):Int).toNat - j) j i=some r) (fun j i=>[(2,E1 bf),(3,E1 af),(4,Ed s),(10,.vec 1092 a.length 2 a.length),(13,BL i.1),(14,Ej k),(15,Ej j)]) (fun j i=>[(1092,.vec 210 2 a.length (i.2.map Gt.av))]) (fun j=>((a.length:Nat):Int).toNat - j) 0 (v.1,v.2) h ⟨(.sm G G),⟨⟨_,rfl,.vec⟩,U⟩,rfl⟩ ?_
     clear h
     intro j i b7 n7 k9
     refine Js fun e5=>Jr fun e6=>(JLm (Ej j) G (JLm (.vec 1092 a.length 2 a.length) G (JLh (I64 ((a.length:Nat):Int)) (Ha4 Qx G G G) G (JLh (BL (decide ((j:Int) < ((a.length:Nat):Int)))) (Hr G G G) G (G5 (e6 (Gg G (fun hb=>?_) (fun hb=>?_))))))))
     ·
      have b8:=cE hb
      obtain⟨n1,e7,h⟩:=cA b7 b8
      replace h:=vG e4 h
      refine Gn (e5 ?_)
      obtain⟨e8,d2,h⟩:=gF h
      refine Zc (fun q:Bool×(List Gt)=>e8 q=some r) (fun q=>[(2,E1 bf),(3,E1 af),(4,Ed s),(10,.vec 1092 a.length 2 a.length),(13,BL q.1),(14,Ej k),(15,Ej j)]) (fun q=>[(1092,.vec 210 2 a.length (q.2.map Gt.av))]) (fun Kj147 ej147=>?_) ?_
      ·
       refine Gf (Js fun e9=>Jr fun f0=>(JLm (.vec 1092 a.length 2 a.length) G (JLm (Ej k) G ?_)))
       obtain⟨a3,d3,b9,h⟩:=oN h
       refine JLh (.vptr 1092 a.length ((k:Int).toNat) 0) (fK (f:=Gt.av) (xs:=i.2) (y:=a3) G G G G Qx b9 d3) G (JLh (.vptr 1092 a.length ((k:Int).toNat) 1) (qA kO G G G) G (JLh (BL a3.in_) (jF (f:=Gt.av) (xs:=i.2) (y:=a3) Ye G G G b9 G G) G (JLm (BL a3.in_) G (JLo (.vec 1092 a.length 2 a.length) [] G .scf U (fun hc=>G3 G G) G (JLo (Ej j) [] G .scf U (fun hc=>G3 G G) G ?_)))))
       obtain⟨x,a9,h⟩:=Gd h
       refine JLo (.vptr 1092 a.length ((j:Int).toNat) 0) [82,83] G .scf ⟨Ua,Ua,U⟩ (fun hc=>fK (f:=Gt.av) (xs:=i.2) (y:=x) G G G G Qx (lL (Gv hc a9)) (zK (Gv hc a9))) G (JLo (.vptr 1092 a.length ((j:Int).toNat) 1) [84] G .scf ⟨Ua,U⟩ (fun hc=>qA kO G G G) G (JLo (BL x.in_) [85] G .scf ⟨Ua,U⟩ (fun hc=>jF (f:=Gt.av) (xs:=i.2) (y:=x) Ye G G G (lL (Gv hc a9)) G G) G (JLo (BL (!x.in_)) [86] G .scf ⟨Ua,U⟩ (fun hc=>Qj (b:=x.in_) G G) G (JLh (BL (a3.in_||(!x.in_))) (Rm G G G G) G (G5 (f0 (JCc G h (fun h hb=>?_) (fun h hb=>?_))))))))
       ·
        refine H9 (ej147 _ _ (i.1,i.2) h ⟨(.sm G G),⟨⟨_,rfl,.vec⟩,U⟩,rfl⟩)
       ·
        refine Gn (e9 (Js fun f1=>rM (l':=[(2,E1 bf),(3,E1 af),(4,Ed s),(10,.vec 1092 a.length 2 a.length),(13,BL i.1),(14,Ej k),(15,Ej j)]) (L':=[(1092,.vec 210 2 a.length (i.2.map Gt.av))]) ⟨(.sm G G),⟨⟨_,rfl,.vec⟩,U⟩,rfl⟩ ?_))
        obtain⟨a4,d4,c0,h⟩:=oN h
        obtain⟨a5,d5,c1,h⟩:=oN h
        obtain⟨b0,f2,h⟩:=Gd h
        obtain⟨a6,b1,h⟩:=Gd h
        obtain⟨a7,b2,h⟩:=Gd h
        obtain⟨b5,f3,h⟩:=Gd h
        refine JC_d0 Jd (by kernel_rfl) (Dq (.agg (Gq.cs s)) (Gj J4 G G G) G (Dq (E1 bf) (G3 G G) G (Dq (E1 af) (G3 G G) G (Dq (.vec 1092 a.length 2 a.length) (G3 G G) G (Dq (Ej k) (G3 G G) G (Dq (.vptr 1092 a.length ((k:Int).toNat) 0) (fK (f:=Gt.av) (xs:=i.2) (y:=a4) G G G G Qx c0 d4) G (Dq (.vptr 1092 a.length ((k:Int).toNat) 0) (qA aL G G G) G (Dq (I64 a4.id) (jF (f:=Gt.av) (xs:=i.2) (y:=a4) Gb G G G c0 G G) G (Dq (.vec 1092 a.length 2 a.length) (G3 G G) G (Dq (Ej j) (G3 G G) G (Dq (.vptr 1092 a.length ((j:Int).toNat) 0) (fK (f:=Gt.av) (xs:=i.2) (y:=a5) G G G G Qx c1 d5) G (Dq (.vptr 1092 a.length ((j:Int).toNat) 0) (qA aL G G G) G (Dq (I64 a5.id) (jF (f:=Gt.av) (xs:=i.2) (y:=a5) Gb G G G c1 G G) G ?_)))))))))))))
        refine Dq (BL b0) (Gi (args:=[.agg (Gq.cs s),E1 bf,E1 af,I64 a4.id,I64 a5.id]) G (gS s bf af a4.id a5.id b0 f2) QR ⟨G,G,G,G,G,G,G,G,G,G,U⟩) G (Dq (BL b0) (G3 G G) G (Do (.agg (Gq.cs s)) [] G .scf U (fun hc=>Gj J4 G G G) G (Do (E1 af) [] G .scf U (fun hc=>G3 G G) G (Do (E1 bf) [] G .scf U (fun hc=>G3 G G) G (Do (.vec 1092 a.length 2 a.length) [] G .scf U (fun hc=>G3 G G) G (Do (Ej k) [] G .scf U (fun hc=>G3 G G) G (Do (.vptr 1092 a.length ((k:Int).toNat) 0) [107,108] G .scf ⟨Ua,Ua,U⟩ (fun hc=>fK (f:=Gt.av) (xs:=i.2) (y:=a6) G G G G Qx (lL (Gv hc b1)) (zK (Gv hc b1))) G (Do (.vptr 1092 a.length ((k:Int).toNat) 0) [109] G .scf ⟨Ua,U⟩ (fun hc=>qA aL G G G) G (Do (I64 a6.id) [110] G .scf ⟨Ua,U⟩ (fun hc=>jF (f:=Gt.av) (xs:=i.2) (y:=a6) Gb G G G (lL (Gv hc b1)) G G) G (Do (.vec 1092 a.length 2 a.length) [] G .scf U (fun hc=>G3 G G) G (Do (Ej j) [] G .scf U (fun hc=>G3 G G) G (Do (.vptr 1092 a.length ((j:Int).toNat) 0) [112,113] G .scf ⟨Ua,Ua,U⟩ (fun hc=>fK (f:=Gt.av) (xs:=i.2) (y:=a7) G G G G Qx (lL (Gv hc b2)) (zK (Gv hc b2))) G (Do (.vptr 1092 a.length ((j:Int).toNat) 0) [114] G .scf ⟨Ua,U⟩ (fun hc=>qA aL G G G) G ?_)))))))))))))
        refine Do (I64 a7.id) [115] G .scf ⟨Ua,U⟩ (fun hc=>jF (f:=Gt.av) (xs:=i.2) (y:=a7) Gb G G G (lL (Gv hc b2)) G G) G (Do (BL b5) [104,105,106,111,116] G .scf ⟨Ua,Ua,Ua,Ua,Ua,U⟩ (fun hc=>Gi (args:=[.agg (Gq.cs s),E1 af,E1 bf,I64 a6.id,I64 a7.id]) G (gS s af bf a6.id a7.id b5 (Gv hc f3)) QR ⟨G,G,G,G,G,G,G,G,G,G,U⟩) G (Dq (BL (b0||b5)) (Rm G G G G) G (Dnil (f1 (JCc G h (fun h hb=>?_) (fun h hb=>?_))))))
        ·
         refine G1 (JLm (.vec 1092 a.length 2 a.length) G (JLm (Ej k) G ?_))
         obtain⟨b3,d6,c2,h⟩:=oN h
         refine JLh (.vptr 1092 a.length ((k:Int).toNat) 0) (fK (f:=Gt.av) (xs:=i.2) (y:=b3) G G G G Qx c2 d6) G (JLh (.vptr 1092 a.length ((k:Int).toNat) 1) (qA kO G G G) G (J7 (u:=.junk) (J0f (f:=Gt.av) (xs:=i.2) (e:=b3) (z:=(Gt.mk b3.id true)) (u:=BL true) Hdb G G G G c2 G G G G G) (JLm (BL true) G (G5 (ej147 _ _ (true,(i.2.set (k:Int).toNat (Gt.mk b3.id true))) h ⟨(.sm G G),⟨⟨_,rfl,.vec⟩,U⟩,rfl⟩)))))
        ·
         refine Gn (ej147 _ _ (i.1,i.2) h ⟨(.sm G G),⟨⟨_,rfl,.vec⟩,U⟩,rfl⟩)
      .intro q h
       replace h:=app1 d2 h
       refine G1 (JLm (Ej j) G (JLh (I64 ((j+1:Nat):Int)) (Hs (Hb b8 (Zr e2)) G G G) G (JLm (I64 ((j+1:Nat):Int)) G (G5 (k9 _ _ (j+1) (q.1,q.2) (app1 e7 h) (by omega) ⟨(.sm G G),⟨⟨_,rfl,.vec⟩,U⟩,rfl⟩)))))
     ·
      have h:=app1 d1 (cB b7 (R9 hb))
      refine H9 (k6 (G1 (JLm (Ej k) G (JLh (I64 ((k+1:Nat):Int)) (Hs (Hb d0 (Zr k0)) G G G) G (JLm (I64 ((k+1:Nat):Int)) G (G5 (n0 _ _ (k+1) (i.1,i.2) (app1 k5 h) (by omega) ⟨(.sm G G),⟨⟨_,rfl,.vec⟩,U⟩,rfl⟩)))))))
    ·
     have h:=app1 e1 (cB c9 (R9 hb))
     refine H9 (m7 _ _ m8 (v.1,v.2) (app1 j5 h) (by omega) ⟨(.sm G G),⟨⟨_,rfl,.vec⟩,U⟩,rfl⟩)
   ·
    refine H9 (j1 (zR [(10,Ec l.2)] [] 1092 rfl rfl U rfl (by exact⟨.vec,U⟩) (Jr fun f4=>(JLh (OW 1093 1 I64 ([]:List Int)) (kY 1093 3 1 G G G) G (G5 (f4 (Jr fun f5=>(JLm (I64 0) G (G5 (f5 (Gf ?_)))))))))))
    obtain⟨l0,f6,h⟩:=Ga8 h
    refine H8 (fun a0 (c:(List Int)×Int)=>loop l0 a0 c=some r) (fun a0 c=>[(10,Ec l.2),(16,OW 1093 1 I64 c.1),(17,I64 c.2)]) (fun a0 c=>(Mj c)) (fun a0=>a0) F ([],0) h ⟨(.sm G G),⟨⟨_,G,.same⟩,U⟩,G⟩ ?_
    clear h
    intro a0 c f7 n8 l1
    obtain⟨l2,n2,hm_162,f8,h⟩:=G15 f7
    replace h:=Jeb f6 h
    refine Gf (Jr fun f9=>(JLm (I64 0) G (G5 (f9 (Jr fun g0=>(JLm (BL false) G (G5 (g0 (Js fun g1=>Jr fun g2=>(JLm (I64 0) G (G5 (g2 (Gf ?_)))))))))))))
    obtain⟨l3,g3,g4,d7,h⟩:=Hy h
    refine H8 (fun m (g:Int×Bool)=>each l3 g3 (List.drop m l.2) m g=some r) (fun m g=>[(10,Ec l.2),(16,OW 1093 1 I64 c.1),(17,I64 c.2),(18,I64 g.1),(19,BL g.2),(20,Ej m)]) (fun m g=>(Mj c)) (fun m=>l.2.length - m) 0 (0,false) h ⟨(.sm G G),⟨⟨_,rfl,.same⟩,U⟩,rfl⟩ ?_
    clear h
    intro m g c3 n9 l4
    refine Js fun g5=>Jr fun g6=>(JLm (Ej m) G (JLm (Ec l.2) G (JLl Qx G G G fun g7=>(JLh (BL (decide ((m:Int) < (l.2.length:Int)))) (Hr G G G) G (G5 (g6 (Gg G (fun hb=>?_) (fun hb=>?_))))))))
    ·
     have c4:=Je hb
     obtain⟨d,n3,a2,g8,h⟩:=Hh c3 c4
     replace h:=Rx g4 h
     refine Gn (g5 ?_)
     obtain⟨g9,d8,h⟩:=gF h
     refine Zc (fun t:Int×Bool=>g9 t=some r) (fun t=>[(10,Ec l.2),(16,OW 1093 1 I64 c.1),(17,I64 c.2),(18,I64 t.1),(19,BL t.2),(20,Ej m)]) (fun t=>(Mj c)) (fun Kj191 ej191=>?_) ?_
     ·
      refine Gf (Jr fun h0=>(JLm (Ec l.2) G (JLm (Ec l.2) G (JLm (Ej m) G (JLh (.dptr [I64 d.id,BL d.in_]) (Gr (f:=Gt.av) (xs:=l.2) (y:=d) G G G Qx a2 G) G (JLh (.dptr [I64 d.id,BL d.in_]) (Ga aL G G G) G (JLh (I64 d.id) (Ge Gb G G G) G ?_)))))))
      obtain⟨a1,h1,h⟩:=Gd h
      refine JLh (BL a1) (Gi G (vH l.2 d.id a1 h1) Gf0 ⟨G,G,G,G,U⟩) G (JLm (BL a1) G (JLo (OW 1093 1 I64 c.1) [] G .sct U (fun hc=>G3 G G) G (JLo (Ej c.1.length) [137] G .sct ⟨Ua,U⟩ (fun hc=>Q8 (f:=I64) (xs:=c.1) Gz G G) G (JLo (BL (decide ((c.1.length:Int)=0))) [138] G .sct ⟨Ua,U⟩ (fun hc=>Qc G G G) G (JLo (BL (decide ((c.1.length:Int)=0))) [139] G .sct ⟨Ua,U⟩ (fun hc=>G3 G G) G (JLo (Ec l.2) [] G .optf U (fun hc=>G3 G G) G (JLo (Ej m) [] G .optf U (fun hc=>G3 G G) G (JLo (.dptr [I64 d.id,BL d.in_]) [141,142] G .optf ⟨Ua,Ua,U⟩ (fun hc=>Gr (f:=Gt.av) (xs:=l.2) (y:=d) G G G Qx a2 G) G (JLo (.dptr [I64 d.id,BL d.in_]) [143] G .optf ⟨Ua,U⟩ (fun hc=>Ga aL G G G) G (JLo (I64 d.id) [144] G .optf ⟨Ua,U⟩ (fun hc=>Ge Gb G G G) G (JLo (I64 c.2) [] G .optf U (fun hc=>G3 G G) G (JLo (BL (decide (c.2 < d.id))) [145,146] G .optf ⟨Ua,Ua,U⟩ (fun hc=>dE G G G) G ?_))))))))))))
      refine G9 (u:=BL ((decide ((c.1.length:Int)=0))||(decide (c.2 < d.id)))) [(140,BL (decide ((c.1.length:Int)=0))),(147,_)] G G G .sct ⟨.all id,.part,U⟩ (fun hc=>Rm G G G G) ?_
      refine JLh (BL (a1&&((decide ((c.1.length:Int)=0))||(decide (c.2 < d.id))))) (J9 G G G G) G (JLm (BL (a1&&((decide ((c.1.length:Int)=0))||(decide (c.2 < d.id))))) G (JLo (BL g.2) [] G .sct U (fun hc=>G3 G G) G (JLo (BL (!g.2)) [151] G .sct ⟨Ua,U⟩ (fun hc=>Qj (b:=g.2) G G) G (JLo (BL (!g.2)) [152] G .sct ⟨Ua,U⟩ (fun hc=>G3 G G) G (JLo (Ec l.2) [] G .optf U (fun hc=>G3 G G) G (JLo (Ej m) [] G .optf U (fun hc=>G3 G G) G (JLo (.dptr [I64 d.id,BL d.in_]) [154,155] G .optf ⟨Ua,Ua,U⟩ (fun hc=>Gr (f:=Gt.av) (xs:=l.2) (y:=d) G G G Qx a2 G) G (JLo (.dptr [I64 d.id,BL d.in_]) [156] G .optf ⟨Ua,U⟩ (fun hc=>Ga aL G G G) G (JLo (I64 d.id) [157] G .optf ⟨Ua,U⟩ (fun hc=>Ge Gb G G G) G (JLo (I64 g.1) [] G .optf U (fun hc=>G3 G G) G (JLo (BL (decide (d.id < g.1))) [158,159] G .optf ⟨Ua,Ua,U⟩ (fun hc=>Hr G G G) G ?_)))))))))))
      refine G9 (u:=BL ((!g.2)||(decide (d.id < g.1)))) [(153,BL (!g.2)),(160,_)] G G G .sct ⟨.all id,.part,U⟩ (fun hc=>Rm G G G G) ?_
      refine JLh (BL ((a1&&((decide ((c.1.length:Int)=0))||(decide (c.2 < d.id))))&&((!g.2)||(decide (d.id < g.1))))) (J9 G G G G) G (G5 (h0 (JCc G h (fun h hb=>?_) (fun h hb=>?_))))
      ·
       refine G1 (JLm (Ec l.2) G (JLm (Ej m) G (JLh (.dptr [I64 d.id,BL d.in_]) (Gr (f:=Gt.av) (xs:=l.2) (y:=d) G G G Qx a2 G) G (JLh (.dptr [I64 d.id,BL d.in_]) (Ga aL G G G) G (JLh (I64 d.id) (Ge Gb G G G) G (JLm (I64 d.id) G (JLm (BL true) G (G5 (ej191 _ _ (d.id,true) h ⟨(.sm G G),⟨⟨_,rfl,.same⟩,U⟩,rfl⟩)))))))))
      ·
       refine Gn (ej191 _ _ (g.1,g.2) h ⟨(.sm G G),⟨⟨_,rfl,.same⟩,U⟩,rfl⟩)
     .intro t h
      replace h:=app1 d8 h
      refine G1 (JLm (Ej m) G (JLh (I64 ((m+1:Nat):Int)) (Hs (Hb c4 g7) G G G) G (JLm (I64 ((m+1:Nat):Int)) G (G5 (l4 _ _ (m+1) (t.1,t.2) (app1 g8 h) (by omega) ⟨(.sm G G),⟨⟨_,rfl,.same⟩,U⟩,rfl⟩)))))
    ·
     have h:=app1 d7 (Hi c3 (H6 hb))
     refine H9 (g1 (Js fun h2=>Jr fun h3=>(JLm (BL g.2) G (JLh (BL (!g.2)) (Qj (b:=g.2) G G) G (G5 (h3 (JCc G h (fun h hb=>?_) (fun h hb=>?_))))))))
     ·
      refine Jr fun h4=>(JLm (OW 1093 1 I64 c.1) G (JLm (OW 1093 1 I64 c.1) G (JLm (I64 0) G (G5 (h4 (Gs (⟨[E2 c.1,I64 0],[],U,G,⟨⟨_,G,.conv (.list G)⟩,⟨_,G,.conv (.same G)⟩,U⟩,G,congrArg (fun r:(List Int)×Int=>(.tup [E2 r.1,I64 r.2]:AV)) (Pc h)⟩)))))))
     ·
      refine Gn (h2 (Jr fun h5=>(JLm (OW 1093 1 I64 c.1) G (JLm (I64 g.1) G (JLh (E2 [g.1]) (Hf (xs:=[I64 g.1]) G ⟨G,G,U⟩ Gz Zq G G G G) G ?_)))))
      obtain⟨h6,h⟩:=J5 h
      refine JLh (OW 1093 1 I64 (c.1++[g.1])) (R8 (f:=I64) (xs:=c.1) (ys:=[g.1]) G G G G Gz fY h6 (fun _=>G) (.inl G) G) G (JLm (OW 1093 1 I64 (c.1++[g.1])) G (G5 (h5 (G1 (JLm (I64 g.1) G (JLm (I64 g.1) G (G5 (l1 _ _ l2 ((c.1++[g.1]),g.1) (app1 f8 h) (by omega) ⟨(.sm G G),⟨⟨_,rfl,.same⟩,U⟩,rfl⟩))))))))

def Re (F:Nat) (s:Gq) (bx:List Box) (calls:Int) (p:Ya):Option ((List (List Int))×Int):=
 bnd (Qy F s bx calls p) fun i=>
 bif decide (i.2≠0) then
 (some ([],i.2))
 else
 (need (decide (calls≤9223372036854775807)) <|
  upto (fun d (b:(List (List Int))×(List G2)) g=>
   Jo p.States (d:Int) fun j=>
   bnd (Rr F s bx b.2 j) fun k=>
   each (fun c q (a:(List Int)) h=>
    jp (fun e=>
     bnd (Jg b.2 c) fun f=>
     bnd (bif decide (0≤f) then Jo p.States (d:Int) some else some default) fun l=>
     bnd (bif decide (0≤f) then Jg l c else some default) fun m=>
     bif ((decide (0≤f))&&(decide (0≤m))) then
     (need (decide ((a.length+[c].length)*8≤140737488355328/\a.length+[c].length≤maxLen)) <|
      e (a++[c]))
     else
     (e a)) fun(n:(List Int))=>
    h n)
   (fun(a:(List Int))=>
    need (decide ((b.1.length+[a].length)*24≤140737488355328/\b.1.length+[a].length≤maxLen)) <|
    Jo p.States (d:Int) fun o=>
    g ((b.1++[a]),o)) k.1 0 [])
  (fun(b:(List (List Int))×(List G2))=>
   some (b.1,0)) calls.toNat 0 ([],[]))
abbrev Mk (p:Ya):List AV:=[LS 1 (E1) p.States,LS 1 (E2) p.Water]
abbrev Mm (a:(List (List Int))×(List G2)):Nat×Jn:=(1033,.spare 51 1 a.1.length a.1.length)
theorem gT (F:Nat) (s:Gq) (bx:List Box) (calls:Int) (p:Ya) (r:(List (List Int))×Int) (h:Re F s bx calls p=some r):Pure Ek 19 [.agg (Gq.cs s),E3 bx,I64 calls,.agg [LS 1 (E1) p.States,LS 1 (E2) p.Water]] (·=.tup [LS 1 (E2) r.1,I64 r.2]):=by
 unfold Re at h
 refine Gy [.tmp 8,.tmp 9] Tryz.func19 G G (Jr fun d3=>(JLh (.ptr 1031 0) (Jy (cs:=(Gq.cs s)) 1031 G G G G G) G (JLh (.ptr 1032 0) (Jy (cs:=(Mk p)) 1032 G G G G G) G (JLh (LS 1 (E2) ([]:List (List Int))) (Qd 1 G G) G (JLm (I64 0) G (G5 (d3 ?_)))))))
 refine fzQ [(1,E3 bx),(2,I64 calls),(4,Ed s),(7,.ptr 1032 0)] [(1032,.box 37 (Mk p))] 1031 rfl rfl rfl ⟨⟨_,rfl,.boxEq rfl rfl⟩,U⟩ rfl (fzQ [(1,E3 bx),(2,I64 calls),(4,Ed s),(7,.dptr (Mk p))] [] 1032 rfl rfl rfl U rfl (Js fun d4=>Jr fun d5=>(JLh (.agg (Gq.cs s)) (Gj J4 G G G) G (JLm (E3 bx) G (JLm (I64 calls) G (JLh (.agg (Mk p)) (Gj R5 G G G) G ?_))))))
 obtain⟨i,d6,h⟩:=Gd h
 refine JLh (.tup [I64 i.1,I64 i.2]) (Gi G (iR F s bx calls p i d6) ZZ ⟨G,G,G,G,G,G,G,G,U⟩) G (JLm (.tup [I64 i.1,I64 i.2]) G (JLh (I64 i.1) (Hx G G G) G (JLh (I64 i.2) (Hx G G G) G (JLm (I64 i.1) G (JLm (I64 i.2) G (G5 (d5 (Jr fun d7=>(JLm (I64 i.2) G (JLh (BL (decide (i.2≠0))) (aH G G G) G (G5 (d7 (JCc G h (fun h hb=>?_) (fun h hb=>?_))))))))))))))
 ·
  refine Jr fun d8=>(JLm (I64 i.2) G (JLh (LS 1 (E2) ([]:List (List Int))) (Qd 1 G G) G (JLm (I64 i.2) G (G5 (d8 (Gs (⟨[LS 1 (E2) ([]:List (List Int)),I64 i.2],[],U,G,⟨⟨_,G,.conv (.same G)⟩,⟨_,G,.conv (.same G)⟩,U⟩,G,congrArg (fun r:(List (List Int))×Int=>(.tup [LS 1 (E2) r.1,I64 r.2]:AV)) (Pc h)⟩)))))))
 ·
  refine Gn (d4 (Jr fun d9=>(JLh (OW 1033 1 (E2) ([]:List (List Int))) (kY 1033 51 1 G G G) G (G5 (d9 (Jr fun e0=>(JLh (E1 ([]:List G2)) (Qd 4 G G) G (G5 (e0 (Js fun e1=>Jr fun a1=>(JLm (I64 0) G (G5 (a1 (Gf ?_))))))))))))))
  obtain⟨a2,h⟩:=J5 h
  obtain⟨e2,a3,a4,x,h⟩:=dW h
  refine H8 (fun d (a:(List (List Int))×(List G2))=>upto e2 a3 (calls.toNat - d) d a=some r) (fun d a=>[(1,E3 bx),(2,I64 calls),(4,Ed s),(7,.dptr (Mk p)),(12,OW 1033 1 (E2) a.1),(13,E1 a.2),(14,Ej d)]) (fun d a=>[(Mm a)]) (fun d=>calls.toNat - d) 0 ([],[]) h ⟨(.sm G G),⟨⟨_,rfl,.same⟩,U⟩,rfl⟩ ?_
  clear h
  intro d a t e8 e3
  refine Js fun a5=>Jr fun a6=>(JLm (Ej d) G (JLm (I64 calls) G (JLh (BL (decide ((d:Int) < calls))) (Hr G G G) G (G5 (a6 (Gg G (fun hb=>?_) (fun hb=>?_)))))))
  ·
   have u:=cE hb
   obtain⟨e6,a7,h⟩:=cA t u
   replace h:=vG a4 h
   refine Gn (a5 (Js fun a8=>Gf (Js fun a9=>rM (l':=[(1,E3 bx),(2,I64 calls),(4,Ed s),(7,.dptr (Mk p)),(12,OW 1033 1 (E2) a.1),(13,E1 a.2),(14,Ej d)]) (L':=[(Mm a)]) ⟨(.sm G G),⟨⟨_,rfl,.same⟩,U⟩,rfl⟩ ?_)))
   obtain⟨e9,k,b0,b1,h⟩:=R0 h
   obtain⟨c,b2,h⟩:=Gd h
   refine JC_d0 Jd (by kernel_rfl) (Dq (.agg (Gq.cs s)) (Gj J4 G G G) G (Dq (E3 bx) (G3 G G) G (Dq (E1 a.2) (G3 G G) G (Dq (.dptr (Mk p)) (Ga Qr G G G) G (Dq (LS 1 (E1) p.States) (Ge Qe G G G) G (Dq (Ej d) (G3 G G) G (Dq (.dptr [E1 k]) (Gr (f:=(E1)) (xs:=p.States) (y:=k) G G G Hn b1 b0) G (Dq (E1 k) (Ge Q6 G G G) G (Dq (.tup [E2 c.1,I64 c.2]) (Gi (args:=[.agg (Gq.cs s),E3 bx,E1 a.2,E1 k]) G (qD F s bx a.2 k c b2) H61 ⟨G,G,G,G,G,G,G,G,U⟩) G (Dq (.tup [E2 c.1,I64 c.2]) (G3 G G) G (Dq (E2 c.1) (Hx G G G) G (Dq (I64 c.2) (Hx G G G) G (Dq (E2 c.1) (G7 G G) G ?_)))))))))))))
   refine Dq (I64 c.2) (G7 G G) G (Dnil (a9 (Jr fun b3=>(JLh (OW 1034 1 I64 ([]:List Int)) (kY 1034 3 1 G G G) G (G5 (b3 (Js fun b4=>Jr fun b5=>(JLm (I64 0) G (G5 (b5 (Gf ?_)))))))))))
   obtain⟨e4,b6,b7,z,h⟩:=Hy h
   refine H8 (fun e (b:(List Int))=>each e4 b6 (List.drop e c.1) e b=some r) (fun e b=>[(1,E3 bx),(2,I64 calls),(4,Ed s),(7,.dptr (Mk p)),(12,OW 1033 1 (E2) a.1),(13,E1 a.2),(14,Ej d),(15,E2 c.1),(17,OW 1034 1 I64 b),(18,Ej e)]) (fun e b=>[(Mm a),(1034,.spare 3 1 b.length b.length)]) (fun e=>c.1.length - e) 0 [] h ⟨(.sm G G),⟨⟨_,rfl,.same⟩,⟨_,rfl,.same⟩,U⟩,rfl⟩ ?_
   clear h
   intro e b v f0 e5
   refine Js fun b8=>Jr fun b9=>(JLm (Ej e) G (JLm (E2 c.1) G (JLl Gz G G G fun c0=>(JLh (BL (decide ((e:Int) < (c.1.length:Int)))) (Hr G G G) G (G5 (b9 (Gg G (fun hb=>?_) (fun hb=>?_))))))))
   ·
    have w:=Je hb
    obtain⟨g,e7,o,c1,h⟩:=Hh v w
    replace h:=Rx b7 h
    refine Gn (b8 ?_)
    obtain⟨c2,a0,h⟩:=gF h
    refine Zc (fun j:(List Int)=>c2 j=some r) (fun j=>[(1,E3 bx),(2,I64 calls),(4,Ed s),(7,.dptr (Mk p)),(12,OW 1033 1 (E2) a.1),(13,E1 a.2),(14,Ej d),(15,E2 c.1),(17,OW 1034 1 I64 j),(18,Ej e)]) (fun j=>[(Mm a),(1034,.spare 3 1 j.length j.length)]) (fun Kj50 ej50=>?_) ?_
    ·
     refine Gf (Js fun c3=>rM (l':=[(1,E3 bx),(2,I64 calls),(4,Ed s),(7,.dptr (Mk p)),(12,OW 1033 1 (E2) a.1),(13,E1 a.2),(14,Ej d),(15,E2 c.1),(17,OW 1034 1 I64 b),(18,Ej e)]) (L':=[(Mm a),(1034,.spare 3 1 b.length b.length)]) ⟨(.sm G G),⟨⟨_,rfl,.same⟩,⟨_,rfl,.same⟩,U⟩,rfl⟩ ?_)
     obtain⟨l,c4,h⟩:=Gd h
     obtain⟨m,c5,h⟩:=Gd h
     obtain⟨q,c6,h⟩:=Gd h
     refine JC_d0 Jd (by kernel_rfl) (Dq (E1 a.2) (G3 G G) G (Dq (E2 c.1) (G3 G G) G (Dq (Ej e) (G3 G G) G (Dq (.dptr [I64 g]) (Gr (f:=I64) (xs:=c.1) (y:=g) G G G Gz o G) G (Dq (I64 g) (Ge Gb G G G) G (Dq (I64 l) (Gi (args:=[E1 a.2,I64 g]) G (Qt a.2 g l c4) eJ ⟨G,G,G,G,U⟩) G (Dq (BL (decide (0≤l))) (cH G G G) G (Dq (BL (decide (0≤l))) (G3 G G) G (Do (.dptr (Mk p)) [] G .sct U (fun hc=>Ga Qr G G G) G (Do (LS 1 (E1) p.States) [61] G .sct ⟨Ua,U⟩ (fun hc=>Ge Qe G G G) G (Do (Ej d) [] G .sct U (fun hc=>G3 G G) G (Do (.dptr [E1 m]) [62,63] G .sct ⟨Ua,Ua,U⟩ (fun hc=>(match Jt (Gv hc c5) with | ⟨_,hm_,hy_⟩=>Gr (f:=(E1)) (xs:=p.States) (y:=m) G G G Hn hy_ hm_)) G (Do (E1 m) [64] G .sct ⟨Ua,U⟩ (fun hc=>Ge Q6 G G G) G ?_)))))))))))))
     refine Do (E2 c.1) [] G .sct U (fun hc=>G3 G G) G (Do (Ej e) [] G .sct U (fun hc=>G3 G G) G (Do (.dptr [I64 g]) [66,67] G .sct ⟨Ua,Ua,U⟩ (fun hc=>Gr (f:=I64) (xs:=c.1) (y:=g) G G G Gz o G) G (Do (I64 g) [68] G .sct ⟨Ua,U⟩ (fun hc=>Ge Gb G G G) G (Do (I64 q) [65,69] G .sct ⟨Ua,Ua,U⟩ (fun hc=>Gi (args:=[E1 m,I64 g]) G (Qt m g q (Gv hc c6)) eJ ⟨G,G,G,G,U⟩) G (Do (BL (decide (0≤q))) [70] G .sct ⟨Ua,U⟩ (fun hc=>cH G G G) G (Dq (BL ((decide (0≤l))&&(decide (0≤q)))) (J9 G G G G) G (Dnil (c3 (JCc G h (fun h hb=>?_) (fun h hb=>?_))))))))))
     ·
      refine G1 (JLm (OW 1034 1 I64 b) G (JLm (E2 c.1) G (JLm (Ej e) G (JLh (.dptr [I64 g]) (Gr (f:=I64) (xs:=c.1) (y:=g) G G G Gz o G) G (JLh (I64 g) (Ge Gb G G G) G (JLh (E2 [g]) (Hf (xs:=[I64 g]) G ⟨G,G,U⟩ Gz Zq G G G G) G ?_))))))
      obtain⟨c7,h⟩:=J5 h
      refine JLh (OW 1034 1 I64 (b++[g])) (R8 (f:=I64) (xs:=b) (ys:=[g]) G G G G Gz fY c7 (fun _=>G) (.inl G) G) G (JLm (OW 1034 1 I64 (b++[g])) G (G5 (ej50 _ _ (b++[g]) h ⟨(.sm G G),⟨⟨_,rfl,.same⟩,⟨_,rfl,.same⟩,U⟩,rfl⟩)))
     ·
      refine Gn (ej50 _ _ b h ⟨(.sm G G),⟨⟨_,rfl,.same⟩,⟨_,rfl,.same⟩,U⟩,rfl⟩)
    .intro j h
     replace h:=app1 a0 h
     refine G1 (JLm (Ej e) G (JLh (I64 ((e+1:Nat):Int)) (Hs (Hb w c0) G G G) G (JLm (I64 ((e+1:Nat):Int)) G (G5 (e5 _ _ (e+1) j (app1 c1 h) (by omega) ⟨(.sm G G),⟨⟨_,rfl,.same⟩,⟨_,rfl,.same⟩,U⟩,rfl⟩)))))
   ·
    have h:=app1 z (Hi v (H6 hb))
    refine H9 (b4 (Jr fun c8=>(JLm (OW 1033 1 (E2) a.1) G (JLm (OW 1034 1 I64 b) G (JLh (LS 1 (E2) [b]) (Hf (xs:=[E2 b]) G ⟨G,G,U⟩ Hz mE G G G G) G ?_)))))
    obtain⟨c9,h⟩:=J5 h
    refine JLh (OW 1033 1 (E2) (a.1++[b])) (R8 (f:=(E2)) (xs:=a.1) (ys:=[b]) G G G G Hz oT c9 (fun _=>G) (.inl G) G) G (JLm (OW 1033 1 (E2) (a.1++[b])) G (G5 (c8 (G1 (JLh (.dptr (Mk p)) (Ga Qr G G G) G (JLh (LS 1 (E1) p.States) (Ge Qe G G G) G (JLm (Ej d) G ?_)))))))
    obtain⟨f1,n,d0,d1,h⟩:=R0 h
    refine JLh (.dptr [E1 n]) (Gr (f:=(E1)) (xs:=p.States) (y:=n) G G G Hn d1 d0) G (JLh (E1 n) (Ge Q6 G G G) G (JLm (E1 n) G (G5 (a8 (G1 (JLm (Ej d) G (JLh (I64 ((d+1:Nat):Int)) (Hs (Hb u (Zr a2)) G G G) G (JLm (I64 ((d+1:Nat):Int)) G (G5 (e3 _ _ (d+1) ((a.1++[b]),n) (app1 a7 h) (by omega) ⟨(.sm G G),⟨⟨_,rfl,.same⟩,U⟩,rfl⟩))))))))))
  ·
   have h:=app1 x (cB t (R9 hb))
   refine H9 (e1 (Jr fun d2=>(JLm (OW 1033 1 (E2) a.1) G (JLm (OW 1033 1 (E2) a.1) G (JLm (I64 0) G (G5 (d2 (Gs (⟨[LS 1 (E2) a.1,I64 0],[],U,G,⟨⟨_,G,.conv (.list G)⟩,⟨_,G,.conv (.same G)⟩,U⟩,G,congrArg (fun r:(List (List Int))×Int=>(.tup [LS 1 (E2) r.1,I64 r.2]:AV)) (Pc h)⟩)))))))))

def aN (F:Nat) (s:Gq) (bx:List Box) (calls:Int) (p:Ya):Option (Int×Int):=
 bnd (Re F s bx calls p) fun c=>
 each (fun d f (a:Int) b=>
  chk (a+(d.length:Int)) fun e=>
  b e)
 (fun(a:Int)=>
  some (a,c.2)) c.1 0 0
theorem rY (F:Nat) (s:Gq) (bx:List Box) (calls:Int) (p:Ya) (r:Int×Int) (h:aN F s bx calls p=some r):Pure Ek 21 [.agg (Gq.cs s),E3 bx,I64 calls,.agg [LS 1 (E1) p.States,LS 1 (E2) p.Water]] (·=.tup [I64 r.1,I64 r.2]):=by
 unfold aN at h
 refine Gy [.tmp 8,.tmp 9] Tryz.func21 G G (Jr fun x=>(JLh (.ptr 1037 0) (Jy (cs:=(Gq.cs s)) 1037 G G G G G) G (JLh (.ptr 1038 0) (Jy (cs:=[LS 1 (E1) p.States,LS 1 (E2) p.Water]) 1038 G G G G G) G (JLm (I64 0) G (JLm (I64 0) G (G5 (x (fzQ [(1,E3 bx),(2,I64 calls),(4,Ed s),(7,.ptr 1038 0)] [(1038,.box 37 [LS 1 (E1) p.States,LS 1 (E2) p.Water])] 1037 rfl rfl rfl ⟨⟨_,rfl,.boxEq rfl rfl⟩,U⟩ rfl ?_))))))))
 refine fzQ [(1,E3 bx),(2,I64 calls),(4,Ed s),(7,.dptr [LS 1 (E1) p.States,LS 1 (E2) p.Water])] [] 1038 rfl rfl rfl U rfl (Jr fun z=>(JLh (.agg (Gq.cs s)) (Gj J4 G G G) G (JLm (E3 bx) G (JLm (I64 calls) G (JLh (.agg [LS 1 (E1) p.States,LS 1 (E2) p.Water]) (Gj R5 G G G) G ?_)))))
 obtain⟨b,a0,h⟩:=Gd h
 refine JLh (.tup [LS 1 (E2) b.1,I64 b.2]) (Gi G (gT F s bx calls p b a0) ZV ⟨G,G,G,G,G,G,G,G,U⟩) G (JLm (.tup [LS 1 (E2) b.1,I64 b.2]) G (JLh (LS 1 (E2) b.1) (Hx G G G) G (JLh (I64 b.2) (Hx G G G) G (JLm (LS 1 (E2) b.1) G (JLm (I64 b.2) G (G5 (z (Jr fun a1=>(JLm (I64 0) G (G5 (a1 (Js fun a2=>Jr fun a3=>(JLm (I64 0) G (G5 (a3 (Gf ?_))))))))))))))))
 obtain⟨a4,k,l,j,h⟩:=Hy h
 refine H8 (fun a (c:Int)=>each a4 k (List.drop a b.1) a c=some r) (fun a c=>[(10,LS 1 (E2) b.1),(11,I64 b.2),(12,I64 c),(13,Ej a)]) (fun a c=>[]) (fun a=>b.1.length - a) 0 0 h ⟨(.sm G G),U,rfl⟩ ?_
 clear h
 intro a c d a8 a5
 refine Js fun m=>Jr fun n=>(JLm (Ej a) G (JLm (LS 1 (E2) b.1) G (JLl Hz G G G fun o=>(JLh (BL (decide ((a:Int) < (b.1.length:Int)))) (Hr G G G) G (G5 (n (Gg G (fun hb=>?_) (fun hb=>?_))))))))
 ·
  have e:=Je hb
  obtain⟨g,a6,q,t,h⟩:=Hh d e
  replace h:=Rx l h
  refine Gn (m (Js fun u=>Gf (G1 (JLm (I64 c) G (JLm (LS 1 (E2) b.1) G (JLm (Ej a) G (JLh (.dptr [E2 g]) (Gr (f:=(E2)) (xs:=b.1) (y:=g) G G G Hz q G) G (JLh (E2 g) (Ge He G G G) G (JLl Gz G G G fun a7=>?_)))))))))
  obtain⟨i,v,h⟩:=R2 h
  refine JLh (I64 i) (Hs v G G G) G (JLm (I64 i) G (G5 (u (G1 (JLm (Ej a) G (JLh (I64 ((a+1:Nat):Int)) (Hs (Hb e o) G G G) G (JLm (I64 ((a+1:Nat):Int)) G (G5 (a5 _ _ (a+1) i (app1 t h) (by omega) ⟨(.sm G G),U,rfl⟩)))))))))
 ·
  have h:=app1 j (Hi d (H6 hb))
  refine H9 (a2 (Jr fun w=>(JLm (I64 c) G (JLm (I64 b.2) G (JLm (I64 c) G (JLm (I64 b.2) G (G5 (w (Gs (⟨[I64 c,I64 b.2],[],U,G,⟨⟨_,G,.conv (.same G)⟩,⟨_,G,.conv (.same G)⟩,U⟩,G,congrArg (fun r:Int×Int=>(.tup [I64 r.1,I64 r.2]:AV)) (Pc h)⟩))))))))))

def uU (p:Ya):Option Unit:=
 some ()
theorem G34 (p:Ya) (r:Unit) (h:uU p=some r):Pure Ek 50 [.agg [LS 1 (E1) p.States,LS 1 (E2) p.Water]] (·=.fn 116 [.dptr [LS 1 (E1) p.States,LS 1 (E2) p.Water]]):=by
 unfold uU at h
 refine Gy [.tmp 2] Tryz.func50 G G (Jr fun a=>(JLh (.ptr 1074 0) (Jy (cs:=[LS 1 (E1) p.States,LS 1 (E2) p.Water]) 1074 G G G G G) G (JLm (.sc .nilFunc) G (G5 (a (Gw [(1,.dptr [LS 1 (E1) p.States,LS 1 (E2) p.Water])] [] 1074 rfl rfl rfl U rfl (by exact⟨.ptr,U⟩) (Jr fun b=>(JLh (.fn 116 [.dptr [LS 1 (E1) p.States,LS 1 (E2) p.Water]]) (eS (cs:=[.dptr [LS 1 (E1) p.States,LS 1 (E2) p.Water]]) G G) G (JLm (.fn 116 [.dptr [LS 1 (E1) p.States,LS 1 (E2) p.Water]]) G (G5 (b (Gs ?_))))))))))))
 exact⟨[.fn 116 [.dptr [LS 1 (E1) p.States,LS 1 (E2) p.Water]]],[],U,G,⟨⟨_,G,.conv (.same G)⟩,U⟩,G,congrArg (fun _:Unit=>(.fn 116 [.dptr [LS 1 (E1) p.States,LS 1 (E2) p.Water]]:AV)) (Pc h)⟩

def jC (x:G2) (a:Int):Option Bool:=
 some (decide (x.Box=a))
theorem YM (x:G2) (a:Int) (r:Bool) (h:jC x a=some r):Pure Ek 124 [.agg (G2.cs x),.dptr [I64 a]] (·=BL r):=by
 unfold jC at h
 refine Gy [.tmp 3] Tryz.func124 G G (Jr fun b=>(JLh (.ptr 1140 0) (Jy (cs:=[I64 x.Box,I64 x.Slot.G6,I64 x.Slot.Tier,U8 x.Slot.Half]) 1140 G G G G G) G (JLm (BL false) G (G5 (b (Gw [(1,.dptr [I64 a]),(2,Ee x)] [] 1140 rfl rfl rfl U rfl (by exact⟨.conv (.same rfl),.ptr,U⟩) (Jr fun c=>(JLh (Ee x) (Ga Qf G G G) G (JLh (I64 x.Box) (Ge Gb G G G) G (JLh (I64 a) (Ge Gb G G G) G (JLh (BL (decide (x.Box=a))) (Qc G G G) G (JLm (BL (decide (x.Box=a))) G (G5 (c (Gs (fin1 BL h))))))))))))))))

def Zo (s:List G2) (f:G2→Option Bool):Option Int:=
 each (fun b c (d:Unit) a=>
  bnd (f b) fun e=>
  bif e then
  (some (c:Int))
  else
  (a ()))
 (fun(d:Unit)=>
  some (-1)) s 0 ()
theorem lP (s:List G2) (f:G2→Option Bool) (f_f:FuncId) (f_c:List AV) (f_B:H7 Ek f_f=true) (f_d:Ys (fun _=>false) f_c=true) (f_w:∀ a0 q,f a0=some q→Pure Ek f_f ([.agg (G2.cs a0)]++f_c) (·=BL q)) (r:Int) (h:Zo s f=some r):Pure Ek 123 [E1 s,.fn f_f f_c] (·=I64 r):=by
 unfold Zo at h
 refine Gy [.tmp 4] Tryz.func123 G G (Jr fun x=>(JLm (I64 0) G (G5 (x (Js fun z=>Jr fun a1=>(JLm (E1 s) G (JLl H5 G G G fun a2=>(JLm (I64 0) G (G5 (a1 (Gf ?_)))))))))))
 obtain⟨a3,i,j,g,h⟩:=Hy h
 refine H8 (fun a (c:Unit)=>each a3 i (List.drop a s) a c=some r) (fun a c=>[(0,E1 s),(1,.fn f_f f_c),(7,Ej s.length),(8,Ej a)]) (fun a c=>[]) (fun a=>s.length - a) 0 () h ⟨⟨.same G,.same (Qw _ _ f_d),.same G,.same G,U⟩,U,G⟩ ?_
 clear h
 intro a c d a7 a4
 refine Jr fun k=>(JLh (BL (decide ((a:Int) < (s.length:Int)))) (Hr G G G) G (G5 (k (Js fun l=>Gg G (fun hb=>?_) (fun hb=>?_)))))
 ·
  have e:=Je hb
  obtain⟨b,a6,m,n,h⟩:=Hh d e
  replace h:=Rx j h
  refine Gn (l (Js fun o=>Gf (Jr fun p=>(JLm (Ej a) G (JLm (Ej a) G (G5 (p (Jr fun t=>(JLm (.fn f_f f_c) G (JLm (E1 s) G (JLm (Ej a) G (JLh (Ee b) (Gr (f:=G2.av) (xs:=s) (y:=b) G G G H5 m G) G (JLh (.agg (G2.cs b)) (Gj Zt G G G) G ?_)))))))))))))
  obtain⟨a5,u,h⟩:=Gd h
  refine JLh (BL a5) (fR (args:=[.agg (G2.cs b)]) (caps:=f_c) G G (f_w b _ u) f_B ⟨G,G,U⟩ f_d) G (G5 (t (JCc G h (fun h hb=>?_) (fun h hb=>?_))))
  ·
   refine Jr fun v=>(JLm (Ej a) G (JLm (Ej a) G (G5 (v (Gs (fin1 I64 h))))))
  ·
   refine Gn (o (G1 (JLh (I64 ((a+1:Nat):Int)) (Hs (Hb e a2) G G G) G (JLm (I64 ((a+1:Nat):Int)) G (G5 (a4 _ _ (a+1) () (app1 n h) (by omega) ⟨⟨.same rfl,.same (Qw _ _ f_d),.same rfl,.same rfl,U⟩,U,rfl⟩))))))
 ·
  have h:=app1 g (Hi d (H6 hb))
  refine H9 (z (Jr fun w=>(JLm (I64 (-1)) G (G5 (w (Gs (fin1 I64 h)))))))

def eF (l:List G2) (id_:Int):Option (Slot×Bool):=
 bnd (Zo l (fun z0=>jC z0 id_)) fun a=>
 bif decide (a < 0) then
 (some ((Slot.mk 0 0 0),false))
 else
 (Jo l a fun b=>
  some (b.Slot,true))
theorem eR (l:List G2) (id_:Int) (r:Slot×Bool) (h:eF l id_=some r):Pure Ek 54 [E1 l,I64 id_] (·=.tup [.agg (Slot.cs r.1),BL r.2]):=by
 unfold eF at h
 refine Gy [.cell 4 81,.tmp 5] Tryz.func54 G G (Jr fun c=>(JLh (.ptr 1089 0) (Jy (cs:=[I64 id_]) 1089 G G G G G) G (JLh (.ptr 1090 0) (Rn 1090 [I64 0,I64 0,U8 0] [E0,E0,.int .u8 0] lE (zzQ G) G G) G (JLm (BL false) G (G5 (c (Gw [(0,E1 l),(3,.dptr [I64 id_]),(4,.ptr 1090 0)] [(1090,.box 81 [I64 0,I64 0,U8 0])] 1089 rfl rfl rfl ⟨⟨_,rfl,.boxEq rfl rfl⟩,U⟩ rfl (by exact⟨.conv (.same rfl),.ptr,.conv (.same rfl),U⟩) (Jr fun d=>(JLm (E1 l) G (JLh (.fn 124 [.dptr [I64 id_]]) (eS (cs:=[.dptr [I64 id_]]) G G) G ?_))))))))))
 obtain⟨b,e,h⟩:=Gd h
 refine JLh (I64 b) (Gi G (lP l (fun z0=>jC z0 id_) 124 [.dptr [I64 id_]] Gf2 G (fun z0 q hq=>YM z0 id_ q hq) b e) Gf3 ⟨G,G,G,G,U⟩) G (JLm (I64 b) G (G5 (d (Js fun g=>Jr fun i=>(JLm (I64 b) G (JLh (BL (decide (b < 0))) (Hr G G G) G (G5 (i (JCc G h (fun h hb=>?_) (fun h hb=>?_))))))))))
 ·
  refine Jr fun j=>(JLh (.agg [I64 0,I64 0,U8 0]) (Jq (cs:=[I64 0,I64 0,U8 0]) [(0,1),(1,1),(2,1)] [I64 0,I64 0,U8 0] [E0,E0,.int .u8 0] nN lE (zzQ G) G G) G (J7 (u:=.junk) (Hv (u:=.agg [I64 0,I64 0,U8 0]) (ds:=[I64 0,I64 0,U8 0]) dG G G G G G G G G) (JLm (BL false) G (G5 (j (Gs (⟨[.agg [I64 0,I64 0,U8 0],BL false],[],U,G,⟨⟨_,⟨_,_,_,_,G,G,G,.inl ⟨Q9,G⟩⟩,.conv (.same G)⟩,⟨_,G,.conv (.same G)⟩,U⟩,G,congrArg (fun r:Slot×Bool=>(.tup [.agg (Slot.cs r.1),BL r.2]:AV)) (Pc h)⟩)))))))
 ·
  refine Gn (g (Jr fun k=>(JLm (E1 l) G (JLm (I64 b) G ?_))))
  obtain⟨o,a,m,n,h⟩:=R0 h
  refine JLh (Ee a) (Gr (f:=G2.av) (xs:=l) (y:=a) G G G H5 n m) G (JLh (.dptr ((G2.cs a).drop 1)) (Ga Jj G G G) G (JLh (.agg ((G2.cs a).drop 1)) (Gj Q9 G G G) G (J7 (u:=.junk) (Hv (u:=.agg ((G2.cs a).drop 1)) (ds:=[I64 a.Slot.G6,I64 a.Slot.Tier,U8 a.Slot.Half]) dG G G G G G G G G) (JLm (BL true) G (G5 (k (Gs (⟨[.agg ((G2.cs a).drop 1),BL true],[],U,G,⟨⟨_,⟨_,_,_,_,G,G,G,.inl ⟨Q9,G⟩⟩,.conv (.same G)⟩,⟨_,G,.conv (.same G)⟩,U⟩,G,congrArg (fun r:Slot×Bool=>(.tup [.agg (Slot.cs r.1),BL r.2]:AV)) (Pc h)⟩))))))))

def fP (r_:Int) (a:G6):Option Bool:=
 some (decide (r_=a.Row))
theorem HF (r_:Int) (a:G6) (r:Bool) (h:fP r_ a=some r):Pure Ek 226 [I64 r_,Ef a] (·=BL r):=by
 unfold fP at h
 refine Gy [.tmp 3] Tryz.func226 G G (Jr fun b=>(JLm (BL false) G (G5 (b (Jr fun c=>(JLm (I64 r_) G (JLh (.dptr ((G6.cs a).drop 1)) (Ga bT G G G) G (JLh (I64 a.Row) (Ge Gb G G G) G (JLh (BL (decide (r_=a.Row))) (Qc G G G) G (JLm (BL (decide (r_=a.Row))) G (G5 (c (Gs (fin1 BL h))))))))))))))

def eE (l:List Int) (wanted:Int→Option Bool):Option (List Int):=
 each (fun e b (a:(List Int)) d=>
  jp (fun c=>
   bnd (wanted e) fun f=>
   bif f then
   (need (decide ((a.length+[(b:Int)].length)*8≤140737488355328/\a.length+[(b:Int)].length≤maxLen)) <|
    c (a++[(b:Int)]))
   else
   (c a)) fun(g:(List Int))=>
  d g)
 (fun(a:(List Int))=>
  some a) l 0 []
theorem xV (l:List Int) (wanted:Int→Option Bool) (wanted_f:FuncId) (wanted_c:List AV) (wanted_B:H7 Ek wanted_f=true) (wanted_d:Ys (fun _=>false) wanted_c=true) (wanted_w:∀ a0 q,wanted a0=some q→Pure Ek wanted_f ([I64 a0]++wanted_c) (·=BL q)) (r:(List Int)) (h:eE l wanted=some r):Pure Ek 225 [E2 l,.fn wanted_f wanted_c] (·=E2 r):=by
 unfold eE at h
 refine Gy [.tmp 4] Tryz.func225 G G (Jr fun a1=>(JLh (E2 ([]:List Int)) (Qd 1 G G) G (G5 (a1 (Jr fun a2=>(JLh (OW 1182 1 I64 ([]:List Int)) (kY 1182 3 1 G G G) G (G5 (a2 (Js fun a3=>Jr fun a4=>(JLm (E2 l) G (JLl Gz G G G fun a5=>(JLm (I64 0) G (G5 (a4 (Gf ?_)))))))))))))))
 obtain⟨a6,k,m,i,h⟩:=Hy h
 refine H8 (fun a (b:(List Int))=>each a6 k (List.drop a l) a b=some r) (fun a b=>[(1,.fn wanted_f wanted_c),(5,OW 1182 1 I64 b),(8,E2 l),(9,Ej l.length),(10,Ej a)]) (fun a b=>[(1182,.spare 3 1 b.length b.length)]) (fun a=>l.length - a) 0 [] h ⟨⟨.same (Qw _ _ wanted_d),.same G,.same G,.same G,.same G,U⟩,⟨⟨_,G,.same⟩,U⟩,G⟩ ?_
 clear h
 intro a b e b0 a7
 refine Jr fun n=>(JLh (BL (decide ((a:Int) < (l.length:Int)))) (Hr G G G) G (G5 (n (Js fun o=>Gg G (fun hb=>?_) (fun hb=>?_)))))
 ·
  have g:=Je hb
  obtain⟨d,a9,p,s,h⟩:=Hh e g
  replace h:=Rx m h
  refine Gn (o ?_)
  obtain⟨t,j,h⟩:=gF h
  refine Zc (fun c:(List Int)=>t c=some r) (fun c=>[(1,.fn wanted_f wanted_c),(5,OW 1182 1 I64 c),(8,E2 l),(9,Ej l.length),(10,Ej a)]) (fun c=>[(1182,.spare 3 1 c.length c.length)]) (fun Kj24 ej24=>?_) ?_
  ·
   refine Gf (Jr fun u=>(JLm (Ej a) G (JLh (.dptr [I64 d]) (Gr (f:=I64) (xs:=l) (y:=d) G G G Gz p G) G (JLh (I64 d) (Ge Gb G G G) G (JLm (Ej a) G (JLm (I64 d) G (G5 (u (Jr fun v=>(JLm (.fn wanted_f wanted_c) G (JLm (I64 d) G ?_)))))))))))
   obtain⟨a8,w,h⟩:=Gd h
   refine JLh (BL a8) (fR (args:=[I64 d]) (caps:=wanted_c) G G (wanted_w d _ w) wanted_B ⟨G,G,U⟩ wanted_d) G (G5 (v (JCc G h (fun h hb=>?_) (fun h hb=>?_))))
   ·
    refine G1 (JLm (OW 1182 1 I64 b) G (JLm (Ej a) G (JLh (E2 [(a:Int)]) (Hf (xs:=[Ej a]) G ⟨G,G,U⟩ Gz Zq G G G G) G ?_)))
    obtain⟨x,h⟩:=J5 h
    refine JLh (OW 1182 1 I64 (b++[(a:Int)])) (R8 (f:=I64) (xs:=b) (ys:=[(a:Int)]) G G G G Gz fY x (fun _=>G) (.inl G) G) G (JLm (OW 1182 1 I64 (b++[(a:Int)])) G (G5 (ej24 _ _ (b++[(a:Int)]) h ⟨⟨.same (Qw _ _ wanted_d),.same G,.same G,.same G,.same G,U⟩,⟨⟨_,G,.same⟩,U⟩,G⟩)))
   ·
    refine Gn (ej24 _ _ b h ⟨⟨.same (Qw _ _ wanted_d),.same G,.same G,.same G,.same G,U⟩,⟨⟨_,G,.same⟩,U⟩,G⟩)
  .intro c h
   replace h:=app1 j h
   refine G1 (JLh (I64 ((a+1:Nat):Int)) (Hs (Hb g a5) G G G) G (JLm (I64 ((a+1:Nat):Int)) G (G5 (a7 _ _ (a+1) c (app1 s h) (by omega) ⟨⟨.same (Qw _ _ wanted_d),.same rfl,.same rfl,.same rfl,.same rfl,U⟩,⟨⟨_,rfl,.same⟩,U⟩,rfl⟩))))
 ·
  have h:=app1 i (Hi e (H6 hb))
  refine H9 (a3 (Jr fun z=>(JLm (OW 1182 1 I64 b) G (JLm (OW 1182 1 I64 b) G (G5 (z (Gs (fin1l (fun r:(List Int)=>(E2 r:AV)) h))))))))

def jB (x:H3) (c:G6):Option Bool:=
 bnd (bif decide (x.Bay=c.Bay) then eE x.Rows (fun z0=>fP z0 c) else some default) fun a=>
 some ((decide (x.Bay=c.Bay))&&(decide (0 < (a.length:Int))))
theorem YJ (x:H3) (c:G6) (r:Bool) (h:jB x c=some r):Pure Ek 198 [.agg [I64 x.Bay,E2 x.Rows],.agg (G6.cs c)] (·=BL r):=by
 unfold jB at h
 refine Gy [.tmp 4] Tryz.func198 G G (Jr fun b=>(JLh (.ptr 1167 0) (Jy (cs:=[I64 x.Bay,E2 x.Rows]) 1167 G G G G G) G (JLh (.ptr 1168 0) (Jy (cs:=(G6.cs c)) 1168 G G G G G) G (JLm (BL false) G (G5 (b (Gw [(2,.dptr [I64 x.Bay,E2 x.Rows]),(3,.ptr 1168 0)] [(1168,.box 71 (G6.cs c))] 1167 rfl rfl rfl ⟨⟨_,rfl,.boxEq rfl rfl⟩,U⟩ rfl (by exact⟨.ptr,.conv (.same rfl),U⟩) ?_)))))))
 refine Gw [(2,.dptr [I64 x.Bay,E2 x.Rows]),(3,Ef c)] [] 1168 rfl rfl rfl U rfl (by exact⟨.conv (.same rfl),.ptr,U⟩) (Jr fun d=>(JLh (.dptr [I64 x.Bay,E2 x.Rows]) (Ga aI G G G) G (JLh (I64 x.Bay) (Ge Gb G G G) G (JLh (Ef c) (Ga bU G G G) G (JLh (I64 c.Bay) (Ge Gb G G G) G (JLh (BL (decide (x.Bay=c.Bay))) (Qc G G G) G (JLm (BL (decide (x.Bay=c.Bay))) G (JLo (.dptr [E2 x.Rows]) [] G .sct U (fun hc=>Ga Qg G G G) G (JLo (E2 x.Rows) [11] G .sct ⟨Ua,U⟩ (fun hc=>Ge He G G G) G (JLo (.fn 226 [.dptr (G6.cs c)]) [] G .sct U (fun hc=>eS (cs:=[.dptr (G6.cs c)]) G G) G ?_))))))))))
 obtain⟨a,e,h⟩:=Gd h
 refine JLo (E2 a) [12,13] G .sct ⟨Ua,Ua,U⟩ (fun hc=>Gi (args:=[E2 x.Rows,.fn 226 [.dptr (G6.cs c)]]) G (xV x.Rows (fun z0=>fP z0 c) 226 [.dptr (G6.cs c)] Gd6 G (fun z0 q hq=>HF z0 c q hq) a (Gv hc e)) Gd7 ⟨G,G,G,G,U⟩) G (JLo (Ej a.length) [14] G .sct ⟨Ua,U⟩ (fun hc=>Q8 (f:=I64) (xs:=a) Gz G G) G (JLo (BL (decide (0 < (a.length:Int)))) [15] G .sct ⟨Ua,U⟩ (fun hc=>dE G G G) G (JLh (BL ((decide (x.Bay=c.Bay))&&(decide (0 < (a.length:Int))))) (J9 G G G G) G (JLm (BL ((decide (x.Bay=c.Bay))&&(decide (0 < (a.length:Int))))) G (G5 (d (Gs (fin1 BL h))))))))

def dF (x:H3) (a:Gq) (b:Int):Option Bool:=
 Jo a.Columns b fun c=>
 bnd (jB x c) fun d=>
 some d
theorem zP (x:H3) (a:Gq) (c:Int) (r:Bool) (h:dF x a c=some r):Pure Ek 197 [.agg [I64 x.Bay,E2 x.Rows],Ed a,.dptr [I64 c]] (·=BL r):=by
 unfold dF at h
 refine Gy [.tmp 4] Tryz.func197 G G (Jr fun e=>(JLh (.ptr 1166 0) (Jy (cs:=[I64 x.Bay,E2 x.Rows]) 1166 G G G G G) G (JLm (BL false) G (G5 (e (Gw [(1,Ed a),(2,.dptr [I64 c]),(3,.dptr [I64 x.Bay,E2 x.Rows])] [] 1166 rfl rfl rfl U rfl (by exact⟨.conv (.same rfl),.conv (.same rfl),.ptr,U⟩) (Js fun g=>?_)))))))
 obtain⟨l,b,i,j,h⟩:=R0 h
 obtain⟨d,k,h⟩:=Gd h
 refine JC_d0 Jd (by kernel_rfl) (Dq (.agg [I64 x.Bay,E2 x.Rows]) (Gj Zd G G G) G (Dq (Ed a) (Ga Hu G G G) G (Dq (E4 a.Columns) (Ge J2 G G G) G (Dq (I64 c) (Ge Gb G G G) G (Dq (Ef b) (Gr (f:=G6.av) (xs:=a.Columns) (y:=b) G G G Hd j i) G (Dq (.agg (G6.cs b)) (Gj Zu G G G) G (Dq (BL d) (Gi (args:=[.agg [I64 x.Bay,E2 x.Rows],.agg (G6.cs b)]) G (YJ x b d k) Gdd ⟨G,G,G,G,U⟩) G (Dq (BL d) (G7 G G) G (Dnil (g (Gs (fin1 BL h))))))))))))

def aW (l:List H3) (wanted:H3→Option Bool):Option (List Int):=
 each (fun e b (a:(List Int)) d=>
  jp (fun c=>
   bnd (wanted e) fun f=>
   bif f then
   (need (decide ((a.length+[(b:Int)].length)*8≤140737488355328/\a.length+[(b:Int)].length≤maxLen)) <|
    c (a++[(b:Int)]))
   else
   (c a)) fun(g:(List Int))=>
  d g)
 (fun(a:(List Int))=>
  some a) l 0 []
theorem sG (l:List H3) (wanted:H3→Option Bool) (wanted_f:FuncId) (wanted_c:List AV) (wanted_B:H7 Ek wanted_f=true) (wanted_d:Ys (fun _=>false) wanted_c=true) (wanted_w:∀ a0 q,wanted a0=some q→Pure Ek wanted_f ([.agg [I64 a0.Bay,E2 a0.Rows]]++wanted_c) (·=BL q)) (r:(List Int)) (h:aW l wanted=some r):Pure Ek 196 [E5 l,.fn wanted_f wanted_c] (·=E2 r):=by
 unfold aW at h
 refine Gy [.tmp 4] Tryz.func196 G G (Jr fun a2=>(JLh (E2 ([]:List Int)) (Qd 1 G G) G (G5 (a2 (Jr fun a3=>(JLh (OW 1164 1 I64 ([]:List Int)) (kY 1164 3 1 G G G) G (G5 (a3 (Js fun a4=>Jr fun a5=>(JLm (E5 l) G (JLl J1 G G G fun a6=>(JLm (I64 0) G (G5 (a5 (Gf ?_)))))))))))))))
 obtain⟨a7,k,m,i,h⟩:=Hy h
 refine H8 (fun a (b:(List Int))=>each a7 k (List.drop a l) a b=some r) (fun a b=>[(1,.fn wanted_f wanted_c),(5,OW 1164 1 I64 b),(8,E5 l),(9,Ej l.length),(10,Ej a)]) (fun a b=>[(1164,.spare 3 1 b.length b.length)]) (fun a=>l.length - a) 0 [] h ⟨⟨.same (Qw _ _ wanted_d),.same G,.same G,.same G,.same G,U⟩,⟨⟨_,G,.same⟩,U⟩,G⟩ ?_
 clear h
 intro a b e b1 a8
 refine Jr fun n=>(JLh (BL (decide ((a:Int) < (l.length:Int)))) (Hr G G G) G (G5 (n (Js fun o=>Gg G (fun hb=>?_) (fun hb=>?_)))))
 ·
  have g:=Je hb
  obtain⟨c,b0,p,s,h⟩:=Hh e g
  replace h:=Rx m h
  refine Gn (o ?_)
  obtain⟨t,j,h⟩:=gF h
  refine Zc (fun d:(List Int)=>t d=some r) (fun d=>[(1,.fn wanted_f wanted_c),(5,OW 1164 1 I64 d),(8,E5 l),(9,Ej l.length),(10,Ej a)]) (fun d=>[(1164,.spare 3 1 d.length d.length)]) (fun Kj24 ej24=>?_) ?_
  ·
   refine Gf (Jr fun v=>(JLm (Ej a) G (JLh (.dptr [I64 c.Bay,E2 c.Rows]) (Gr (f:=H3.av) (xs:=l) (y:=c) G G G J1 p G) G (JLh (.agg [I64 c.Bay,E2 c.Rows]) (Gj Zd G G G) G (JLh (.ptr 1165 0) (Jp 1165 2 fF G G) G (JLm (Ej a) G (J7 (u:=.junk) (Hv (u:=.agg [I64 c.Bay,E2 c.Rows]) (ds:=[I64 c.Bay,E2 c.Rows]) jL G G G G G G G G) (G5 (v ?_)))))))))
   refine Gw [(1,.fn wanted_f wanted_c),(5,OW 1164 1 I64 b),(6,Ej a),(7,.dptr [I64 c.Bay,E2 c.Rows]),(8,E5 l),(9,Ej l.length),(10,Ej a)] [(1164,.spare 3 1 b.length b.length)] 1165 rfl rfl rfl ⟨⟨_,rfl,.same⟩,U⟩ rfl (by exact⟨.conv (.same (Qw _ _ wanted_d)),.conv (.same rfl),.conv (.same rfl),.ptr,.conv (.same rfl),.conv (.same rfl),.conv (.same rfl),U⟩) (Jr fun w=>(JLm (.fn wanted_f wanted_c) G (JLh (.agg [I64 c.Bay,E2 c.Rows]) (Gj Zd G G G) G ?_)))
   obtain⟨a9,x,h⟩:=Gd h
   refine JLh (BL a9) (fR (args:=[.agg [I64 c.Bay,E2 c.Rows]]) (caps:=wanted_c) G G (wanted_w c _ x) wanted_B ⟨G,G,U⟩ wanted_d) G (G5 (w (JCc G h (fun h hb=>?_) (fun h hb=>?_))))
   ·
    refine G1 (JLm (OW 1164 1 I64 b) G (JLm (Ej a) G (JLh (E2 [(a:Int)]) (Hf (xs:=[Ej a]) G ⟨G,G,U⟩ Gz Zq G G G G) G ?_)))
    obtain⟨z,h⟩:=J5 h
    refine JLh (OW 1164 1 I64 (b++[(a:Int)])) (R8 (f:=I64) (xs:=b) (ys:=[(a:Int)]) G G G G Gz fY z (fun _=>G) (.inl G) G) G (JLm (OW 1164 1 I64 (b++[(a:Int)])) G (G5 (ej24 _ _ (b++[(a:Int)]) h ⟨⟨.same (Qw _ _ wanted_d),.same G,.same G,.same G,.same G,U⟩,⟨⟨_,G,.same⟩,U⟩,G⟩)))
   ·
    refine Gn (ej24 _ _ b h ⟨⟨.same (Qw _ _ wanted_d),.same G,.same G,.same G,.same G,U⟩,⟨⟨_,G,.same⟩,U⟩,G⟩)
  .intro d h
   replace h:=app1 j h
   refine G1 (JLh (I64 ((a+1:Nat):Int)) (Hs (Hb g a6) G G G) G (JLm (I64 ((a+1:Nat):Int)) G (G5 (a8 _ _ (a+1) d (app1 s h) (by omega) ⟨⟨.same (Qw _ _ wanted_d),.same rfl,.same rfl,.same rfl,.same rfl,U⟩,⟨⟨_,rfl,.same⟩,U⟩,rfl⟩))))
 ·
  have h:=app1 i (Hi e (H6 hb))
  refine H9 (a4 (Jr fun a1=>(JLm (OW 1164 1 I64 b) G (JLm (OW 1164 1 I64 b) G (G5 (a1 (Gs (fin1l (fun r:(List Int)=>(E2 r:AV)) h))))))))

def dM (s:Gq) (column:Int):Option Int:=
 bif ((decide (column < 0))||(decide ((s.Columns.length:Int)≤column))) then
 (some (-1))
 else
 (bnd (aW s.Covers (fun z0=>dF z0 s column)) fun a=>
  bif decide ((a.length:Int)=0) then
  (some (-1))
  else
  (Jo a 0 fun b=>
   some b))
theorem tE (s:Gq) (column:Int) (r:Int) (h:dM s column=some r):Pure Ek 120 [.agg (Gq.cs s),I64 column] (·=I64 r):=by
 unfold dM at h
 refine Gy [.tmp 4] Tryz.func120 G G (Jr fun g=>(JLh (.ptr 1136 0) (Jy (cs:=(Gq.cs s)) 1136 G G G G G) G (JLh (.ptr 1137 0) (Jy (cs:=[I64 column]) 1137 G G G G G) G (JLm (I64 0) G (G5 (g (Gw [(2,Ed s),(3,.ptr 1137 0)] [(1137,.box 3 [I64 column])] 1136 rfl rfl rfl ⟨⟨_,rfl,.boxEq rfl rfl⟩,U⟩ rfl (by exact⟨.ptr,.conv (.same rfl),U⟩) (Gw [(2,Ed s),(3,.dptr [I64 column])] [] 1137 rfl rfl rfl U rfl (by exact⟨.conv (.same rfl),.ptr,U⟩) (Js fun i=>?_)))))))))
 refine Jr fun j=>(JLh (I64 column) (Ge Gb G G G) G (JLh (BL (decide (column < 0))) (Hr G G G) G (JLm (BL (decide (column < 0))) G (JLo (I64 column) [] G .scf U (fun hc=>Ge Gb G G G) G (JLo (Ed s) [] G .scf U (fun hc=>Ga Hu G G G) G (JLo (E4 s.Columns) [10] G .scf ⟨Ua,U⟩ (fun hc=>Ge J2 G G G) G (JLo (Ej s.Columns.length) [11] G .scf ⟨Ua,U⟩ (fun hc=>Q8 (f:=G6.av) (xs:=s.Columns) Hd G G) G (JLo (BL (decide ((s.Columns.length:Int)≤column))) [9,12] G .scf ⟨Ua,Ua,U⟩ (fun hc=>cH G G G) G (JLh (BL ((decide (column < 0))||(decide ((s.Columns.length:Int)≤column)))) (Rm G G G G) G (G5 (j (JCc G h (fun h hb=>?_) (fun h hb=>?_)))))))))))))
 ·
  refine Jr fun k=>(JLm (I64 (-1)) G (G5 (k (Gs (fin1 I64 h)))))
 ·
  refine Gn (i (Jr fun l=>(JLh (.dptr ((Gq.cs s).drop 1)) (Ga Qh G G G) G (JLh (E5 s.Covers) (Ge R4 G G G) G (JLh (.fn 197 [.dptr (Gq.cs s),.dptr [I64 column]]) (eS (cs:=[.dptr (Gq.cs s),.dptr [I64 column]]) G G) G ?_)))))
  obtain⟨a,m,h⟩:=Gd h
  refine JLh (E2 a) (Gi G (sG s.Covers (fun z0=>dF z0 s column) 197 [.dptr (Gq.cs s),.dptr [I64 column]] Gde G (fun z0 q hq=>zP z0 s column q hq) a m) Gdf ⟨G,G,G,G,U⟩) G (JLm (E2 a) G (G5 (l (Js fun n=>Jr fun o=>(JLm (E2 a) G (JLl Gz G G G fun t=>(JLh (BL (decide ((a.length:Int)=0))) (Qc G G G) G (G5 (o (JCc G h (fun h hb=>?_) (fun h hb=>?_)))))))))))
  ·
   refine Jr fun p=>(JLm (I64 (-1)) G (G5 (p (Gs (fin1 I64 h)))))
  ·
   refine Gn (n (Jr fun c=>(JLm (E2 a) G ?_)))
   obtain⟨u,b,d,e,h⟩:=R0 h
   refine JLh (.dptr [I64 b]) (Gr (f:=I64) (xs:=a) (y:=b) G G G Gz e d) G (JLh (I64 b) (Ge Gb G G G) G (JLm (I64 b) G (G5 (c (Gs (fin1 I64 h))))))

def mL (a:Slot) (b:Slot):Option Bool:=
 bnd (bif ((decide (a.G6=b.G6))&&(decide (b.Tier < a.Tier))) then gE a.Half b.Half else some default) fun c=>
 some (((decide (a.G6=b.G6))&&(decide (b.Tier < a.Tier)))&&c)
abbrev Mn (a:Slot) (b:Slot):Bool:=((decide (a.G6=b.G6))&&(decide (b.Tier < a.Tier)))
abbrev Mo (b:Slot):List AV:=[I64 b.G6,I64 b.Tier,U8 b.Half]
theorem G61 (a:Slot) (b:Slot) (r:Bool) (h:mL a b=some r):Pure Ek 121 [.agg [I64 a.G6,I64 a.Tier,U8 a.Half],.agg [I64 b.G6,I64 b.Tier,U8 b.Half]] (·=BL r):=by
 unfold mL at h
 refine Gy [.tmp 4] Tryz.func121 G G (Jr fun d=>(JLh (.ptr 1138 0) (Jy (cs:=(Mo a)) 1138 G G G G G) G (JLh (.ptr 1139 0) (Jy (cs:=(Mo b)) 1139 G G G G G) G (JLm (BL false) G (G5 (d (Gw [(2,.dptr (Mo a)),(3,.ptr 1139 0)] [(1139,.box 81 (Mo b))] 1138 rfl rfl rfl ⟨⟨_,rfl,.boxEq rfl rfl⟩,U⟩ rfl (by exact⟨.ptr,.conv (.same rfl),U⟩) (Gw [(2,.dptr (Mo a)),(3,.dptr (Mo b))] [] 1139 rfl rfl rfl U rfl (by exact⟨.conv (.same rfl),.ptr,U⟩) ?_))))))))
 refine Jr fun e=>(JLh (.dptr (Mo a)) (Ga Jk G G G) G (JLh (I64 a.G6) (Ge Gb G G G) G (JLh (.dptr (Mo b)) (Ga Jk G G G) G (JLh (I64 b.G6) (Ge Gb G G G) G (JLh (BL (decide (a.G6=b.G6))) (Qc G G G) G (JLm (BL (decide (a.G6=b.G6))) G (JLo (.dptr [I64 a.Tier,U8 a.Half]) [] G .sct U (fun hc=>Ga Qz G G G) G (JLo (I64 a.Tier) [11] G .sct ⟨Ua,U⟩ (fun hc=>Ge Gb G G G) G (JLo (.dptr [I64 b.Tier,U8 b.Half]) [] G .sct U (fun hc=>Ga Qz G G G) G (JLo (I64 b.Tier) [13] G .sct ⟨Ua,U⟩ (fun hc=>Ge Gb G G G) G (JLo (BL (decide (b.Tier < a.Tier))) [12,14] G .sct ⟨Ua,Ua,U⟩ (fun hc=>dE G G G) G (JLh (BL (Mn a b)) (J9 G G G G) G (JLm (BL (Mn a b)) G ?_)))))))))))))
 refine JLo (.dptr [U8 a.Half]) [] G .sct U (fun hc=>Ga Q4 G G G) G (JLo (U8 a.Half) [18] G .sct ⟨Ua,U⟩ (fun hc=>Ge Jw G G G) G (JLo (.dptr [U8 b.Half]) [] G .sct U (fun hc=>Ga Q4 G G G) G (JLo (U8 b.Half) [20] G .sct ⟨Ua,U⟩ (fun hc=>Ge Jw G G G) G ?_)))
 obtain⟨c,f,h⟩:=Gd h
 refine JLo (BL c) [19,21] G .sct ⟨Ua,Ua,U⟩ (fun hc=>Gi (args:=[U8 a.Half,U8 b.Half]) G (vC a.Half b.Half c (Gv hc f)) QN ⟨G,G,G,G,U⟩) G (JLh (BL ((Mn a b)&&c)) (J9 G G G G) G (JLm (BL ((Mn a b)&&c)) G (G5 (e (Gs (fin1 BL h))))))

def dN (m:J8 Int Unit) (k:Int):Option (Bool×(J8 Int Unit)):=
 bif (J8.has m k) then
 (some (false,m))
 else
 (some (true,(J8.put m k ())))
theorem mO (m:J8 Int Unit) (k:Int) (r:Bool×(J8 Int Unit)) (h:dN m k=some r):Rb Ek 119 [.mp 1085,I64 k] [(1085,MP 202 Nx (fun _:Unit=>.agg []) m)] (fun av L'=>av=BL r.1/\L'=[(1085,MP 202 Nx (fun _:Unit=>.agg []) r.2)]):=by
 unfold dN at h
 refine fL [1085] [.tmp 4] Tryz.func119 G G (G88 G) (Jr fun b=>(JLm (BL false) G (G5 (b (Js fun c=>Jr fun d=>(JLm (.mp 1085) G (JLm (I64 k) G (JLh (.tup [.agg [],BL (J8.has m k)]) (Ha9 (av:=(fun _:Unit=>.agg [])) (m:=m) (a:=k) () (.agg #[]) G G G G tk_3 ZC Hd9 G) G (JLm (.tup [.agg [],BL (J8.has m k)]) G (JLh (.agg []) (Hx G G G) G (JLh (BL (J8.has m k)) (Hx G G G) G (JLh (.ptr 1135 0) (Jp 1135 0 G96 G G) G (J7 (u:=.junk) (J55 (u:=.agg []) Gce G G G G G G) (JLm (BL (J8.has m k)) G (G5 (d ?_))))))))))))))))
 refine Gw [(0,.mp 1085),(1,I64 k),(6,BL (J8.has m k))] [(1085,MP 202 Nx (fun _:Unit=>.agg []) m)] 1135 rfl rfl rfl ⟨fmQ G,U⟩ rfl (by exact⟨.conv (.same rfl),.conv (.same rfl),.conv (.same rfl),U⟩) (Jr fun e=>(JLm (BL (J8.has m k)) G (G5 (e (JCc G h (fun h hb=>?_) (fun h hb=>?_))))))
 ·
  refine Jr fun f=>(JLm (BL false) G (G5 (f (Gs ?_))))
  obtain rfl:=Pc h
  exact⟨[BL false],[(1085,MP 202 Nx (fun _:Unit=>.agg []) m)],⟨⟨_,G,.map⟩,U⟩,G,⟨⟨_,G,.conv (.same G)⟩,U⟩,G,G⟩
 ·
  refine Gn (c (Jr fun g=>(JLm (.mp 1085) G (JLm (I64 k) G (JLh (.agg []) (Jq (cs:=[]) [] [] [] G52 Gc8 U G G) G (J7 (u:=.junk) (Gc4 (m:=m) (a:=k) (v:=()) G G G G G G tk_3 ZC) (G5 (g (Jr fun i=>(JLm (BL true) G (G5 (i (Gs ?_)))))))))))))
  obtain rfl:=Pc h
  exact⟨[BL true],[(1085,MP 202 Nx (fun _:Unit=>.agg []) (J8.put m k ()))],⟨⟨_,G,.map⟩,U⟩,G,⟨⟨_,G,.conv (.same G)⟩,U⟩,G,G⟩

def fQ (self_:Int→(J8 Int Unit)→(List Int)→(List (List G2))→Gq→Option ((J8 Int Unit)×(List Int))) (F:Nat) (id_:Int) (p1:J8 Int Unit) (p:List Int) (q:List (List G2)) (i:Gq):Option ((J8 Int Unit)×(List Int)):=
 bnd (dN p1 id_) fun w=>
 bif (!w.1) then
 (some (w.2,p))
 else
 (need (decide ((p.length+[id_].length)*8≤140737488355328/\p.length+[id_].length≤maxLen)) <|
  each (fun y7 i7 (d:(J8 Int Unit)×(List Int)) a1=>
   jp (fun j=>
    bnd (eF y7 id_) fun f=>
    bif (!f.2) then
    (j (d.1,d.2))
    else
    (jp (fun k=>
      Jo i.Columns f.1.G6 fun a2=>
      bif (!a2.Deck) then
      (bnd (dM i f.1.G6) fun a3=>
       k a3)
      else
      (k (-1))) fun(g:Int)=>
     each (fun s a8 (b:(J8 Int Unit)×(List Int)) x=>
      jp (fun l=>
       bnd (mL s.Slot f.1) fun a4=>
       bif a4 then
       (bnd (self_ s.Box b.1 b.2 q i) fun t=>
        l (t.1,t.2))
       else
       (l (b.1,b.2))) fun(u:(J8 Int Unit)×(List Int))=>
      x (u.1,u.2))
     (fun(b:(J8 Int Unit)×(List Int))=>
      each (fun a5 a9 (c:(J8 Int Unit)×(List Int)) y=>
       each (fun e a7 (a:(J8 Int Unit)×(List Int)) r=>
        jp (fun h=>
         bnd (bif decide (0≤g) then Jo i.Columns e.Slot.G6 some else some default) fun m=>
         bnd (bif ((decide (0≤g))&&m.Deck) then dM i e.Slot.G6 else some default) fun z=>
         bif (((decide (0≤g))&&m.Deck)&&(decide (z=g))) then
         (bnd (self_ e.Box a.1 a.2 q i) fun n=>
          h (n.1,n.2))
         else
         (h (a.1,a.2))) fun(o:(J8 Int Unit)×(List Int))=>
        r (o.1,o.2))
       (fun(a:(J8 Int Unit)×(List Int))=>
        y (a.1,a.2)) a5 0 (c.1,c.2))
      (fun(c:(J8 Int Unit)×(List Int))=>
       j (c.1,c.2)) q 0 (b.1,b.2)) y7 0 (d.1,d.2))) fun(v:(J8 Int Unit)×(List Int))=>
   a1 (v.1,v.2))
  (fun(d:(J8 Int Unit)×(List Int))=>
   some (d.1,d.2)) q 0 (w.2,(p++[id_])))
def cL:Nat→Int→(J8 Int Unit)→(List Int)→(List (List G2))→Gq→Option ((J8 Int Unit)×(List Int))
 | 0,_,_,_,_,_=>none
 | F+1,id_,a,b,c,d=>fQ (cL F) F id_ a b c d
abbrev Mp (a:List (List G2)) (b:Gq):Nat×Jn:=(1081,.box 203 [.fn 118 [.ptr 1079 0,.ptr 1080 0,.dptr [LS 1 (E1) a],Ed b,.ptr 1081 0]])
abbrev Mq:Nat×Jn:=(1079,.box 202 [.mp 1085])
abbrev Mr (a:List (List G2)) (b:Gq):List AV:=[.ptr 1079 0,.ptr 1080 0,.dptr [LS 1 (E1) a],Ed b,.ptr 1081 0]
abbrev Ms (a:(J8 Int Unit)×(List Int)):Nat×Jn:=(1080,.box 51 [.vec 1086 a.2.length 1 a.2.length])
abbrev Mt (a:(J8 Int Unit)×(List Int)):Nat×Jn:=(1086,.vec 3 1 a.2.length (a.2.map I64))
abbrev Mu (id_:Int) (a:List (List G2)) (b:Gq) (c:Nat):Fr:=[(0,I64 id_),(3,.dptr [LS 1 (E1) a]),(4,Ed b),(5,.ptr 1081 0),(26,LS 1 (E1) a),(27,Ej a.length),(28,Ej c)]
theorem HH (self_:Int→(J8 Int Unit)→(List Int)→(List (List G2))→Gq→Option ((J8 Int Unit)×(List Int))) (self_w:∀ (id_:Int) (p1:J8 Int Unit) (l:List Int) (a:List (List G2)) (c:Gq) (r:(J8 Int Unit)×(List Int)),self_ id_ p1 l a c=some r→Rb Ek 118 [I64 id_,.ptr 1079 0,.ptr 1080 0,.dptr [LS 1 (E1) a],Ed c,.ptr 1081 0] [(1079,.box 202 [.mp 1085]),(1085,MP 202 Nx (fun _:Unit=>.agg []) p1),(1080,.box 51 [.vec 1086 l.length 1 l.length]),(1086,.vec 3 1 l.length (l.map I64)),(1081,.box 203 [.fn 118 [.ptr 1079 0,.ptr 1080 0,.dptr [LS 1 (E1) a],Ed c,.ptr 1081 0]])] (fun av L'=>av=.tup []/\L'=[(1079,.box 202 [.mp 1085]),(1085,MP 202 Nx (fun _:Unit=>.agg []) r.1),(1080,.box 51 [.vec 1086 r.2.length 1 r.2.length]),(1086,.vec 3 1 r.2.length (r.2.map I64)),(1081,.box 203 [.fn 118 [.ptr 1079 0,.ptr 1080 0,.dptr [LS 1 (E1) a],Ed c,.ptr 1081 0]])])) (F:Nat) (id_:Int) (p1:J8 Int Unit) (l:List Int) (a:List (List G2)) (c:Gq) (r:(J8 Int Unit)×(List Int)) (h:fQ self_ F id_ p1 l a c=some r):Rb Ek 118 [I64 id_,.ptr 1079 0,.ptr 1080 0,.dptr [LS 1 (E1) a],Ed c,.ptr 1081 0] [(1079,.box 202 [.mp 1085]),(1085,MP 202 Nx (fun _:Unit=>.agg []) p1),(1080,.box 51 [.vec 1086 l.length 1 l.length]),(1086,.vec 3 1 l.length (l.map I64)),(1081,.box 203 [.fn 118 [.ptr 1079 0,.ptr 1080 0,.dptr [LS 1 (E1) a],Ed c,.ptr 1081 0]])] (fun av L'=>av=.tup []/\L'=[(1079,.box 202 [.mp 1085]),(1085,MP 202 Nx (fun _:Unit=>.agg []) r.1),(1080,.box 51 [.vec 1086 r.2.length 1 r.2.length]),(1086,.vec 3 1 r.2.length (r.2.map I64)),(1081,.box 203 [.fn 118 [.ptr 1079 0,.ptr 1080 0,.dptr [LS 1 (E1) a],Ed c,.ptr 1081 0]])]):=by
 unfold fQ at h
 refine fL [1079,1085,1080,1086,1081] [] Tryz.func118 G G (G88 G) (Js fun i0=>Jr fun i1=>(JLh (.mp 1085) (Zp G4c G G G G) G (JLm (I64 id_) G ?_)))
 obtain⟨r3,i2,h⟩:=Gd h
 refine JLh (BL r3.1) (YX (args:=[.mp 1085,I64 id_]) (L0:=[(1085,MP 202 Nx (fun _:Unit=>.agg []) p1)]) (Lr:=[(1085,MP 202 Nx (fun _:Unit=>.agg []) r3.2)]) G (mO p1 id_ r3 i2) Gf5 ⟨.inl G,G,.inl G,G,U⟩ ⟨G,U⟩ G G G) G (JLh (BL (!r3.1)) (Qj (b:=r3.1) G G) G (G5 (i1 (JCc G h (fun h hb=>?_) (fun h hb=>?_)))))
 ·
  refine Gs ?_
  obtain rfl:=Pc h
  exact⟨[],[Mq,(1085,MP 202 Nx (fun _:Unit=>.agg []) r3.2),(1080,.box 51 [.vec 1086 l.length 1 l.length]),(1086,.vec 3 1 l.length (l.map I64)),(Mp a c)],⟨⟨_,G,.boxL G ⟨.same G,U⟩⟩,⟨_,G,.map⟩,⟨_,G,.boxL G ⟨.same G,U⟩⟩,⟨_,G,.vec⟩,⟨_,G,.boxL G ⟨.same G,U⟩⟩,U⟩,G,U,G,G⟩
 ·
  refine Gn (i0 (Jr fun i3=>(JLh (.vec 1086 l.length 1 l.length) (Zp He G G G G) G (JLm (I64 id_) G (JLh (E2 [id_]) (Hf (xs:=[I64 id_]) G ⟨G,G,U⟩ Gz Zq G G G G) G ?_)))))
  obtain⟨i4,h⟩:=J5 h
  refine JLh (.vec 1086 ((l++[id_]).length) 1 ((l++[id_]).length)) (G3d (f:=I64) (xs:=l) (ys:=[id_]) (ver:=l.length) (ver1:=(l++[id_]).length) rfl rfl rfl rfl Gz fY i4 (fun _=>rfl) (.inl rfl) (by simp)) G (J7 (u:=.junk) (Hv (u:=.vec 1086 ((l++[id_]).length) 1 ((l++[id_]).length)) (ds:=[.vec 1086 ((l++[id_]).length) 1 ((l++[id_]).length)]) tT G G G G G G G G) (G5 (i3 (Jr fun i5=>(JLh (LS 1 (E1) a) (Ge Qe G G G) G (JLl Hn G G G fun d7=>(JLm (I64 0) G (G5 (i5 (Gf ?_))))))))))
  obtain⟨b7,i6,i8,d8,h⟩:=Hy h
  refine H8 (fun p (s:(J8 Int Unit)×(List Int))=>each b7 i6 (List.drop p a) p s=some r) (fun p s=>(Mu id_ a c p)) (fun p s=>[(1085,MP 202 Nx (fun _:Unit=>.agg []) s.1),(Mt s),Mq,(Ms s),(Mp a c)]) (fun p=>a.length - p) 0 (r3.2,(l++[id_])) h ⟨(.sm G G),⟨fmQ G,⟨_,rfl,.vec⟩,fbQ G ⟨.same rfl,U⟩,fbQ G ⟨.same rfl,U⟩,fbQ G ⟨.same rfl,U⟩,U⟩,rfl⟩ ?_
  clear h
  intro p s d4 K7 e7
  refine Jr fun i9=>(JLh (BL (decide ((p:Int) < (a.length:Int)))) (Hr G G G) G (G5 (i9 (Js fun j0=>Gg G (fun hb=>?_) (fun hb=>?_)))))
  ·
   have d5:=Je hb
   obtain⟨t,k3,j1,j2,h⟩:=Hh d4 d5
   replace h:=Rx i8 h
   refine Gn (j0 ?_)
   obtain⟨d9,b6,h⟩:=gF h
   refine Zc (fun a0:(J8 Int Unit)×(List Int)=>d9 a0=some r) (fun a0=>(Mu id_ a c p)) (fun a0=>[(1085,MP 202 Nx (fun _:Unit=>.agg []) a0.1),(Mt a0),Mq,(Ms a0),(Mp a c)]) (fun Kj10 ej10=>?_) ?_
   ·
    refine Gf (Jr fun e0=>(JLh (.dptr [E1 t]) (Gr (f:=(E1)) (xs:=a) (y:=t) G G G Hn j1 G) G (JLh (E1 t) (Ge Q6 G G G) G (JLm (E1 t) G (G5 (e0 (Jr fun e1=>(JLm (E1 t) G (JLm (I64 id_) G ?_)))))))))
    obtain⟨e,e2,h⟩:=Gd h
    refine JLh (.tup [.agg (Slot.cs e.1),BL e.2]) (Gi G (eR t id_ e e2) jN ⟨G,G,G,G,U⟩) G (JLm (.tup [.agg (Slot.cs e.1),BL e.2]) G (JLh (.agg (Slot.cs e.1)) (Hx G G G) G (JLh (BL e.2) (Hx G G G) G (JLh (.ptr 1132 0) (Jp 1132 3 cY G G) G (J7 (u:=.junk) (Hv (u:=.agg (Slot.cs e.1)) (ds:=[I64 e.1.G6,I64 e.1.Tier,U8 e.1.Half]) dG G G G G G G G G) (JLm (BL e.2) G (G5 (e1 ?_))))))))
    refine fzQ [(0,I64 id_),(3,.dptr [LS 1 (E1) a]),(4,Ed c),(5,.ptr 1081 0),(8,E1 t),(9,Eh e.1),(10,BL e.2),(26,LS 1 (E1) a),(27,Ej a.length),(28,Ej p)] [(1085,MP 202 Nx (fun _:Unit=>.agg []) s.1),(Mt s),Mq,(Ms s),(Mp a c)] 1132 rfl rfl rfl ⟨fmQ G,⟨_,rfl,.vec⟩,⟨_,rfl,.boxEq rfl rfl⟩,⟨_,rfl,.boxEq rfl rfl⟩,⟨_,rfl,.boxEq rfl rfl⟩,U⟩ rfl (Js fun e3=>?_)
    refine Jr fun e4=>(JLm (BL e.2) G (JLh (BL (!e.2)) (Qj (b:=e.2) G G) G (G5 (e4 (JCc G h (fun h hb=>?_) (fun h hb=>?_))))))
    ·
     refine H9 (ej10 _ _ (s.1,s.2) h ⟨(.sm G G),⟨fmQ G,⟨_,rfl,.vec⟩,fbQ G ⟨.same rfl,U⟩,fbQ G ⟨.same rfl,U⟩,fbQ G ⟨.same rfl,U⟩,U⟩,rfl⟩)
    ·
     refine Gn (e3 (Jr fun e5=>(JLm (I64 (-1)) G (G5 (e5 ?_)))))
     obtain⟨e6,b8,h⟩:=gF h
     refine Zc (fun i:Int=>e6 i=some r) (fun i=>[(0,I64 id_),(3,.dptr [LS 1 (E1) a]),(4,Ed c),(5,.ptr 1081 0),(8,E1 t),(9,Eh e.1),(11,I64 i),(26,LS 1 (E1) a),(27,Ej a.length),(28,Ej p)]) (fun i=>[(1085,MP 202 Nx (fun _:Unit=>.agg []) s.1),(Mt s),Mq,(Ms s),(Mp a c)]) (fun Kj17 ej17=>?_) ?_
     ·
      refine Jr fun e8=>(JLh (Ed c) (Ga Hu G G G) G (JLh (E4 c.Columns) (Ge J2 G G G) G (JLh (Eh e.1) (Ga Jk G G G) G (JLh (I64 e.1.G6) (Ge Gb G G G) G ?_))))
      obtain⟨k4,a3,e9,f0,h⟩:=R0 h
      refine JLh (Ef a3) (Gr (f:=G6.av) (xs:=c.Columns) (y:=a3) G G G Hd f0 e9) G (JLh (.dptr ((G6.cs a3).drop 2)) (Ga bS G G G) G (JLh (BL a3.Deck) (Ge Ye G G G) G (JLh (BL (!a3.Deck)) (Qj (b:=a3.Deck) G G) G (G5 (e8 (JCc G h (fun h hb=>?_) (fun h hb=>?_)))))))
      ·
       refine G1 (JLh (.agg (Gq.cs c)) (Gj J4 G G G) G (JLh (Eh e.1) (Ga Jk G G G) G (JLh (I64 e.1.G6) (Ge Gb G G G) G ?_)))
       obtain⟨a7,f1,h⟩:=Gd h
       refine JLh (I64 a7) (Gi G (tE c e.1.G6 a7 f1) QT ⟨G,G,G,G,U⟩) G (JLm (I64 a7) G (G5 (ej17 _ _ a7 h ⟨(.sm G G),⟨fmQ G,⟨_,rfl,.vec⟩,fbQ G ⟨.same rfl,U⟩,fbQ G ⟨.same rfl,U⟩,fbQ G ⟨.same rfl,U⟩,U⟩,rfl⟩)))
      ·
       refine Gn (ej17 _ _ (-1) h ⟨(.sm G G),⟨fmQ G,⟨_,rfl,.vec⟩,fbQ G ⟨.same rfl,U⟩,fbQ G ⟨.same rfl,U⟩,fbQ G ⟨.same rfl,U⟩,U⟩,rfl⟩)
     .intro i h
      replace h:=app1 b8 h
      refine Js fun f2=>Jr fun f3=>(JLm (E1 t) G (JLl H5 G G G fun f4=>(JLm (I64 0) G (G5 (f3 (Gf ?_))))))
      obtain⟨j3,f5,f6,b9,h⟩:=Hy h
      refine H8 (fun q (j:(J8 Int Unit)×(List Int))=>each j3 f5 (List.drop q t) q j=some r) (fun q j=>[(0,I64 id_),(3,.dptr [LS 1 (E1) a]),(4,Ed c),(5,.ptr 1081 0),(9,Eh e.1),(11,I64 i),(26,LS 1 (E1) a),(27,Ej a.length),(28,Ej p),(52,E1 t),(53,Ej t.length),(54,Ej q)]) (fun q j=>[(1085,MP 202 Nx (fun _:Unit=>.agg []) j.1),(Mt j),Mq,(Ms j),(Mp a c)]) (fun q=>t.length - q) 0 (s.1,s.2) h ⟨(.sm G G),⟨fmQ G,⟨_,rfl,.vec⟩,fbQ G ⟨.same rfl,U⟩,fbQ G ⟨.same rfl,U⟩,fbQ G ⟨.same rfl,U⟩,U⟩,rfl⟩ ?_
      clear h
      intro q j b0 k5 j4
      refine Jr fun f7=>(JLh (BL (decide ((q:Int) < (t.length:Int)))) (Hr G G G) G (G5 (f7 (Js fun f8=>Gg G (fun hb=>?_) (fun hb=>?_)))))
      ·
       have b1:=Je hb
       obtain⟨m,k0,f9,g0,h⟩:=Hh b0 b1
       replace h:=Rx f6 h
       refine Gn (f8 ?_)
       obtain⟨g1,c0,h⟩:=gF h
       refine Zc (fun a1:(J8 Int Unit)×(List Int)=>g1 a1=some r) (fun a1=>[(0,I64 id_),(3,.dptr [LS 1 (E1) a]),(4,Ed c),(5,.ptr 1081 0),(9,Eh e.1),(11,I64 i),(26,LS 1 (E1) a),(27,Ej a.length),(28,Ej p),(52,E1 t),(53,Ej t.length),(54,Ej q)]) (fun a1=>[(1085,MP 202 Nx (fun _:Unit=>.agg []) a1.1),(Mt a1),Mq,(Ms a1),(Mp a c)]) (fun Kj59 ej59=>?_) ?_
       ·
        refine Gf (Jr fun g2=>(JLh (Ee m) (Gr (f:=G2.av) (xs:=t) (y:=m) G G G H5 f9 G) G (JLh (.agg (G2.cs m)) (Gj Zt G G G) G (JLh (.ptr 1133 0) (Jp 1133 4 Yd G G) G (J7 (u:=.junk) (Hv (u:=.agg (G2.cs m)) (ds:=[I64 m.Box,I64 m.Slot.G6,I64 m.Slot.Tier,U8 m.Slot.Half]) eH G G G G G G G G) (G5 (g2 ?_)))))))
        refine fzQ [(0,I64 id_),(3,.dptr [LS 1 (E1) a]),(4,Ed c),(5,.ptr 1081 0),(9,Eh e.1),(11,I64 i),(13,Ee m),(26,LS 1 (E1) a),(27,Ej a.length),(28,Ej p),(52,E1 t),(53,Ej t.length),(54,Ej q)] [(1085,MP 202 Nx (fun _:Unit=>.agg []) j.1),(Mt j),Mq,(Ms j),(Mp a c)] 1133 rfl rfl rfl ⟨fmQ G,⟨_,rfl,.vec⟩,⟨_,rfl,.boxEq rfl rfl⟩,⟨_,rfl,.boxEq rfl rfl⟩,⟨_,rfl,.boxEq rfl rfl⟩,U⟩ rfl ?_
        refine Jr fun g3=>(JLh (.dptr ((G2.cs m).drop 1)) (Ga Jj G G G) G (JLh (.agg ((G2.cs m).drop 1)) (Gj Q9 G G G) G (JLh (.agg (Slot.cs e.1)) (Gj Q9 G G G) G ?_)))
        obtain⟨d6,g4,h⟩:=Gd h
        refine JLh (BL d6) (Gi G (G61 m.Slot e.1 d6 g4) Gf4 ⟨G,G,G,G,U⟩) G (G5 (g3 (JCc G h (fun h hb=>?_) (fun h hb=>?_))))
        ·
         refine G1 (JLh (.fn 118 (Mr a c)) (Zp lT G G G G) G (JLh (Ee m) (Ga Qf G G G) G (JLh (I64 m.Box) (Ge Gb G G G) G ?_)))
         obtain⟨a2,g5,h⟩:=Gd h
         refine JLh (.tup []) (HJ (args:=[I64 m.Box]) (caps:=(Mr a c)) (L0:=[Mq,(1085,MP 202 Nx (fun _:Unit=>.agg []) j.1),(Ms j),(Mt j),(Mp a c)]) (Lr:=[Mq,(1085,MP 202 Nx (fun _:Unit=>.agg []) a2.1),(1080,.box 51 [.vec 1086 a2.2.length 1 a2.2.length]),(1086,.vec 3 1 a2.2.length (a2.2.map I64)),(Mp a c)]) G G (self_w m.Box j.1 j.2 a c a2 g5) qU ⟨.inl G,G,U⟩ G ⟨G,G,G,G,G,U⟩ G G G) G (G5 ?_)
         exact ej59 _ _ (a2.1,a2.2) h ⟨(.sm G G),⟨fmQ G,⟨_,rfl,.vec⟩,fbQ G ⟨.same rfl,U⟩,fbQ G ⟨.same rfl,U⟩,fbQ G ⟨.same rfl,U⟩,U⟩,rfl⟩
        ·
         refine Gn (ej59 _ _ (j.1,j.2) h ⟨(.sm G G),⟨fmQ G,⟨_,rfl,.vec⟩,fbQ G ⟨.same rfl,U⟩,fbQ G ⟨.same rfl,U⟩,fbQ G ⟨.same rfl,U⟩,U⟩,rfl⟩)
       .intro a1 h
        replace h:=app1 c0 h
        refine G1 (JLh (I64 ((q+1:Nat):Int)) (Hs (Hb b1 f4) G G G) G (JLm (I64 ((q+1:Nat):Int)) G (G5 (j4 _ _ (q+1) (a1.1,a1.2) (app1 g0 h) (by omega) ⟨(.sm G G),⟨fmQ G,⟨_,rfl,.vec⟩,fbQ G ⟨.same rfl,U⟩,fbQ G ⟨.same rfl,U⟩,fbQ G ⟨.same rfl,U⟩,U⟩,rfl⟩))))
      ·
       have h:=app1 b9 (Hi b0 (H6 hb))
       refine H9 (f2 (Jr fun g6=>(JLh (LS 1 (E1) a) (Ge Qe G G G) G (JLl Hn G G G fun g7=>(JLm (I64 0) G (G5 (g6 (Gf ?_))))))))
       obtain⟨j5,g8,g9,c1,h⟩:=Hy h
       refine H8 (fun n (w:(J8 Int Unit)×(List Int))=>each j5 g8 (List.drop n a) n w=some r) (fun n w=>[(0,I64 id_),(3,.dptr [LS 1 (E1) a]),(4,Ed c),(5,.ptr 1081 0),(11,I64 i),(26,LS 1 (E1) a),(27,Ej a.length),(28,Ej p),(67,LS 1 (E1) a),(68,Ej a.length),(69,Ej n)]) (fun n w=>[(1085,MP 202 Nx (fun _:Unit=>.agg []) w.1),(Mt w),Mq,(Ms w),(Mp a c)]) (fun n=>a.length - n) 0 (j.1,j.2) h ⟨(.sm G G),⟨fmQ G,⟨_,rfl,.vec⟩,fbQ G ⟨.same rfl,U⟩,fbQ G ⟨.same rfl,U⟩,fbQ G ⟨.same rfl,U⟩,U⟩,rfl⟩ ?_
       clear h
       intro n w b2 k6 j6
       refine Jr fun h0=>(JLh (BL (decide ((n:Int) < (a.length:Int)))) (Hr G G G) G (G5 (h0 (Js fun h1=>Gg G (fun hb=>?_) (fun hb=>?_)))))
       ·
        have b3:=Je hb
        obtain⟨o,k1,h2,h3,h⟩:=Hh b2 b3
        replace h:=Rx g9 h
        refine Gn (h1 (Js fun h4=>Gf (Jr fun h5=>(JLh (.dptr [E1 o]) (Gr (f:=(E1)) (xs:=a) (y:=o) G G G Hn h2 G) G (JLh (E1 o) (Ge Q6 G G G) G (JLm (E1 o) G (G5 (h5 (Jr fun h6=>(JLm (E1 o) G (JLl H5 G G G fun h7=>(JLm (I64 0) G (G5 (h6 (Gf ?_)))))))))))))))
        obtain⟨h8,c2,c3,b4,h⟩:=Hy h
        refine H8 (fun k (g:(J8 Int Unit)×(List Int))=>each h8 c2 (List.drop k o) k g=some r) (fun k g=>[(0,I64 id_),(3,.dptr [LS 1 (E1) a]),(4,Ed c),(5,.ptr 1081 0),(11,I64 i),(26,LS 1 (E1) a),(27,Ej a.length),(28,Ej p),(67,LS 1 (E1) a),(68,Ej a.length),(69,Ej n),(73,E1 o),(74,Ej o.length),(75,Ej k)]) (fun k g=>[(1085,MP 202 Nx (fun _:Unit=>.agg []) g.1),(Mt g),Mq,(Ms g),(Mp a c)]) (fun k=>o.length - k) 0 (w.1,w.2) h ⟨(.sm G G),⟨fmQ G,⟨_,rfl,.vec⟩,fbQ G ⟨.same rfl,U⟩,fbQ G ⟨.same rfl,U⟩,fbQ G ⟨.same rfl,U⟩,U⟩,rfl⟩ ?_
        clear h
        intro k g a8 k2 h9
        refine Jr fun c4=>(JLh (BL (decide ((k:Int) < (o.length:Int)))) (Hr G G G) G (G5 (c4 (Js fun c5=>Gg G (fun hb=>?_) (fun hb=>?_)))))
        ·
         have a9:=Je hb
         obtain⟨d,j7,c6,c7,h⟩:=Hh a8 a9
         replace h:=Rx c3 h
         refine Gn (c5 ?_)
         obtain⟨c8,b5,h⟩:=gF h
         refine Zc (fun v:(J8 Int Unit)×(List Int)=>c8 v=some r) (fun v=>[(0,I64 id_),(3,.dptr [LS 1 (E1) a]),(4,Ed c),(5,.ptr 1081 0),(11,I64 i),(26,LS 1 (E1) a),(27,Ej a.length),(28,Ej p),(67,LS 1 (E1) a),(68,Ej a.length),(69,Ej n),(73,E1 o),(74,Ej o.length),(75,Ej k)]) (fun v=>[(1085,MP 202 Nx (fun _:Unit=>.agg []) v.1),(Mt v),Mq,(Ms v),(Mp a c)]) (fun Kj110 ej110=>?_) ?_
         ·
          refine Gf (Jr fun c9=>(JLh (Ee d) (Gr (f:=G2.av) (xs:=o) (y:=d) G G G H5 c6 G) G (JLh (.agg (G2.cs d)) (Gj Zt G G G) G (JLh (.ptr 1134 0) (Jp 1134 4 Yd G G) G (J7 (u:=.junk) (Hv (u:=.agg (G2.cs d)) (ds:=[I64 d.Box,I64 d.Slot.G6,I64 d.Slot.Tier,U8 d.Slot.Half]) eH G G G G G G G G) (G5 (c9 ?_)))))))
          refine fzQ [(0,I64 id_),(3,.dptr [LS 1 (E1) a]),(4,Ed c),(5,.ptr 1081 0),(11,I64 i),(17,Ee d),(26,LS 1 (E1) a),(27,Ej a.length),(28,Ej p),(67,LS 1 (E1) a),(68,Ej a.length),(69,Ej n),(73,E1 o),(74,Ej o.length),(75,Ej k)] [(1085,MP 202 Nx (fun _:Unit=>.agg []) g.1),(Mt g),Mq,(Ms g),(Mp a c)] 1134 rfl rfl rfl ⟨fmQ G,⟨_,rfl,.vec⟩,⟨_,rfl,.boxEq rfl rfl⟩,⟨_,rfl,.boxEq rfl rfl⟩,⟨_,rfl,.boxEq rfl rfl⟩,U⟩ rfl ?_
          refine Jr fun d0=>(JLm (I64 i) G (JLh (BL (decide (0≤i))) (cH G G G) G (JLm (BL (decide (0≤i))) G (JLo (Ed c) [] G .sct U (fun hc=>Ga Hu G G G) G (JLo (E4 c.Columns) [82] G .sct ⟨Ua,U⟩ (fun hc=>Ge J2 G G G) G (JLo (.dptr ((G2.cs d).drop 1)) [] G .sct U (fun hc=>Ga Jj G G G) G (JLo (.dptr ((G2.cs d).drop 1)) [84] G .sct ⟨Ua,U⟩ (fun hc=>Ga Jk G G G) G (JLo (I64 d.Slot.G6) [85] G .sct ⟨Ua,U⟩ (fun hc=>Ge Gb G G G) G ?_))))))))
          obtain⟨z,d1,h⟩:=Gd h
          refine JLo (Ef z) [83,86] G .sct ⟨Ua,Ua,U⟩ (fun hc=>(match Jt (Gv hc d1) with | ⟨_,hm_,hy_⟩=>Gr (f:=G6.av) (xs:=c.Columns) (y:=z) G G G Hd hy_ hm_)) G (JLo (.dptr ((G6.cs z).drop 2)) [87] G .sct ⟨Ua,U⟩ (fun hc=>Ga bS G G G) G (JLo (BL z.Deck) [88] G .sct ⟨Ua,U⟩ (fun hc=>Ge Ye G G G) G (JLh (BL ((decide (0≤i))&&z.Deck)) (J9 G G G G) G (JLm (BL ((decide (0≤i))&&z.Deck)) G (JLo (.agg (Gq.cs c)) [] G .sct U (fun hc=>Gj J4 G G G) G (JLo (.dptr ((G2.cs d).drop 1)) [] G .sct U (fun hc=>Ga Jj G G G) G (JLo (.dptr ((G2.cs d).drop 1)) [93] G .sct ⟨Ua,U⟩ (fun hc=>Ga Jk G G G) G (JLo (I64 d.Slot.G6) [94] G .sct ⟨Ua,U⟩ (fun hc=>Ge Gb G G G) G ?_))))))))
          obtain⟨a4,d2,h⟩:=Gd h
          refine JLo (I64 a4) [92,95] G .sct ⟨Ua,Ua,U⟩ (fun hc=>Gi (args:=[.agg (Gq.cs c),I64 d.Slot.G6]) G (tE c d.Slot.G6 a4 (Gv hc d2)) QT ⟨G,G,G,G,U⟩) G (JLo (I64 i) [] G .sct U (fun hc=>G3 G G) G (JLo (BL (decide (a4=i))) [96,97] G .sct ⟨Ua,Ua,U⟩ (fun hc=>Qc G G G) G (JLh (BL (((decide (0≤i))&&z.Deck)&&(decide (a4=i)))) (J9 G G G G) G (G5 (d0 (JCc G h (fun h hb=>?_) (fun h hb=>?_)))))))
          ·
           refine G1 (JLh (.fn 118 (Mr a c)) (Zp lT G G G G) G (JLh (Ee d) (Ga Qf G G G) G (JLh (I64 d.Box) (Ge Gb G G G) G ?_)))
           obtain⟨x,d3,h⟩:=Gd h
           refine JLh (.tup []) (HJ (args:=[I64 d.Box]) (caps:=(Mr a c)) (L0:=[Mq,(1085,MP 202 Nx (fun _:Unit=>.agg []) g.1),(Ms g),(Mt g),(Mp a c)]) (Lr:=[Mq,(1085,MP 202 Nx (fun _:Unit=>.agg []) x.1),(1080,.box 51 [.vec 1086 x.2.length 1 x.2.length]),(1086,.vec 3 1 x.2.length (x.2.map I64)),(Mp a c)]) G G (self_w d.Box g.1 g.2 a c x d3) qU ⟨.inl G,G,U⟩ G ⟨G,G,G,G,G,U⟩ G G G) G (G5 ?_)
           exact ej110 _ _ (x.1,x.2) h ⟨(.sm G G),⟨fmQ G,⟨_,rfl,.vec⟩,fbQ G ⟨.same rfl,U⟩,fbQ G ⟨.same rfl,U⟩,fbQ G ⟨.same rfl,U⟩,U⟩,rfl⟩
          ·
           refine Gn (ej110 _ _ (g.1,g.2) h ⟨(.sm G G),⟨fmQ G,⟨_,rfl,.vec⟩,fbQ G ⟨.same rfl,U⟩,fbQ G ⟨.same rfl,U⟩,fbQ G ⟨.same rfl,U⟩,U⟩,rfl⟩)
         .intro v h
          replace h:=app1 b5 h
          refine G1 (JLh (I64 ((k+1:Nat):Int)) (Hs (Hb a9 h7) G G G) G (JLm (I64 ((k+1:Nat):Int)) G (G5 (h9 _ _ (k+1) (v.1,v.2) (app1 c7 h) (by omega) ⟨(.sm G G),⟨fmQ G,⟨_,rfl,.vec⟩,fbQ G ⟨.same rfl,U⟩,fbQ G ⟨.same rfl,U⟩,fbQ G ⟨.same rfl,U⟩,U⟩,rfl⟩))))
        ·
         have h:=app1 b4 (Hi a8 (H6 hb))
         refine H9 (h4 (G1 (JLh (I64 ((n+1:Nat):Int)) (Hs (Hb b3 g7) G G G) G (JLm (I64 ((n+1:Nat):Int)) G (G5 (j6 _ _ (n+1) (g.1,g.2) (app1 h3 h) (by omega) ⟨(.sm G G),⟨fmQ G,⟨_,rfl,.vec⟩,fbQ G ⟨.same rfl,U⟩,fbQ G ⟨.same rfl,U⟩,fbQ G ⟨.same rfl,U⟩,U⟩,rfl⟩))))))
       ·
        have h:=app1 c1 (Hi b2 (H6 hb))
        refine H9 (ej10 _ _ (w.1,w.2) h ⟨(.sm G G),⟨fmQ G,⟨_,rfl,.vec⟩,fbQ G ⟨.same rfl,U⟩,fbQ G ⟨.same rfl,U⟩,fbQ G ⟨.same rfl,U⟩,U⟩,rfl⟩)
   .intro a0 h
    replace h:=app1 b6 h
    refine G1 (JLh (I64 ((p+1:Nat):Int)) (Hs (Hb d5 d7) G G G) G (JLm (I64 ((p+1:Nat):Int)) G (G5 (e7 _ _ (p+1) (a0.1,a0.2) (app1 j2 h) (by omega) ⟨(.sm G G),⟨fmQ G,⟨_,rfl,.vec⟩,fbQ G ⟨.same rfl,U⟩,fbQ G ⟨.same rfl,U⟩,fbQ G ⟨.same rfl,U⟩,U⟩,rfl⟩))))
  ·
   have h:=app1 d8 (Hi d4 (H6 hb))
   refine H9 ?_
   obtain rfl:=Pc h
   exact⟨[],[Mq,(1085,MP 202 Nx (fun _:Unit=>.agg []) s.1),(Ms s),(Mt s),(Mp a c)],⟨⟨_,G,.boxL G ⟨.same G,U⟩⟩,⟨_,G,.map⟩,⟨_,G,.boxL G ⟨.same G,U⟩⟩,⟨_,G,.vec⟩,⟨_,G,.boxL G ⟨.same G,U⟩⟩,U⟩,G,U,G,G⟩
theorem rH:∀ (F:Nat) (id_:Int) (d:J8 Int Unit) (a:List Int) (b:List (List G2)) (c:Gq) (r:(J8 Int Unit)×(List Int)) (h:cL F id_ d a b c=some r),Rb Ek 118 [I64 id_,.ptr 1079 0,.ptr 1080 0,.dptr [LS 1 (E1) b],Ed c,.ptr 1081 0] [(1079,.box 202 [.mp 1085]),(1085,MP 202 Nx (fun _:Unit=>.agg []) d),(1080,.box 51 [.vec 1086 a.length 1 a.length]),(1086,.vec 3 1 a.length (a.map I64)),(1081,.box 203 [.fn 118 [.ptr 1079 0,.ptr 1080 0,.dptr [LS 1 (E1) b],Ed c,.ptr 1081 0]])] (fun av L'=>av=.tup []/\L'=[(1079,.box 202 [.mp 1085]),(1085,MP 202 Nx (fun _:Unit=>.agg []) r.1),(1080,.box 51 [.vec 1086 r.2.length 1 r.2.length]),(1086,.vec 3 1 r.2.length (r.2.map I64)),(1081,.box 203 [.fn 118 [.ptr 1079 0,.ptr 1080 0,.dptr [LS 1 (E1) b],Ed c,.ptr 1081 0]])]):=by
 intro F
 induction F with
 | zero=>intro id_ d a b c r h; cases h
 | succ F ih=>intro id_ d a b c r h; exact HH (cL F) ih F id_ d a b c r h

def Zm (F:Nat) (s:Gq) (bf:List G2) (af:List G2):Option (List Int):=
 each (fun l n (d:(J8 Int Unit)×(List Int)) j=>
  each (fun b m (a:(J8 Int Unit)×(List Int)) i=>
   jp (fun c=>
    bnd (eF bf b.Box) fun e=>
    bnd (eF af b.Box) fun f=>
    bif ((!(e.2==f.2))||(!decide (e.1=f.1))) then
    (bnd (cL F b.Box a.1 a.2 [bf,af] s) fun g=>
     c (g.1,g.2))
    else
    (c (a.1,a.2))) fun(h:(J8 Int Unit)×(List Int))=>
   i (h.1,h.2))
  (fun(a:(J8 Int Unit)×(List Int))=>
   j (a.1,a.2)) l 0 (d.1,d.2))
 (fun(d:(J8 Int Unit)×(List Int))=>
  bnd (HR d.2) fun k=>
  some k) [bf,af] 0 ((J8.empty:J8 Int Unit),[])
abbrev Mv (bf:List G2) (af:List G2) (s:Gq):List AV:=[.ptr 1079 0,.ptr 1080 0,.dptr [LS 1 (E1) [bf,af]],Ed s,.ptr 1081 0]
abbrev Mw (bf:List G2) (af:List G2) (s:Gq):Nat×Jn:=(1081,.box 203 [.fn 118 (Mv bf af s)])
theorem YK (F:Nat) (s:Gq) (bf:List G2) (af:List G2) (r:(List Int)) (h:Zm F s bf af=some r):Pure Ek 52 [.agg (Gq.cs s),E1 bf,E1 af] (·=E2 r):=by
 unfold Zm at h
 refine Gy [.tmp 6] Tryz.func52 G G (Jr fun c3=>(JLh (.ptr 1076 0) (Jy (cs:=(Gq.cs s)) 1076 G G G G G) G (JLh (E2 ([]:List Int)) (Qd 1 G G) G (G5 (c3 (Gw [(1,E1 bf),(2,E1 af),(3,Ed s)] [] 1076 rfl rfl rfl U rfl (by exact⟨.conv (.same rfl),.conv (.same rfl),.ptr,U⟩) ?_))))))
 refine Jr fun c4=>(JLm (E1 bf) G (JLm (E1 af) G (JLh (LS 1 (E1) [bf,af]) (Hf (xs:=[E1 bf,E1 af]) G ⟨G,G,G,G,U⟩ Hn gN G G G G) G (JLh (.ptr 1078 0) (Jp 1078 1 JX G G) G (J7 (u:=.junk) (Hv (u:=LS 1 (E1) [bf,af]) (ds:=[LS 1 (E1) [bf,af]]) yM G G G G G G G G) (G5 (c4 (fzQ [(1,E1 bf),(2,E1 af),(3,Ed s),(7,.dptr [LS 1 (E1) [bf,af]])] [] 1078 rfl rfl rfl U rfl ?_))))))))
 refine Jr fun c5=>(JLh (.mp 1085) (zS 1085 Nx (fun _:Unit=>.agg []) G G) G (JLh (.ptr 1079 0) (Jp 1079 1 zW G G) G (J7 (u:=.junk) (Hv (u:=.mp 1085) (ds:=[.mp 1085]) QH G G G G G G G G) (G5 (c5 (Jr fun c6=>(JLh (.ptr 1080 0) (Rn 1080 [.sc (.slice none 0 0)] [.slice none 0 0] YZ ⟨.inl G,U⟩ G G) G (G39 1080 0 1086 3 1 G G G (cs':=[.vec 1086 (([]:List Int).length) 1 (([]:List Int).length)]) G (G5 (c6 (Jr fun c7=>(JLh (.ptr 1081 0) (Jp 1081 1 zV G G) G (G5 (c7 ?_))))))))))))))
 refine Jr fun c8=>(JLh (.fn 118 (Mv bf af s)) (eS (cs:=(Mv bf af s)) G G) G (J7 (u:=.junk) (Hv (u:=.fn 118 (Mv bf af s)) (ds:=[.fn 118 (Mv bf af s)]) QG G G G G G G G G) (G5 (c8 (Js fun c9=>Jr fun d0=>(JLh (LS 1 (E1) [bf,af]) (Ge Qe G G G) G (JLl Hn G G G fun w=>(JLm (I64 0) G (G5 (d0 (Gf ?_)))))))))))
 obtain⟨b9,d1,d2,x,h⟩:=Hy h
 refine H8 (fun i (j:(J8 Int Unit)×(List Int))=>each b9 d1 (List.drop i [bf,af]) i j=some r) (fun i j=>[(1,E1 bf),(2,E1 af),(9,.ptr 1080 0),(10,.ptr 1081 0),(24,LS 1 (E1) [bf,af]),(25,I64 ([bf,af].length:Int)),(26,Ej i)]) (fun i j=>[(1085,MP 202 Nx (fun _:Unit=>.agg []) j.1),(Mt j),Mq,(Ms j),(Mw bf af s)]) (fun i=>[bf,af].length - i) 0 ((J8.empty:J8 Int Unit),[]) h ⟨(.sm G G),⟨fmQ G,⟨_,rfl,.vec⟩,fbQ G ⟨.same rfl,U⟩,fbQ G ⟨.same rfl,U⟩,fbQ G ⟨.same rfl,U⟩,U⟩,rfl⟩ ?_
 clear h
 intro i j q K9 e9
 refine Jr fun z=>(JLh (BL (decide ((i:Int) < ([bf,af].length:Int)))) (Hr G G G) G (G5 (z (Js fun a0=>Gg G (fun hb=>?_) (fun hb=>?_)))))
 ·
  have t:=Je hb
  obtain⟨g,e0,d3,d4,h⟩:=Hh q t
  replace h:=Rx d2 h
  refine Gn (a0 (Js fun a1=>Gf (Jr fun a2=>(JLh (.dptr [E1 g]) (Gr (f:=(E1)) (xs:=[bf,af]) (y:=g) G G G Hn d3 G) G (JLh (E1 g) (Ge Q6 G G G) G (JLm (E1 g) G (G5 (a2 (Jr fun a3=>(JLm (E1 g) G (JLl H5 G G G fun a4=>(JLm (I64 0) G (G5 (a3 (Gf ?_)))))))))))))))
  obtain⟨d5,a5,a6,o,h⟩:=Hy h
  refine H8 (fun e (b:(J8 Int Unit)×(List Int))=>each d5 a5 (List.drop e g) e b=some r) (fun e b=>[(1,E1 bf),(2,E1 af),(9,.ptr 1080 0),(10,.ptr 1081 0),(24,LS 1 (E1) [bf,af]),(25,I64 ([bf,af].length:Int)),(26,Ej i),(30,E1 g),(31,Ej g.length),(32,Ej e)]) (fun e b=>[(1085,MP 202 Nx (fun _:Unit=>.agg []) b.1),(Mt b),Mq,(Ms b),(Mw bf af s)]) (fun e=>g.length - e) 0 (j.1,j.2) h ⟨(.sm G G),⟨fmQ G,⟨_,rfl,.vec⟩,fbQ G ⟨.same rfl,U⟩,fbQ G ⟨.same rfl,U⟩,fbQ G ⟨.same rfl,U⟩,U⟩,rfl⟩ ?_
  clear h
  intro e b m e1 d6
  refine Jr fun a7=>(JLh (BL (decide ((e:Int) < (g.length:Int)))) (Hr G G G) G (G5 (a7 (Js fun a8=>Gg G (fun hb=>?_) (fun hb=>?_)))))
  ·
   have n:=Je hb
   obtain⟨d,d9,a9,b0,h⟩:=Hh m n
   replace h:=Rx a6 h
   refine Gn (a8 ?_)
   obtain⟨b1,p,h⟩:=gF h
   refine Zc (fun k:(J8 Int Unit)×(List Int)=>b1 k=some r) (fun k=>[(1,E1 bf),(2,E1 af),(9,.ptr 1080 0),(10,.ptr 1081 0),(24,LS 1 (E1) [bf,af]),(25,I64 ([bf,af].length:Int)),(26,Ej i),(30,E1 g),(31,Ej g.length),(32,Ej e)]) (fun k=>[(1085,MP 202 Nx (fun _:Unit=>.agg []) k.1),(Mt k),Mq,(Ms k),(Mw bf af s)]) (fun Kj62 ej62=>?_) ?_
   ·
    refine Gf (Jr fun b2=>(JLh (Ee d) (Gr (f:=G2.av) (xs:=g) (y:=d) G G G H5 a9 G) G (JLh (.agg (G2.cs d)) (Gj Zt G G G) G (JLh (.ptr 1082 0) (Jp 1082 4 Yd G G) G (J7 (u:=.junk) (Hv (u:=.agg (G2.cs d)) (ds:=[I64 d.Box,I64 d.Slot.G6,I64 d.Slot.Tier,U8 d.Slot.Half]) eH G G G G G G G G) (G5 (b2 ?_)))))))
    refine fzQ [(1,E1 bf),(2,E1 af),(9,.ptr 1080 0),(10,.ptr 1081 0),(14,Ee d),(24,LS 1 (E1) [bf,af]),(25,I64 ([bf,af].length:Int)),(26,Ej i),(30,E1 g),(31,Ej g.length),(32,Ej e)] [(1085,MP 202 Nx (fun _:Unit=>.agg []) b.1),(Mt b),Mq,(Ms b),(Mw bf af s)] 1082 rfl rfl rfl ⟨fmQ G,⟨_,rfl,.vec⟩,⟨_,rfl,.boxEq rfl rfl⟩,⟨_,rfl,.boxEq rfl rfl⟩,⟨_,rfl,.boxEq rfl rfl⟩,U⟩ rfl ?_
    refine Jr fun b3=>(JLm (E1 bf) G (JLh (Ee d) (Ga Qf G G G) G (JLh (I64 d.Box) (Ge Gb G G G) G ?_)))
    obtain⟨a,b4,h⟩:=Gd h
    refine JLh (.tup [.agg (Slot.cs a.1),BL a.2]) (Gi G (eR bf d.Box a b4) jN ⟨G,G,G,G,U⟩) G (JLm (.tup [.agg (Slot.cs a.1),BL a.2]) G (JLh (.agg (Slot.cs a.1)) (Hx G G G) G (JLh (BL a.2) (Hx G G G) G (JLh (.ptr 1083 0) (Jp 1083 3 cY G G) G (J7 (u:=.junk) (Hv (u:=.agg (Slot.cs a.1)) (ds:=[I64 a.1.G6,I64 a.1.Tier,U8 a.1.Half]) dG G G G G G G G G) (JLm (BL a.2) G (G5 (b3 ?_))))))))
    refine fzQ [(1,E1 bf),(2,E1 af),(9,.ptr 1080 0),(10,.ptr 1081 0),(14,Ee d),(15,Eh a.1),(16,BL a.2),(24,LS 1 (E1) [bf,af]),(25,I64 ([bf,af].length:Int)),(26,Ej i),(30,E1 g),(31,Ej g.length),(32,Ej e)] [(1085,MP 202 Nx (fun _:Unit=>.agg []) b.1),(Mt b),Mq,(Ms b),(Mw bf af s)] 1083 rfl rfl rfl ⟨fmQ G,⟨_,rfl,.vec⟩,⟨_,rfl,.boxEq rfl rfl⟩,⟨_,rfl,.boxEq rfl rfl⟩,⟨_,rfl,.boxEq rfl rfl⟩,U⟩ rfl ?_
    refine Jr fun b5=>(JLm (E1 af) G (JLh (Ee d) (Ga Qf G G G) G (JLh (I64 d.Box) (Ge Gb G G G) G ?_)))
    obtain⟨c,b6,h⟩:=Gd h
    refine JLh (.tup [.agg (Slot.cs c.1),BL c.2]) (Gi G (eR af d.Box c b6) jN ⟨G,G,G,G,U⟩) G (JLm (.tup [.agg (Slot.cs c.1),BL c.2]) G (JLh (.agg (Slot.cs c.1)) (Hx G G G) G (JLh (BL c.2) (Hx G G G) G (JLh (.ptr 1084 0) (Jp 1084 3 cY G G) G (J7 (u:=.junk) (Hv (u:=.agg (Slot.cs c.1)) (ds:=[I64 c.1.G6,I64 c.1.Tier,U8 c.1.Half]) dG G G G G G G G G) (JLm (BL c.2) G (G5 (b5 ?_))))))))
    refine fzQ [(1,E1 bf),(2,E1 af),(9,.ptr 1080 0),(10,.ptr 1081 0),(14,Ee d),(15,Eh a.1),(16,BL a.2),(17,Eh c.1),(18,BL c.2),(24,LS 1 (E1) [bf,af]),(25,I64 ([bf,af].length:Int)),(26,Ej i),(30,E1 g),(31,Ej g.length),(32,Ej e)] [(1085,MP 202 Nx (fun _:Unit=>.agg []) b.1),(Mt b),Mq,(Ms b),(Mw bf af s)] 1084 rfl rfl rfl ⟨fmQ G,⟨_,rfl,.vec⟩,⟨_,rfl,.boxEq rfl rfl⟩,⟨_,rfl,.boxEq rfl rfl⟩,⟨_,rfl,.boxEq rfl rfl⟩,U⟩ rfl ?_
    refine Jr fun b7=>(JLm (BL a.2) G (JLm (BL c.2) G (JLh (BL (!(a.2==c.2))) (G40 sI G G G) G (JLm (BL (!(a.2==c.2))) G (JLo (.agg (Slot.cs a.1)) [] G .scf U (fun hc=>Gj Q9 G G G) G (JLo (.agg (Slot.cs c.1)) [] G .scf U (fun hc=>Gj Q9 G G G) G (JLo (BL (!decide (a.1=c.1))) [54,55] G .scf ⟨Ua,Ua,U⟩ (fun hc=>uY (vs:=[.int .i64 a.1.G6,.int .i64 a.1.Tier,.int .u8 a.1.Half]) (us:=[.int .i64 c.1.G6,.int .i64 c.1.Tier,.int .u8 c.1.Half]) 4 G (Haf a.1 c.1) qV xD G G G) G (JLh (BL ((!(a.2==c.2))||(!decide (a.1=c.1)))) (Rm G G G G) G (G5 (b7 (JCc G h (fun h hb=>?_) (fun h hb=>?_))))))))))))
    ·
     refine G1 (JLh (.fn 118 (Mv bf af s)) (Zp lT G G G G) G (JLh (Ee d) (Ga Qf G G G) G (JLh (I64 d.Box) (Ge Gb G G G) G ?_)))
     obtain⟨l,b8,h⟩:=Gd h
     refine JLh (.tup []) (HJ (args:=[I64 d.Box]) (caps:=(Mv bf af s)) (L0:=[Mq,(1085,MP 202 Nx (fun _:Unit=>.agg []) b.1),(Ms b),(Mt b),(Mw bf af s)]) (Lr:=[Mq,(1085,MP 202 Nx (fun _:Unit=>.agg []) l.1),(1080,.box 51 [.vec 1086 l.2.length 1 l.2.length]),(1086,.vec 3 1 l.2.length (l.2.map I64)),(Mw bf af s)]) G G (rH F d.Box b.1 b.2 [bf,af] s l b8) qU ⟨.inl G,G,U⟩ G ⟨G,G,G,G,G,U⟩ G G G) G (G5 ?_)
     exact ej62 _ _ (l.1,l.2) h ⟨(.sm G G),⟨fmQ G,⟨_,rfl,.vec⟩,fbQ G ⟨.same rfl,U⟩,fbQ G ⟨.same rfl,U⟩,fbQ G ⟨.same rfl,U⟩,U⟩,rfl⟩
    ·
     refine Gn (ej62 _ _ (b.1,b.2) h ⟨(.sm G G),⟨fmQ G,⟨_,rfl,.vec⟩,fbQ G ⟨.same rfl,U⟩,fbQ G ⟨.same rfl,U⟩,fbQ G ⟨.same rfl,U⟩,U⟩,rfl⟩)
   .intro k h
    replace h:=app1 p h
    refine G1 (JLh (I64 ((e+1:Nat):Int)) (Hs (Hb n a4) G G G) G (JLm (I64 ((e+1:Nat):Int)) G (G5 (d6 _ _ (e+1) (k.1,k.2) (app1 b0 h) (by omega) ⟨(.sm G G),⟨fmQ G,⟨_,rfl,.vec⟩,fbQ G ⟨.same rfl,U⟩,fbQ G ⟨.same rfl,U⟩,fbQ G ⟨.same rfl,U⟩,U⟩,rfl⟩))))
  ·
   have h:=app1 o (Hi m (H6 hb))
   refine H9 (a1 (G1 (JLh (I64 ((i+1:Nat):Int)) (Hs (Hb t w) G G G) G (JLm (I64 ((i+1:Nat):Int)) G (G5 (e9 _ _ (i+1) (b.1,b.2) (app1 d4 h) (by omega) ⟨(.sm G G),⟨fmQ G,⟨_,rfl,.vec⟩,fbQ G ⟨.same rfl,U⟩,fbQ G ⟨.same rfl,U⟩,fbQ G ⟨.same rfl,U⟩,U⟩,rfl⟩))))))
 ·
  have h:=app1 x (Hi q (H6 hb))
  refine H9 (c9 (Jr fun c0=>(JLh (.vec 1086 j.2.length 1 j.2.length) (Zp He G G G G) G ?_)))
  obtain⟨v,c1,h⟩:=Gd h
  refine JLh (.tup []) (Hd3 (F:=122) (xs:=j.2) (r:=v) G GC yA QS G G G c1 G) G (G5 (c0 (Jr fun c2=>(JLh (.vec 1086 j.2.length 1 j.2.length) (Zp He G G G G) G (JLm (.vec 1086 j.2.length 1 j.2.length) G (G5 (c2 (zR [(6,E2 v)] [] 1086 rfl rfl U rfl (by exact⟨.vec,U⟩) (Gs (fin1 (fun r:(List Int)=>(E2 r:AV)) h))))))))))

def bP (id_:Int) (a:List G2) (b:List G2):Option Bool:=
 bnd (eF a id_) fun c=>
 bnd (eF b id_) fun d=>
 some ((!c.2)||(!d.2))
theorem zQ (id_:Int) (e:List G2) (d:List G2) (r:Bool) (h:bP id_ e d=some r):Pure Ek 53 [I64 id_,.dptr [E1 e],.dptr [E1 d]] (·=BL r):=by
 unfold bP at h
 refine Gy [.tmp 4] Tryz.func53 G G (Jr fun f=>(JLm (BL false) G (G5 (f (Jr fun g=>(JLh (E1 e) (Ge Q6 G G G) G (JLm (I64 id_) G ?_)))))))
 obtain⟨a,i,h⟩:=Gd h
 refine JLh (.tup [.agg (Slot.cs a.1),BL a.2]) (Gi G (eR e id_ a i) jN ⟨G,G,G,G,U⟩) G (JLm (.tup [.agg (Slot.cs a.1),BL a.2]) G (JLh (.agg (Slot.cs a.1)) (Hx G G G) G (JLh (BL a.2) (Hx G G G) G (JLh (.ptr 1087 0) (Jp 1087 3 cY G G) G (J7 (u:=.junk) (Hv (u:=.agg (Slot.cs a.1)) (ds:=[I64 a.1.G6,I64 a.1.Tier,U8 a.1.Half]) dG G G G G G G G G) (JLm (BL a.2) G (G5 (g (Gw [(0,I64 id_),(2,.dptr [E1 d]),(6,BL a.2)] [] 1087 rfl rfl rfl U rfl (by exact⟨.conv (.same rfl),.conv (.same rfl),.conv (.same rfl),U⟩) (Jr fun j=>(JLh (E1 d) (Ge Q6 G G G) G (JLm (I64 id_) G ?_))))))))))))
 obtain⟨c,k,h⟩:=Gd h
 refine JLh (.tup [.agg (Slot.cs c.1),BL c.2]) (Gi G (eR d id_ c k) jN ⟨G,G,G,G,U⟩) G (JLm (.tup [.agg (Slot.cs c.1),BL c.2]) G (JLh (.agg (Slot.cs c.1)) (Hx G G G) G (JLh (BL c.2) (Hx G G G) G (JLh (.ptr 1088 0) (Jp 1088 3 cY G G) G (J7 (u:=.junk) (Hv (u:=.agg (Slot.cs c.1)) (ds:=[I64 c.1.G6,I64 c.1.Tier,U8 c.1.Half]) dG G G G G G G G G) (JLm (BL c.2) G (G5 (j (Gw [(6,BL a.2),(8,BL c.2)] [] 1088 rfl rfl rfl U rfl (by exact⟨.conv (.same rfl),.conv (.same rfl),U⟩) ?_)))))))))
 refine Jr fun l=>(JLm (BL a.2) G (JLh (BL (!a.2)) (Qj (b:=a.2) G G) G (JLm (BL (!a.2)) G (JLo (BL c.2) [] G .scf U (fun hc=>G3 G G) G (JLo (BL (!c.2)) [24] G .scf ⟨Ua,U⟩ (fun hc=>Qj (b:=c.2) G G) G (JLh (BL ((!a.2)||(!c.2))) (Rm G G G G) G (JLm (BL ((!a.2)||(!c.2))) G (G5 (l (Gs (fin1 BL h)))))))))))

def cX (s:List Int) (f:Int→Option Bool):Option Int:=
 each (fun b c (d:Unit) a=>
  bnd (f b) fun e=>
  bif e then
  (some (c:Int))
  else
  (a ()))
 (fun(d:Unit)=>
  some (-1)) s 0 ()
theorem sE (s:List Int) (f:Int→Option Bool) (f_f:FuncId) (f_c:List AV) (f_B:H7 Ek f_f=true) (f_d:Ys (fun _=>false) f_c=true) (f_w:∀ a0 q,f a0=some q→Pure Ek f_f ([I64 a0]++f_c) (·=BL q)) (r:Int) (h:cX s f=some r):Pure Ek 117 [E2 s,.fn f_f f_c] (·=I64 r):=by
 unfold cX at h
 refine Gy [.tmp 4] Tryz.func117 G G (Jr fun x=>(JLm (I64 0) G (G5 (x (Js fun z=>Jr fun a1=>(JLm (E2 s) G (JLl Gz G G G fun a2=>(JLm (I64 0) G (G5 (a1 (Gf ?_)))))))))))
 obtain⟨a3,i,j,g,h⟩:=Hy h
 refine H8 (fun a (c:Unit)=>each a3 i (List.drop a s) a c=some r) (fun a c=>[(0,E2 s),(1,.fn f_f f_c),(7,Ej s.length),(8,Ej a)]) (fun a c=>[]) (fun a=>s.length - a) 0 () h ⟨⟨.same G,.same (Qw _ _ f_d),.same G,.same G,U⟩,U,G⟩ ?_
 clear h
 intro a c d a7 a4
 refine Jr fun k=>(JLh (BL (decide ((a:Int) < (s.length:Int)))) (Hr G G G) G (G5 (k (Js fun l=>Gg G (fun hb=>?_) (fun hb=>?_)))))
 ·
  have e:=Je hb
  obtain⟨b,a6,m,n,h⟩:=Hh d e
  replace h:=Rx j h
  refine Gn (l (Js fun o=>Gf (Jr fun p=>(JLm (Ej a) G (JLm (Ej a) G (G5 (p (Jr fun t=>(JLm (.fn f_f f_c) G (JLm (E2 s) G (JLm (Ej a) G (JLh (.dptr [I64 b]) (Gr (f:=I64) (xs:=s) (y:=b) G G G Gz m G) G (JLh (I64 b) (Ge Gb G G G) G ?_)))))))))))))
  obtain⟨a5,u,h⟩:=Gd h
  refine JLh (BL a5) (fR (args:=[I64 b]) (caps:=f_c) G G (f_w b _ u) f_B ⟨G,G,U⟩ f_d) G (G5 (t (JCc G h (fun h hb=>?_) (fun h hb=>?_))))
  ·
   refine Jr fun v=>(JLm (Ej a) G (JLm (Ej a) G (G5 (v (Gs (fin1 I64 h))))))
  ·
   refine Gn (o (G1 (JLh (I64 ((a+1:Nat):Int)) (Hs (Hb e a2) G G G) G (JLm (I64 ((a+1:Nat):Int)) G (G5 (a4 _ _ (a+1) () (app1 n h) (by omega) ⟨⟨.same rfl,.same (Qw _ _ f_d),.same rfl,.same rfl,U⟩,U,rfl⟩))))))
 ·
  have h:=app1 g (Hi d (H6 hb))
  refine H9 (z (Jr fun w=>(JLm (I64 (-1)) G (G5 (w (Gs (fin1 I64 h)))))))
end
end Go.Proofs.YthkihfoleenlmaaGreat
