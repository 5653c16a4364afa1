/- Walks of functions. -/
import Derived.Test.YtmfhaflabpnaoaaGreatXB
set_option maxRecDepth 100000
set_option maxHeartbeats 1000000
set_option linter.unusedVariables false
set_option linter.unusedSimpArgs false
namespace Go.Proofs.YtmfhaflabpnaoaaGreat
open Go.RowKit
noncomputable section

namespace XRF
open XAF
open XLF
open XCF
open XSF
open XKF
open XTF
open XUF
open XBF
theorem Ja:H10 Ek 45 18=true:=by kernel_rfl
theorem Yw:H9 Ek 107=true:=by kernel_rfl
theorem Qed:H9 Ek 108=true:=by kernel_rfl
theorem J99:H9 Ek 109=true:=by kernel_rfl
theorem H51:H9 Ek 110=true:=by kernel_rfl
theorem J98:H9 Ek 111=true:=by kernel_rfl
theorem J97:H9 Ek 112=true:=by kernel_rfl
theorem Qec:H9 Ek 113=true:=by kernel_rfl
theorem Qeb:H9 Ek 114=true:=by kernel_rfl
theorem Qea:H9 Ek 115=true:=by kernel_rfl
theorem Qe1:H9 Ek 139=true:=by kernel_rfl
theorem Jff:H9 Ek 30=true:=by kernel_rfl
theorem H9c:H9 Ek 31=true:=by kernel_rfl
theorem H35:H9 Ek 32=true:=by kernel_rfl
theorem R54:H9 Ek 33=true:=by kernel_rfl
theorem R53:H9 Ek 34=true:=by kernel_rfl
theorem R52:H9 Ek 35=true:=by kernel_rfl
theorem Jfe:H9 Ek 36=true:=by kernel_rfl
theorem R51:H9 Ek 37=true:=by kernel_rfl
theorem Jfd:H9 Ek 38=true:=by kernel_rfl
theorem R47:H9 Ek 59=true:=by kernel_rfl
theorem Jf4:H9 Ek 60=true:=by kernel_rfl
theorem Jf3:H9 Ek 61=true:=by kernel_rfl
theorem Jf2:H9 Ek 62=true:=by kernel_rfl
theorem Jf1:H9 Ek 63=true:=by kernel_rfl
theorem Jf0:H9 Ek 64=true:=by kernel_rfl
theorem R46:H9 Ek 65=true:=by kernel_rfl
theorem R45:H9 Ek 66=true:=by kernel_rfl
theorem J1c:H9 Ek 67=true:=by kernel_rfl
theorem J1b:H9 Ek 68=true:=by kernel_rfl
theorem H9a:H9 Ek 69=true:=by kernel_rfl
theorem Gf6:Jz Ek 45 0 0=true:=by kernel_rfl
theorem H64:Jz Ek 45 1 13=true:=by kernel_rfl
theorem Qde:J79 Ek 3 .i64=true:=by kernel_rfl
theorem Qdd:J79 Ek 5 .u8=true:=by kernel_rfl
theorem H98:placesOf Ek 45=some [(0,13),(13,1),(14,1),(15,1),(16,1),(17,1)]:=by kernel_rfl
theorem H97:Rm Ek 33=true:=by kernel_rfl
theorem Je1:Zh Ek 34 1=true:=by kernel_rfl
theorem Qf:Zh Ek 45 18=true:=by kernel_rfl
theorem Ge5:(Ek.info? 45).bind (fun i=>i.zero.map Value.cells)=some (List.toArray [.slice none 0 0,.slice none 0 0,E0,E0,E0,E0,.slice none 0 0,.slice none 0 0,.slice none 0 0,E0,E0,E0,E0,.slice none 0 0,.slice none 0 0,.slice none 0 0,.slice none 0 0,E0]):=by kernel_rfl
end XRF
open XAF
open XLF
open XCF
open XSF
open XKF
open XTF
open XUF
open XBF
open XRF

def Hr (n:Int) (low:Int) (high:Int):Option Bool:=
 some ((decide (low≤n))&&(decide (n≤high)))
theorem J5 (n:Int) (low:Int) (high:Int) (r:Bool) (h:Hr n low high=some r):Pure Ek 107 [I64 n,I64 low,I64 high] (·=BL r):=by
 unfold Hr at h
 refine H3 [.tmp 6] Tryz.func107 O O (Jr fun a=>(JLm (BL false) O (G8 (a (Jr fun b=>(JLm (I64 n) O (JLm (I64 low) O (JLh (BL (decide (low≤n))) (G4b O O O) O (JLm (BL (decide (low≤n))) O (JLo (I64 n) [] O .sct G (fun hc=>G7 O O) O (JLo (I64 high) [] O .sct G (fun hc=>G7 O O) O (JLo (BL (decide (n≤high))) [11,12] O .sct ⟨Ua,Ua,G⟩ (fun hc=>H61 O O O) O (JLh (BL ((decide (low≤n))&&(decide (n≤high)))) (Jv O O O O) O (JLm (BL ((decide (low≤n))&&(decide (n≤high)))) O (G8 (b (Gs (fin1 BL h))))))))))))))))))

def Yy (c:G1):Option Bool:=
 each (fun d a (l:Unit) k=>
  bif ((decide (d < 0))||(decide (c.Tiers≤d))) then
  (some false)
  else
  (bnd (bif decide (0 < (a:Int)) then chk ((a:Int) - 1) some else some 0) fun m=>
   bnd (bif decide (0 < (a:Int)) then Qr c.Plugs m some else some default) fun n=>
   bif ((decide (0 < (a:Int)))&&(decide (d≤n))) then
   (some false)
   else
   (k ())))
 (fun(l:Unit)=>
  bnd (Hr c.X (-500000) 500000) fun e=>
  bnd (bif e then Hr c.Y (-500000) 500000 else some default) fun h=>
  bnd (bif (e&&h) then Hr c.Z (-500000) 500000 else some default) fun o=>
  bnd (Hr c.Kilos20 0 500000000) fun f=>
  bnd (bif f then Hr c.Kilos40 0 500000000 else some default) fun i=>
  bnd (bif (f&&i) then Hr c.Lash 0 1000000000000 else some default) fun p=>
  bnd (Hr c.Bay 0 39) fun b=>
  bnd (bif b then Hr c.Row 0 30 else some default) fun g=>
  bnd (bif (b&&g) then Hr c.Tiers 1 10 else some default) fun j=>
  bnd (bif ((b&&g)&&j) then Hr c.Height 0 40000 else some default) fun q=>
  some (((((b&&g)&&j)&&q)&&((f&&i)&&p))&&((e&&h)&&o))) c.Plugs 0 ()
theorem H4e (c:G1) (r:Bool) (h:Yy c=some r):Pure Ek 108 [.agg (G1.cs c)] (·=BL r):=by
 unfold Yy at h
 refine H3 [.tmp 2] Tryz.func108 O O (Jr fun c3=>(JLh (.ptr 1132 0) (Ju (cs:=(G1.cs c)) 1132 O O O O O) O (JLm (BL false) O (G8 (c3 (Gu [(1,Eh c)] [] 1132 rfl rfl rfl G rfl (by exact⟨.ptr,G⟩) (Js fun c4=>Jr fun c5=>(JLm (I64 0) O (G8 (c5 (Gx ?_)))))))))))
 obtain⟨c6,w,x,v,h⟩:=Jf h
 refine Hs (fun a (s:Unit)=>each c6 w (List.drop a c.Plugs) a s=some r) (fun a s=>[(1,Eh c),(3,Ej a)]) (fun a s=>[]) (fun a=>c.Plugs.length - a) 0 () h ⟨(.sm O O),G,O⟩ ?_
 clear h
 intro a s t d1 c7
 refine Js fun z=>Jr fun a0=>(JLm (Ej a) O (JLh (.dptr ((G1.cs c).drop 8)) (Gb G1d O O O) O (JLh (E1 c.Plugs) (Ge Hq O O O) O (JLl Gz O O O fun c8=>(JLh (BL (decide ((a:Int) < (c.Plugs.length:Int)))) (Jq O O O) O (G8 (a0 (Gp O (fun hb=>?_) (fun hb=>?_)))))))))
 ·
  have u:=Q4 hb
  obtain⟨b,d0,q,a1,h⟩:=Hz t u
  replace h:=Zi x h
  refine Gn (z (Js fun a2=>Gx (Js fun a3=>Js fun a4=>?_)))
  refine JC_d0 Ho (by kernel_rfl) (Dq (.dptr ((G1.cs c).drop 8)) (Gb G1d O O O) O (Dq (E1 c.Plugs) (Ge Hq O O O) O (Dq (Ej a) (G7 O O) O (Dq (.dptr [I64 b]) (H0 (f:=I64) (xs:=c.Plugs) (y:=b) O O O Gz q O) O (Dq (I64 b) (Ge Gd O O O) O (Dq (BL (decide (b < 0))) (Jq O O O) O (Dq (BL (decide (b < 0))) (G7 O O) O (Do (.dptr ((G1.cs c).drop 8)) [] O .scf G (fun hc=>Gb G1d O O O) O (Do (E1 c.Plugs) [20] O .scf ⟨Ua,G⟩ (fun hc=>Ge Hq O O O) O (Do (Ej a) [] O .scf G (fun hc=>G7 O O) O (Do (.dptr [I64 b]) [21,22] O .scf ⟨Ua,Ua,G⟩ (fun hc=>H0 (f:=I64) (xs:=c.Plugs) (y:=b) O O O Gz q O) O (Do (I64 b) [23] O .scf ⟨Ua,G⟩ (fun hc=>Ge Gd O O O) O (Do (.dptr ((G1.cs c).drop 3)) [] O .scf G (fun hc=>Gb G70 O O O) O ?_)))))))))))))
  refine Do (I64 c.Tiers) [25] O .scf ⟨Ua,G⟩ (fun hc=>Ge Gd O O O) O (Do (BL (decide (c.Tiers≤b))) [24,26] O .scf ⟨Ua,Ua,G⟩ (fun hc=>G4b O O O) O (Dq (BL ((decide (b < 0))||(decide (c.Tiers≤b)))) (Ya O O O O) O (Dnil (a4 (JCc O h (fun h hb=>?_) (fun h hb=>?_))))))
  ·
   refine Jr fun a5=>(JLm (BL false) O (G8 (a5 (Gs (fin1 BL h)))))
  ·
   refine Gn (a3 (Js fun a6=>?_))
   obtain⟨c9,a7,h⟩:=Gj h
   obtain⟨p,a8,h⟩:=Gj h
   refine JC_d0 Ho (by kernel_rfl) (Dq (Ej a) (G7 O O) O (Dq (BL (decide (0 < (a:Int)))) (G08 O O O) O (Dq (BL (decide (0 < (a:Int)))) (G7 O O) O (Do (.dptr ((G1.cs c).drop 8)) [] O .sct G (fun hc=>Gb G1d O O O) O (Do (E1 c.Plugs) [32] O .sct ⟨Ua,G⟩ (fun hc=>Ge Hq O O O) O (Do (Ej a) [] O .sct G (fun hc=>G7 O O) O (Do (I64 c9) [34] O .sct ⟨Ua,G⟩ (fun hc=>H90 (G65 (H1 hc a7)) O O O) O (Do (.dptr [I64 p]) [33,35] O .sct ⟨Ua,Ua,G⟩ (fun hc=>(match R1 (H1 hc a8) with | ⟨_,hm_,hy_⟩=>H0 (f:=I64) (xs:=c.Plugs) (y:=p) O O O Gz hy_ hm_)) O (Do (I64 p) [36] O .sct ⟨Ua,G⟩ (fun hc=>Ge Gd O O O) O (Do (.dptr ((G1.cs c).drop 8)) [] O .sct G (fun hc=>Gb G1d O O O) O (Do (E1 c.Plugs) [38] O .sct ⟨Ua,G⟩ (fun hc=>Ge Hq O O O) O (Do (Ej a) [] O .sct G (fun hc=>G7 O O) O (Do (.dptr [I64 b]) [39,40] O .sct ⟨Ua,Ua,G⟩ (fun hc=>H0 (f:=I64) (xs:=c.Plugs) (y:=b) O O O Gz q O) O ?_)))))))))))))
   refine Do (I64 b) [41] O .sct ⟨Ua,G⟩ (fun hc=>Ge Gd O O O) O (Do (BL (decide (b≤p))) [37,42] O .sct ⟨Ua,Ua,G⟩ (fun hc=>G4b O O O) O (Dq (BL ((decide (0 < (a:Int)))&&(decide (b≤p)))) (Jv O O O O) O (Dnil (a6 (JCc O h (fun h hb=>?_) (fun h hb=>?_))))))
   ·
    refine Jr fun a9=>(JLm (BL false) O (G8 (a9 (Gs (fin1 BL h)))))
   ·
    refine Gn (a2 (G2 (JLm (Ej a) O (JLh (I64 ((a+1:Nat):Int)) (Jo (Hw u c8) O O O) O (JLm (I64 ((a+1:Nat):Int)) O (G8 (c7 _ _ (a+1) () (app1 a1 h) (by omega) ⟨(.sm O O),G,rfl⟩)))))))
 ·
  have h:=app1 v (J0 t (Hd hb))
  refine Hy (c4 (Jr fun b0=>(JLh (.dptr [I64 c.X,I64 c.Y,I64 c.Z]) (Gb J08 O O O) O (JLh (I64 c.X) (Ge Gd O O O) O ?_))))
  obtain⟨j,b1,h⟩:=Gj h
  refine JLh (BL j) (Gw O (J5 c.X (-500000) 500000 j b1) Yw ⟨O,O,O,O,O,O,G⟩) O (JLm (BL j) O (JLo (.dptr [I64 c.Y,I64 c.Z]) [] O .sct G (fun hc=>Gb Hcf O O O) O (JLo (I64 c.Y) [49] O .sct ⟨Ua,G⟩ (fun hc=>Ge Gd O O O) O ?_)))
  obtain⟨l,b2,h⟩:=Gj h
  refine JLo (BL l) [50] O .sct ⟨Ua,G⟩ (fun hc=>Gw (args:=[I64 c.Y,I64 (-500000),I64 500000]) O (J5 c.Y (-500000) 500000 l (H1 hc b2)) Yw ⟨O,O,O,O,O,O,G⟩) O (JLh (BL (j&&l)) (Jv O O O O) O (JLm (BL (j&&l)) O (JLo (.dptr [I64 c.Z]) [] O .sct G (fun hc=>Gb Hce O O O) O (JLo (I64 c.Z) [54] O .sct ⟨Ua,G⟩ (fun hc=>Ge Gd O O O) O ?_))))
  obtain⟨o,b3,h⟩:=Gj h
  refine JLo (BL o) [55] O .sct ⟨Ua,G⟩ (fun hc=>Gw (args:=[I64 c.Z,I64 (-500000),I64 500000]) O (J5 c.Z (-500000) 500000 o (H1 hc b3)) Yw ⟨O,O,O,O,O,O,G⟩) O (JLh (BL ((j&&l)&&o)) (Jv O O O O) O (JLm (BL ((j&&l)&&o)) O (G8 (b0 (Jr fun b4=>(JLh (.dptr ((G1.cs c).drop 5)) (Gb J0b O O O) O (JLh (I64 c.Kilos20) (Ge Gd O O O) O ?_)))))))
  obtain⟨e,b5,h⟩:=Gj h
  refine JLh (BL e) (Gw O (J5 c.Kilos20 0 500000000 e b5) Yw ⟨O,O,O,O,O,O,G⟩) O (JLm (BL e) O (JLo (.dptr ((G1.cs c).drop 6)) [] O .sct G (fun hc=>Gb J0a O O O) O (JLo (I64 c.Kilos40) [62] O .sct ⟨Ua,G⟩ (fun hc=>Ge Gd O O O) O ?_)))
  obtain⟨i,b6,h⟩:=Gj h
  refine JLo (BL i) [63] O .sct ⟨Ua,G⟩ (fun hc=>Gw (args:=[I64 c.Kilos40,I64 0,I64 500000000]) O (J5 c.Kilos40 0 500000000 i (H1 hc b6)) Yw ⟨O,O,O,O,O,O,G⟩) O (JLh (BL (e&&i)) (Jv O O O O) O (JLm (BL (e&&i)) O (JLo (.dptr ((G1.cs c).drop 7)) [] O .sct G (fun hc=>Gb J09 O O O) O (JLo (I64 c.Lash) [67] O .sct ⟨Ua,G⟩ (fun hc=>Ge Gd O O O) O ?_))))
  obtain⟨m,b7,h⟩:=Gj h
  refine JLo (BL m) [68] O .sct ⟨Ua,G⟩ (fun hc=>Gw (args:=[I64 c.Lash,I64 0,I64 1000000000000]) O (J5 c.Lash 0 1000000000000 m (H1 hc b7)) Yw ⟨O,O,O,O,O,O,G⟩) O (JLh (BL ((e&&i)&&m)) (Jv O O O O) O (JLm (BL ((e&&i)&&m)) O (G8 (b4 (Jr fun b8=>(JLh (Eh c) (Gb G46 O O O) O (JLh (I64 c.Bay) (Ge Gd O O O) O ?_)))))))
  obtain⟨d,b9,h⟩:=Gj h
  refine JLh (BL d) (Gw O (J5 c.Bay 0 39 d b9) Yw ⟨O,O,O,O,O,O,G⟩) O (JLm (BL d) O (JLo (.dptr ((G1.cs c).drop 1)) [] O .sct G (fun hc=>Gb G45 O O O) O (JLo (I64 c.Row) [75] O .sct ⟨Ua,G⟩ (fun hc=>Ge Gd O O O) O ?_)))
  obtain⟨g,c0,h⟩:=Gj h
  refine JLo (BL g) [76] O .sct ⟨Ua,G⟩ (fun hc=>Gw (args:=[I64 c.Row,I64 0,I64 30]) O (J5 c.Row 0 30 g (H1 hc c0)) Yw ⟨O,O,O,O,O,O,G⟩) O (JLh (BL (d&&g)) (Jv O O O O) O (JLm (BL (d&&g)) O (JLo (.dptr ((G1.cs c).drop 3)) [] O .sct G (fun hc=>Gb G70 O O O) O (JLo (I64 c.Tiers) [80] O .sct ⟨Ua,G⟩ (fun hc=>Ge Gd O O O) O ?_))))
  obtain⟨k,c1,h⟩:=Gj h
  refine JLo (BL k) [81] O .sct ⟨Ua,G⟩ (fun hc=>Gw (args:=[I64 c.Tiers,I64 1,I64 10]) O (J5 c.Tiers 1 10 k (H1 hc c1)) Yw ⟨O,O,O,O,O,O,G⟩) O (JLh (BL ((d&&g)&&k)) (Jv O O O O) O (JLm (BL ((d&&g)&&k)) O (JLo (.dptr ((G1.cs c).drop 4)) [] O .sct G (fun hc=>Gb G44 O O O) O (JLo (I64 c.Height) [85] O .sct ⟨Ua,G⟩ (fun hc=>Ge Gd O O O) O ?_))))
  obtain⟨n,c2,h⟩:=Gj h
  refine JLo (BL n) [86] O .sct ⟨Ua,G⟩ (fun hc=>Gw (args:=[I64 c.Height,I64 0,I64 40000]) O (J5 c.Height 0 40000 n (H1 hc c2)) Yw ⟨O,O,O,O,O,O,G⟩) O (JLh (BL (((d&&g)&&k)&&n)) (Jv O O O O) O (JLm (BL (((d&&g)&&k)&&n)) O (JLo (BL ((e&&i)&&m)) [] O .sct G (fun hc=>G7 O O) O (JLh (BL ((((d&&g)&&k)&&n)&&((e&&i)&&m))) (Jv O O O O) O (JLm (BL ((((d&&g)&&k)&&n)&&((e&&i)&&m))) O (JLo (BL ((j&&l)&&o)) [] O .sct G (fun hc=>G7 O O) O (JLh (BL (((((d&&g)&&k)&&n)&&((e&&i)&&m))&&((j&&l)&&o))) (Jv O O O O) O (JLm (BL (((((d&&g)&&k)&&n)&&((e&&i)&&m))&&((j&&l)&&o))) O (G8 (b8 (Gs (fin1 BL h))))))))))))

def Qc (rows:List Int) (row:Int):Option Bool:=
 each (fun b d (c:Unit) a=>
  bif decide (b=row) then
  (some true)
  else
  (a ()))
 (fun(c:Unit)=>
  some false) rows 0 ()
theorem G9c (rows:List Int) (row:Int) (r:Bool) (h:Qc rows row=some r):Pure Ek 109 [E1 rows,I64 row] (·=BL r):=by
 unfold Qc at h
 refine H3 [.tmp 4] Tryz.func109 O O (Jr fun t=>(JLm (BL false) O (G8 (t (Js fun u=>Jr fun v=>(JLm (I64 0) O (G8 (v (Gx ?_)))))))))
 obtain⟨w,i,j,g,h⟩:=Jf h
 refine Hs (fun a (b:Unit)=>each w i (List.drop a rows) a b=some r) (fun a b=>[(0,E1 rows),(1,I64 row),(5,Ej a)]) (fun a b=>[]) (fun a=>rows.length - a) 0 () h ⟨(.sm O O),G,O⟩ ?_
 clear h
 intro a b d a1 x
 refine Js fun k=>Jr fun l=>(JLm (Ej a) O (JLm (E1 rows) O (JLl Gz O O O fun z=>(JLh (BL (decide ((a:Int) < (rows.length:Int)))) (Jq O O O) O (G8 (l (Gp O (fun hb=>?_) (fun hb=>?_))))))))
 ·
  have e:=Q4 hb
  obtain⟨c,a0,m,n,h⟩:=Hz d e
  replace h:=Zi j h
  refine Gn (k (Js fun o=>Gx (Jr fun p=>(JLm (E1 rows) O (JLm (Ej a) O (JLh (.dptr [I64 c]) (H0 (f:=I64) (xs:=rows) (y:=c) O O O Gz m O) O (JLh (I64 c) (Ge Gd O O O) O (JLm (I64 row) O (JLh (BL (decide (c=row))) (Jk O O O) O (G8 (p (JCc O h (fun h hb=>?_) (fun h hb=>?_)))))))))))))
  ·
   refine Jr fun q=>(JLm (BL true) O (G8 (q (Gs (fin1 BL h)))))
  ·
   refine Gn (o (G2 (JLm (Ej a) O (JLh (I64 ((a+1:Nat):Int)) (Jo (Hw e z) O O O) O (JLm (I64 ((a+1:Nat):Int)) O (G8 (x _ _ (a+1) () (app1 n h) (by omega) ⟨(.sm O O),G,rfl⟩)))))))
 ·
  have h:=app1 g (J0 d (Hd hb))
  refine Hy (u (Jr fun s=>(JLm (BL false) O (G8 (s (Gs (fin1 BL h)))))))

def Z9 (F:Nat) (s:G6):Option Bool:=
 bnd (Hr (s.Columns.length:Int) 1 200) fun r4=>
 bif ((!r4)||(decide (40 < (s.Covers.length:Int)))) then
 (some false)
 else
 (each (fun b p (s8:Unit) q=>
   bnd (Yy b) fun r=>
   bif (!r) then
   (some false)
   else
   (need (decide ((p:Int)≤9223372036854775807)) <|
    upto (fun d (t:Unit) l=>
     Qr s.Columns (d:Int) fun e=>
     bnd (bif decide (e.Bay=b.Bay) then Qr s.Columns (d:Int) some else some default) fun i=>
     bnd (bif ((decide (e.Bay=b.Bay))&&(decide (i.Row=b.Row))) then Qr s.Columns (d:Int) some else some default) fun u=>
     bif (((decide (e.Bay=b.Bay))&&(decide (i.Row=b.Row)))&&(u.Deck==b.Deck)) then
     (some false)
     else
     (l ()))
    (fun(t:Unit)=>
     q ()) (p:Int).toNat 0 ()))
  (fun(s8:Unit)=>
   each (fun a j (v:Unit) m=>
    bnd (Hr a.Bay 0 39) fun w=>
    bif ((!w)||(decide ((a.Rows.length:Int)=0))) then
    (some false)
    else
    (each (fun f c (x:Unit) n=>
      bnd (Hr f 0 30) fun g=>
      bnd (bif ((!(!g))&&(decide (0 < (c:Int)))) then chk ((c:Int) - 1) some else some 0) fun y=>
      bnd (bif ((!(!g))&&(decide (0 < (c:Int)))) then Qr a.Rows y some else some default) fun z=>
      bif ((!g)||((decide (0 < (c:Int)))&&(decide (f≤z)))) then
      (some false)
      else
      (need (decide ((j:Int)≤9223372036854775807)) <|
       upto (fun k (a0:Unit) o=>
        Qr s.Covers (k:Int) fun h=>
        bnd (bif decide (h.Bay=a.Bay) then Qr s.Covers (k:Int) some else some default) fun a1=>
        bnd (bif decide (h.Bay=a.Bay) then Qc a1.Rows f else some default) fun a2=>
        bif ((decide (h.Bay=a.Bay))&&a2) then
        (some false)
        else
        (o ()))
       (fun(a0:Unit)=>
        n ()) (j:Int).toNat 0 ()))
     (fun(x:Unit)=>
      m ()) a.Rows 0 ()))
   (fun(v:Unit)=>
    some true) s.Covers 0 ()) s.Columns 0 ())
theorem H6e (F:Nat) (s:G6) (r:Bool) (h:Z9 F s=some r):Pure Ek 59 [.agg (G6.cs s)] (·=BL r):=by
 unfold Z9 at h
 refine H3 [.tmp 2] Tryz.func59 O O (Jr fun j0=>(JLh (.ptr 1091 0) (Ju (cs:=(G6.cs s)) 1091 O O O O O) O (JLm (BL false) O (G8 (j0 (Gu [(1,Ee s)] [] 1091 rfl rfl rfl G rfl (by exact⟨.ptr,G⟩) (Js fun j1=>Jr fun j2=>(JLh (Ee s) (Gb Hh O O O) O (JLh (E3 s.Columns) (Ge Hn O O O) O (JLl Hk O O O fun l0=>?_))))))))))
 obtain⟨r4,j3,h⟩:=Gj h
 refine JLh (BL r4) (Gw O (J5 (s.Columns.length:Int) 1 200 r4 j3) Yw ⟨O,O,O,O,O,O,G⟩) O (JLh (BL (!r4)) (R2 (b:=r4) O O) O (JLm (BL (!r4)) O (JLo (.dptr ((G6.cs s).drop 1)) [] O .scf G (fun hc=>Gb Jc O O O) O (JLo (E7 s.Covers) [15] O .scf ⟨Ua,G⟩ (fun hc=>Ge Ji O O O) O (JLo (Ej s.Covers.length) [16] O .scf ⟨Ua,G⟩ (fun hc=>G2d (f:=Ga.av) (xs:=s.Covers) J7 O O) O (JLo (BL (decide (40 < (s.Covers.length:Int)))) [17] O .scf ⟨Ua,G⟩ (fun hc=>G08 O O O) O (JLh (BL ((!r4)||(decide (40 < (s.Covers.length:Int))))) (Ya O O O O) O (G8 (j2 (JCc O h (fun h hb=>?_) (fun h hb=>?_)))))))))))
 ·
  refine Jr fun j4=>(JLm (BL false) O (G8 (j4 (Gs (fin1 BL h)))))
 ·
  refine Gn (j1 (Js fun j5=>Jr fun j6=>(JLm (I64 0) O (G8 (j6 (Gx ?_))))))
  obtain⟨b8,j7,j8,c3,h⟩:=Jf h
  refine Hs (fun k (s8:Unit)=>each b8 j7 (List.drop k s.Columns) k s8=some r) (fun k s8=>[(1,Ee s),(3,Ej k)]) (fun k s8=>[]) (fun k=>s.Columns.length - k) 0 () h ⟨(.sm O O),G,O⟩ ?_
  clear h
  intro k s8 c1 K8 e8
  refine Js fun j9=>Jr fun c4=>(JLm (Ej k) O (JLh (Ee s) (Gb Hh O O O) O (JLh (E3 s.Columns) (Ge Hn O O O) O (JLl Hk O O O fun c5=>(JLh (BL (decide ((k:Int) < (s.Columns.length:Int)))) (Jq O O O) O (G8 (c4 (Gp O (fun hb=>?_) (fun hb=>?_)))))))))
  ·
   have c2:=Q4 hb
   obtain⟨e,l7,x,k0,h⟩:=Hz c1 c2
   replace h:=Zi j8 h
   refine Gn (j9 (Js fun c6=>Gx (Js fun c7=>Jr fun c8=>(JLh (Ee s) (Gb Hh O O O) O (JLh (E3 s.Columns) (Ge Hn O O O) O (JLm (Ej k) O (JLh (Eh e) (H0 (f:=G1.av) (xs:=s.Columns) (y:=e) O O O Hk x O) O (JLh (.agg (G1.cs e)) (Gt H75 O O O) O ?_))))))))
   obtain⟨z,c9,h⟩:=Gj h
   refine JLh (BL z) (Gw O (H4e e z c9) Qed ⟨O,O,G⟩) O (JLh (BL (!z)) (R2 (b:=z) O O) O (G8 (c8 (JCc O h (fun h hb=>?_) (fun h hb=>?_)))))
   ·
    refine Jr fun d0=>(JLm (BL false) O (G8 (d0 (Gs (fin1 BL h)))))
   ·
    refine Gn (c7 (Jr fun d1=>(JLm (I64 0) O (G8 (d1 (Gx ?_))))))
    obtain⟨d2,h⟩:=Qa h
    obtain⟨k1,d3,d4,b5,h⟩:=Jc8 h
    refine Hs (fun g (a0:Unit)=>upto k1 d3 ((k:Int).toNat - g) g a0=some r) (fun g a0=>[(1,Ee s),(3,Ej k),(4,Ej g)]) (fun g a0=>[]) (fun g=>(k:Int).toNat - g) 0 () h ⟨(.sm O O),G,O⟩ ?_
    clear h
    intro g a0 a5 l8 k2
    refine Js fun d5=>Jr fun d6=>(JLm (Ej g) O (JLm (Ej k) O (JLh (BL (decide ((g:Int) < (k:Int)))) (Jq O O O) O (G8 (d6 (Gp O (fun hb=>?_) (fun hb=>?_)))))))
    ·
     have a6:=J4e hb
     obtain⟨l3,d7,h⟩:=J36 a5 a6
     replace h:=Jbd d4 h
     refine Gn (d5 (Js fun d8=>Gx (Js fun d9=>?_)))
     obtain⟨l9,l,e0,e1,h⟩:=Rr h
     obtain⟨n,e2,h⟩:=Gj h
     obtain⟨q,e3,h⟩:=Gj h
     refine JC_d0 Ho (by kernel_rfl) (Dq (Ee s) (Gb Hh O O O) O (Dq (E3 s.Columns) (Ge Hn O O O) O (Dq (Ej g) (G7 O O) O (Dq (Eh l) (H0 (f:=G1.av) (xs:=s.Columns) (y:=l) O O O Hk e1 e0) O (Dq (Eh l) (Gb G46 O O O) O (Dq (I64 l.Bay) (Ge Gd O O O) O (Dq (Ee s) (Gb Hh O O O) O (Dq (E3 s.Columns) (Ge Hn O O O) O (Dq (Ej k) (G7 O O) O (Dq (Eh e) (H0 (f:=G1.av) (xs:=s.Columns) (y:=e) O O O Hk x O) O (Dq (Eh e) (Gb G46 O O O) O (Dq (I64 e.Bay) (Ge Gd O O O) O (Dq (BL (decide (l.Bay=e.Bay))) (Jk O O O) O ?_)))))))))))))
     refine Dq (BL (decide (l.Bay=e.Bay))) (G7 O O) O (Do (Ee s) [] O .sct G (fun hc=>Gb Hh O O O) O (Do (E3 s.Columns) [53] O .sct ⟨Ua,G⟩ (fun hc=>Ge Hn O O O) O (Do (Ej g) [] O .sct G (fun hc=>G7 O O) O (Do (Eh n) [54,55] O .sct ⟨Ua,Ua,G⟩ (fun hc=>(match R1 (H1 hc e2) with | ⟨_,hm_,hy_⟩=>H0 (f:=G1.av) (xs:=s.Columns) (y:=n) O O O Hk hy_ hm_)) O (Do (.dptr ((G1.cs n).drop 1)) [56] O .sct ⟨Ua,G⟩ (fun hc=>Gb G45 O O O) O (Do (I64 n.Row) [57] O .sct ⟨Ua,G⟩ (fun hc=>Ge Gd O O O) O (Do (Ee s) [] O .sct G (fun hc=>Gb Hh O O O) O (Do (E3 s.Columns) [59] O .sct ⟨Ua,G⟩ (fun hc=>Ge Hn O O O) O (Do (Ej k) [] O .sct G (fun hc=>G7 O O) O (Do (Eh e) [60,61] O .sct ⟨Ua,Ua,G⟩ (fun hc=>H0 (f:=G1.av) (xs:=s.Columns) (y:=e) O O O Hk x O) O (Do (.dptr ((G1.cs e).drop 1)) [62] O .sct ⟨Ua,G⟩ (fun hc=>Gb G45 O O O) O (Do (I64 e.Row) [63] O .sct ⟨Ua,G⟩ (fun hc=>Ge Gd O O O) O (Do (BL (decide (n.Row=e.Row))) [58,64] O .sct ⟨Ua,Ua,G⟩ (fun hc=>Jk O O O) O ?_)))))))))))))
     refine Dq (BL ((decide (l.Bay=e.Bay))&&(decide (n.Row=e.Row)))) (Jv O O O O) O (Dq (BL ((decide (l.Bay=e.Bay))&&(decide (n.Row=e.Row)))) (G7 O O) O (Do (Ee s) [] O .sct G (fun hc=>Gb Hh O O O) O (Do (E3 s.Columns) [68] O .sct ⟨Ua,G⟩ (fun hc=>Ge Hn O O O) O (Do (Ej g) [] O .sct G (fun hc=>G7 O O) O (Do (Eh q) [69,70] O .sct ⟨Ua,Ua,G⟩ (fun hc=>(match R1 (H1 hc e3) with | ⟨_,hm_,hy_⟩=>H0 (f:=G1.av) (xs:=s.Columns) (y:=q) O O O Hk hy_ hm_)) O (Do (.dptr ((G1.cs q).drop 2)) [71] O .sct ⟨Ua,G⟩ (fun hc=>Gb Z4 O O O) O (Do (BL q.Deck) [72] O .sct ⟨Ua,G⟩ (fun hc=>Ge Re O O O) O (Do (Ee s) [] O .sct G (fun hc=>Gb Hh O O O) O (Do (E3 s.Columns) [74] O .sct ⟨Ua,G⟩ (fun hc=>Ge Hn O O O) O (Do (Ej k) [] O .sct G (fun hc=>G7 O O) O (Do (Eh e) [75,76] O .sct ⟨Ua,Ua,G⟩ (fun hc=>H0 (f:=G1.av) (xs:=s.Columns) (y:=e) O O O Hk x O) O (Do (.dptr ((G1.cs e).drop 2)) [77] O .sct ⟨Ua,G⟩ (fun hc=>Gb Z4 O O O) O (Do (BL e.Deck) [78] O .sct ⟨Ua,G⟩ (fun hc=>Ge Re O O O) O ?_)))))))))))))
     refine Do (BL (q.Deck==e.Deck)) [73,79] O .sct ⟨Ua,Ua,G⟩ (fun hc=>Q5b Hed O O O) O (Dq (BL (((decide (l.Bay=e.Bay))&&(decide (n.Row=e.Row)))&&(q.Deck==e.Deck))) (Jv O O O O) O (Dnil (d9 (JCc O h (fun h hb=>?_) (fun h hb=>?_)))))
     ·
      refine Jr fun e4=>(JLm (BL false) O (G8 (e4 (Gs (fin1 BL h)))))
     ·
      refine Gn (d8 (G2 (JLm (Ej g) O (JLh (I64 ((g+1:Nat):Int)) (Jo (Hw a6 (Heb d2)) O O O) O (JLm (I64 ((g+1:Nat):Int)) O (G8 (k2 _ _ (g+1) () (app1 d7 h) (by omega) ⟨(.sm O O),G,rfl⟩)))))))
    ·
     have h:=app1 b5 (J37 a5 (H22 hb))
     refine Hy (c6 (G2 (JLm (Ej k) O (JLh (I64 ((k+1:Nat):Int)) (Jo (Hw c2 c5) O O O) O (JLm (I64 ((k+1:Nat):Int)) O (G8 (e8 _ _ (k+1) () (app1 k0 h) (by omega) ⟨(.sm O O),G,rfl⟩)))))))
  ·
   have h:=app1 c3 (J0 c1 (Hd hb))
   refine Hy (j5 (Js fun e5=>Jr fun e6=>(JLm (I64 0) O (G8 (e6 (Gx ?_))))))
   obtain⟨k3,e7,e9,b6,h⟩:=Jf h
   refine Hs (fun d (a1:Unit)=>each k3 e7 (List.drop d s.Covers) d a1=some r) (fun d a1=>[(1,Ee s),(5,Ej d)]) (fun d a1=>[]) (fun d=>s.Covers.length - d) 0 () h ⟨(.sm O O),G,O⟩ ?_
   clear h
   intro d a1 a7 m0 k4
   refine Js fun f0=>Jr fun f1=>(JLm (Ej d) O (JLh (.dptr ((G6.cs s).drop 1)) (Gb Jc O O O) O (JLh (E7 s.Covers) (Ge Ji O O O) O (JLl J7 O O O fun f2=>(JLh (BL (decide ((d:Int) < (s.Covers.length:Int)))) (Jq O O O) O (G8 (f1 (Gp O (fun hb=>?_) (fun hb=>?_)))))))))
   ·
    have a8:=Q4 hb
    obtain⟨a,l4,f3,f4,h⟩:=Hz a7 a8
    replace h:=Zi e9 h
    refine Gn (f0 (Js fun f5=>Gx (Jr fun f6=>(JLh (.dptr ((G6.cs s).drop 1)) (Gb Jc O O O) O (JLh (E7 s.Covers) (Ge Ji O O O) O (JLm (Ej d) O (JLh (.dptr [I64 a.Bay,E1 a.Rows]) (H0 (f:=Ga.av) (xs:=s.Covers) (y:=a) O O O J7 f3 O) O (JLh (.agg [I64 a.Bay,E1 a.Rows]) (Gt H2d O O O) O (JLh (.ptr 1092 0) (Jn 1092 2 Gff O O) O (J9 (u:=.junk) (He (u:=.agg [I64 a.Bay,E1 a.Rows]) (ds:=[I64 a.Bay,E1 a.Rows]) H95 O O O O O O O O) (G8 (f6 (Gu [(1,Ee s),(5,Ej d),(6,.dptr [I64 a.Bay,E1 a.Rows])] [] 1092 rfl rfl rfl G rfl (by exact⟨.conv (.same rfl),.conv (.same rfl),.ptr,G⟩) (Js fun f7=>?_))))))))))))))
    refine Jr fun f8=>(JLh (.dptr [I64 a.Bay,E1 a.Rows]) (Gb G1c O O O) O (JLh (I64 a.Bay) (Ge Gd O O O) O ?_))
    obtain⟨t,f9,h⟩:=Gj h
    refine JLh (BL t) (Gw O (J5 a.Bay 0 39 t f9) Yw ⟨O,O,O,O,O,O,G⟩) O (JLh (BL (!t)) (R2 (b:=t) O O) O (JLm (BL (!t)) O (JLo (.dptr [E1 a.Rows]) [] O .scf G (fun hc=>Gb Qk O O O) O (JLo (E1 a.Rows) [99] O .scf ⟨Ua,G⟩ (fun hc=>Ge Hq O O O) O (JLo (Ej a.Rows.length) [100] O .scf ⟨Ua,G⟩ (fun hc=>G2d (f:=I64) (xs:=a.Rows) Gz O O) O (JLo (BL (decide ((a.Rows.length:Int)=0))) [101] O .scf ⟨Ua,G⟩ (fun hc=>Jk O O O) O (JLh (BL ((!t)||(decide ((a.Rows.length:Int)=0)))) (Ya O O O O) O (G8 (f8 (JCc O h (fun h hb=>?_) (fun h hb=>?_)))))))))))
    ·
     refine Jr fun g0=>(JLm (BL false) O (G8 (g0 (Gs (fin1 BL h)))))
    ·
     refine Gn (f7 (Jr fun g1=>(JLm (I64 0) O (G8 (g1 (Gx ?_))))))
     obtain⟨k5,g2,g3,b7,h⟩:=Jf h
     refine Hs (fun c (a2:Unit)=>each k5 g2 (List.drop c a.Rows) c a2=some r) (fun c a2=>[(1,Ee s),(5,Ej d),(6,.dptr [I64 a.Bay,E1 a.Rows]),(7,Ej c)]) (fun c a2=>[]) (fun c=>a.Rows.length - c) 0 () h ⟨(.sm O O),G,rfl⟩ ?_
     clear h
     intro c a2 a9 m1 k6
     refine Js fun g4=>Jr fun g5=>(JLm (Ej c) O (JLh (.dptr [E1 a.Rows]) (Gb Qk O O O) O (JLh (E1 a.Rows) (Ge Hq O O O) O (JLl Gz O O O fun b9=>(JLh (BL (decide ((c:Int) < (a.Rows.length:Int)))) (Jq O O O) O (G8 (g5 (Gp O (fun hb=>?_) (fun hb=>?_)))))))))
     ·
      have b0:=Q4 hb
      obtain⟨i,l5,w,g6,h⟩:=Hz a9 b0
      replace h:=Zi g3 h
      refine Gn (g4 (Js fun g7=>Gx (Js fun g8=>Js fun g9=>?_)))
      obtain⟨o,h0,h⟩:=Gj h
      obtain⟨k7,h1,h⟩:=Gj h
      obtain⟨v,h2,h⟩:=Gj h
      refine JC_d0 Ho (by kernel_rfl) (Dq (.dptr [E1 a.Rows]) (Gb Qk O O O) O (Dq (E1 a.Rows) (Ge Hq O O O) O (Dq (Ej c) (G7 O O) O (Dq (.dptr [I64 i]) (H0 (f:=I64) (xs:=a.Rows) (y:=i) O O O Gz w O) O (Dq (I64 i) (Ge Gd O O O) O (Dq (BL o) (Gw (args:=[I64 i,I64 0,I64 30]) O (J5 i 0 30 o h0) Yw ⟨O,O,O,O,O,O,G⟩) O (Dq (BL (!o)) (R2 (b:=o) O O) O (Dq (BL (!o)) (G7 O O) O (Do (Ej c) [] O .scf G (fun hc=>G7 O O) O (Do (BL (decide (0 < (c:Int)))) [119] O .scf ⟨Ua,G⟩ (fun hc=>G08 O O O) O (Do (BL (decide (0 < (c:Int)))) [120] O .scf ⟨Ua,G⟩ (fun hc=>G7 O O) O (Do (.dptr [E1 a.Rows]) [] O .optt G (fun hc=>Gb Qk O O O) O (Do (E1 a.Rows) [122] O .optt ⟨Ua,G⟩ (fun hc=>Ge Hq O O O) O ?_)))))))))))))
      refine Do (Ej c) [] O .optt G (fun hc=>G7 O O) O (Do (I64 k7) [124] O .optt ⟨Ua,G⟩ (fun hc=>H90 (G65 (H1 hc h1)) O O O) O (Do (.dptr [I64 v]) [123,125] O .optt ⟨Ua,Ua,G⟩ (fun hc=>(match R1 (H1 hc h2) with | ⟨_,hm_,hy_⟩=>H0 (f:=I64) (xs:=a.Rows) (y:=v) O O O Gz hy_ hm_)) O (Do (I64 v) [126] O .optt ⟨Ua,G⟩ (fun hc=>Ge Gd O O O) O (Do (.dptr [E1 a.Rows]) [] O .optt G (fun hc=>Gb Qk O O O) O (Do (E1 a.Rows) [128] O .optt ⟨Ua,G⟩ (fun hc=>Ge Hq O O O) O (Do (Ej c) [] O .optt G (fun hc=>G7 O O) O (Do (.dptr [I64 i]) [129,130] O .optt ⟨Ua,Ua,G⟩ (fun hc=>H0 (f:=I64) (xs:=a.Rows) (y:=i) O O O Gz w O) O (Do (I64 i) [131] O .optt ⟨Ua,G⟩ (fun hc=>Ge Gd O O O) O (Do (BL (decide (i≤v))) [127,132] O .optt ⟨Ua,Ua,G⟩ (fun hc=>G4b O O O) O (Dg (.opt (!(!o)) (BL ((decide (0 < (c:Int)))&&(decide (i≤v))))) (Gk [(121,BL (decide (0 < (c:Int)))),(133,_)] O O O .scf ⟨.all id,.part,G⟩ (fun hc=>Jv O O O O) O) O (Dq (BL ((!o)||((decide (0 < (c:Int)))&&(decide (i≤v))))) (Ya O O O O) O (Dnil ?_))))))))))))
      refine g9 (JCc O h (fun h hb=>?_) (fun h hb=>?_))
      ·
       refine Jr fun h3=>(JLm (BL false) O (G8 (h3 (Gs (fin1 BL h)))))
      ·
       refine Gn (g8 (Jr fun h4=>(JLm (I64 0) O (G8 (h4 (Gx ?_))))))
       obtain⟨h5,h⟩:=Qa h
       obtain⟨k8,h6,h7,c0,h⟩:=Jc8 h
       refine Hs (fun j (a3:Unit)=>upto k8 h6 ((d:Int).toNat - j) j a3=some r) (fun j a3=>[(1,Ee s),(5,Ej d),(6,.dptr [I64 a.Bay,E1 a.Rows]),(7,Ej c),(8,Ej j)]) (fun j a3=>[]) (fun j=>(d:Int).toNat - j) 0 () h ⟨(.sm O O),G,rfl⟩ ?_
       clear h
       intro j a3 b1 m2 k9
       refine Js fun h8=>Jr fun h9=>(JLm (Ej j) O (JLm (Ej d) O (JLh (BL (decide ((j:Int) < (d:Int)))) (Jq O O O) O (G8 (h9 (Gp O (fun hb=>?_) (fun hb=>?_)))))))
       ·
        have b2:=J4e hb
        obtain⟨l6,i0,h⟩:=J36 b1 b2
        replace h:=Jbd h7 h
        refine Gn (h8 (Js fun i1=>Gx (Js fun i2=>?_)))
        obtain⟨m3,m,i3,i4,h⟩:=Rr h
        obtain⟨p,i5,h⟩:=Gj h
        obtain⟨b3,i6,h⟩:=Gj h
        refine JC_d0 Ho (by kernel_rfl) (Dq (.dptr ((G6.cs s).drop 1)) (Gb Jc O O O) O (Dq (E7 s.Covers) (Ge Ji O O O) O (Dq (Ej j) (G7 O O) O (Dq (.dptr [I64 m.Bay,E1 m.Rows]) (H0 (f:=Ga.av) (xs:=s.Covers) (y:=m) O O O J7 i4 i3) O (Dq (.dptr [I64 m.Bay,E1 m.Rows]) (Gb G1c O O O) O (Dq (I64 m.Bay) (Ge Gd O O O) O (Dq (.dptr [I64 a.Bay,E1 a.Rows]) (Gb G1c O O O) O (Dq (I64 a.Bay) (Ge Gd O O O) O (Dq (BL (decide (m.Bay=a.Bay))) (Jk O O O) O (Dq (BL (decide (m.Bay=a.Bay))) (G7 O O) O (Do (.dptr ((G6.cs s).drop 1)) [] O .sct G (fun hc=>Gb Jc O O O) O (Do (E7 s.Covers) [151] O .sct ⟨Ua,G⟩ (fun hc=>Ge Ji O O O) O (Do (Ej j) [] O .sct G (fun hc=>G7 O O) O ?_)))))))))))))
        refine Do (.dptr [I64 p.Bay,E1 p.Rows]) [152,153] O .sct ⟨Ua,Ua,G⟩ (fun hc=>(match R1 (H1 hc i5) with | ⟨_,hm_,hy_⟩=>H0 (f:=Ga.av) (xs:=s.Covers) (y:=p) O O O J7 hy_ hm_)) O (Do (.dptr [E1 p.Rows]) [154] O .sct ⟨Ua,G⟩ (fun hc=>Gb Qk O O O) O (Do (E1 p.Rows) [155] O .sct ⟨Ua,G⟩ (fun hc=>Ge Hq O O O) O (Do (.dptr [E1 a.Rows]) [] O .sct G (fun hc=>Gb Qk O O O) O (Do (E1 a.Rows) [157] O .sct ⟨Ua,G⟩ (fun hc=>Ge Hq O O O) O (Do (Ej c) [] O .sct G (fun hc=>G7 O O) O (Do (.dptr [I64 i]) [158,159] O .sct ⟨Ua,Ua,G⟩ (fun hc=>H0 (f:=I64) (xs:=a.Rows) (y:=i) O O O Gz w O) O (Do (I64 i) [160] O .sct ⟨Ua,G⟩ (fun hc=>Ge Gd O O O) O (Do (BL b3) [156,161] O .sct ⟨Ua,Ua,G⟩ (fun hc=>Gw (args:=[E1 p.Rows,I64 i]) O (G9c p.Rows i b3 (H1 hc i6)) J99 ⟨O,O,O,O,G⟩) O (Dq (BL ((decide (m.Bay=a.Bay))&&b3)) (Jv O O O O) O (Dnil ?_))))))))))
        refine i2 (JCc O h (fun h hb=>?_) (fun h hb=>?_))
        ·
         refine Jr fun i7=>(JLm (BL false) O (G8 (i7 (Gs (fin1 BL h)))))
        ·
         refine Gn (i1 (G2 (JLm (Ej j) O (JLh (I64 ((j+1:Nat):Int)) (Jo (Hw b2 (Heb h5)) O O O) O (JLm (I64 ((j+1:Nat):Int)) O (G8 (k9 _ _ (j+1) () (app1 i0 h) (by omega) ⟨(.sm O O),G,rfl⟩)))))))
       ·
        have h:=app1 c0 (J37 b1 (H22 hb))
        refine Hy (g7 (G2 (JLm (Ej c) O (JLh (I64 ((c+1:Nat):Int)) (Jo (Hw b0 b9) O O O) O (JLm (I64 ((c+1:Nat):Int)) O (G8 (k6 _ _ (c+1) () (app1 g6 h) (by omega) ⟨(.sm O O),G,rfl⟩)))))))
     ·
      have h:=app1 b7 (J0 a9 (Hd hb))
      refine Hy (f5 (G2 (JLm (Ej d) O (JLh (I64 ((d+1:Nat):Int)) (Jo (Hw a8 f2) O O O) O (JLm (I64 ((d+1:Nat):Int)) O (G8 (k4 _ _ (d+1) () (app1 f4 h) (by omega) ⟨(.sm O O),G,rfl⟩)))))))
   ·
    have h:=app1 b6 (J0 a7 (Hd hb))
    refine Hy (e5 (Jr fun i9=>(JLm (BL true) O (G8 (i9 (Gs (fin1 BL h)))))))

def Qe (boxes:List Box) (id_:Int):Option (Box×Bool):=
 each (fun a d (c:Unit) b=>
  bif decide (a.ID=id_) then
  (some (a,true))
  else
  (b ()))
 (fun(c:Unit)=>
  some ((Box.mk 0 ByteArray.empty 0 false 0 0 0 0 false),false)) boxes 0 ()
theorem G06 (boxes:List Box) (id_:Int) (r:Box×Bool) (h:Qe boxes id_=some r):Pure Ek 31 [E8 boxes,I64 id_] (·=.tup [.agg (Box.cs r.1),BL r.2]):=by
 unfold Qe at h
 refine H3 [.cell 4 84,.tmp 5] Tryz.func31 O O (Jr fun t=>(JLh (.ptr 1044 0) (G8f 1044 [I64 0,ST Kv,U8 0,BL false,I64 0,I64 0,I64 0,U8 0,BL false] [E0,.string ByteArray.empty,.int .u8 0,.bool false,E0,E0,E0,.int .u8 0,.bool false] G7a (zzQ O) O O) O (JLm (BL false) O (G8 (t (Js fun v=>Jr fun w=>(JLm (I64 0) O (G8 (w (Gx ?_))))))))))
 obtain⟨x,j,k,i,h⟩:=Jf h
 refine Hs (fun a (c:Unit)=>each x j (List.drop a boxes) a c=some r) (fun a c=>[(0,E8 boxes),(1,I64 id_),(4,.ptr 1044 0),(6,Ej a)]) (fun a c=>[(1044,.box 84 [I64 0,ST Kv,U8 0,BL false,I64 0,I64 0,I64 0,U8 0,BL false])]) (fun a=>boxes.length - a) 0 () h ⟨(.sm O O),⟨fbQ O (.sm O O),G⟩,rfl⟩ ?_
 clear h
 intro a c d a2 z
 refine Js fun l=>Jr fun m=>(JLm (Ej a) O (JLm (E8 boxes) O (JLl G57 O O O fun a0=>(JLh (BL (decide ((a:Int) < (boxes.length:Int)))) (Jq O O O) O (G8 (m (Gp O (fun hb=>?_) (fun hb=>?_))))))))
 ·
  have e:=Q4 hb
  obtain⟨b,a1,g,n,h⟩:=Hz d e
  replace h:=Zi k h
  refine Gn (l (Js fun o=>Gx (Jr fun p=>(JLm (E8 boxes) O (JLm (Ej a) O (JLh (Eg b) (H0 (f:=Box.av) (xs:=boxes) (y:=b) O O O G57 g O) O (JLh (Eg b) (Gb G6e O O O) O (JLh (I64 b.ID) (Ge Gd O O O) O (JLm (I64 id_) O (JLh (BL (decide (b.ID=id_))) (Jk O O O) O (G8 (p (JCc O h (fun h hb=>?_) (fun h hb=>?_))))))))))))))
  ·
   refine Jr fun q=>(JLm (E8 boxes) O (JLm (Ej a) O (JLh (Eg b) (H0 (f:=Box.av) (xs:=boxes) (y:=b) O O O G57 g O) O (JLh (.agg (Box.cs b)) (Gt Yf O O O) O (J9 (u:=.junk) (He (u:=.agg (Box.cs b)) (ds:=(Box.cs b)) Rk O O O O O O O O) (JLm (BL true) O (G8 (q (Gs (⟨[.agg (Box.cs b),BL true],[],G,O,⟨⟨_,⟨_,_,_,_,O,O,O,.inl ⟨Yf,O⟩⟩,.conv (.same O)⟩,⟨_,O,.conv (.same O)⟩,G⟩,O,congrArg (fun r:Box×Bool=>(.tup [.agg (Box.cs r.1),BL r.2]:AV)) (M2 h)⟩))))))))))
  ·
   refine Gn (o (G2 (JLm (Ej a) O (JLh (I64 ((a+1:Nat):Int)) (Jo (Hw e a0) O O O) O (JLm (I64 ((a+1:Nat):Int)) O (G8 (z _ _ (a+1) () (app1 n h) (by omega) ⟨(.sm O O),⟨fbQ O (.sm O O),G⟩,rfl⟩)))))))
 ·
  have h:=app1 i (J0 d (Hd hb))
  refine Hy (v ?_)
  refine Jr fun s=>(JLh (.agg [I64 0,ST Kv,U8 0,BL false,I64 0,I64 0,I64 0,U8 0,BL false]) (Hj (cs:=[I64 0,ST Kv,U8 0,BL false,I64 0,I64 0,I64 0,U8 0,BL false]) [(0,1),(1,1),(2,1),(3,1),(4,1),(5,1),(6,1),(7,1),(8,1)] [I64 0,ST Kv,U8 0,BL false,I64 0,I64 0,I64 0,U8 0,BL false] [E0,.string ByteArray.empty,.int .u8 0,.bool false,E0,E0,E0,.int .u8 0,.bool false] Gd0 G7a (zzQ O) O O) O (J9 (u:=.junk) (He (u:=.agg [I64 0,ST Kv,U8 0,BL false,I64 0,I64 0,I64 0,U8 0,BL false]) (ds:=[I64 0,ST Kv,U8 0,BL false,I64 0,I64 0,I64 0,U8 0,BL false]) Rk O O O O O O O O) (JLm (BL false) O (G8 (s ?_)))))
  refine Gs (⟨[.agg [I64 0,ST Kv,U8 0,BL false,I64 0,I64 0,I64 0,U8 0,BL false],BL false],[],G,O,⟨⟨_,⟨_,_,_,_,O,O,O,.inl ⟨Yf,O⟩⟩,.conv (.same O)⟩,⟨_,O,.conv (.same O)⟩,G⟩,O,congrArg (fun r:Box×Bool=>(.tup [.agg (Box.cs r.1),BL r.2]:AV)) (M2 h)⟩)

def Y8 (s:G6) (x:Slot) (size:Int):Option Bool:=
 bnd (bif (!(((decide (x.G1 < 0))||(decide ((s.Columns.length:Int)≤x.G1)))||(decide (x.Tier < 0)))) then Qr s.Columns x.G1 some else some default) fun a=>
 bif ((((decide (x.G1 < 0))||(decide ((s.Columns.length:Int)≤x.G1)))||(decide (x.Tier < 0)))||(decide (a.Tiers≤x.Tier))) then
 (some false)
 else
 (some (((decide (size=40))&&(decide (x.Half=0)))||((decide (size=20))&&((decide (x.Half=1))||(decide (x.Half=2))))))
theorem Gae (s:G6) (x:Slot) (size:Int) (r:Bool) (h:Y8 s x size=some r):Pure Ek 60 [.agg (G6.cs s),.agg [I64 x.G1,I64 x.Tier,U8 x.Half],I64 size] (·=BL r):=by
 unfold Y8 at h
 refine H3 [.tmp 6] Tryz.func60 O O (Jr fun b=>(JLh (.ptr 1093 0) (Ju (cs:=(G6.cs s)) 1093 O O O O O) O (JLh (.ptr 1094 0) (Ju (cs:=[I64 x.G1,I64 x.Tier,U8 x.Half]) 1094 O O O O O) O (JLm (BL false) O (G8 (b (Gu [(2,I64 size),(3,Ee s),(4,.ptr 1094 0)] [(1094,.box 50 [I64 x.G1,I64 x.Tier,U8 x.Half])] 1093 rfl rfl rfl ⟨⟨_,rfl,.boxEq rfl rfl⟩,G⟩ rfl (by exact⟨.conv (.same rfl),.ptr,.conv (.same rfl),G⟩) ?_)))))))
 refine Gu [(2,I64 size),(3,Ee s),(4,.dptr [I64 x.G1,I64 x.Tier,U8 x.Half])] [] 1094 rfl rfl rfl G rfl (by exact⟨.conv (.same rfl),.conv (.same rfl),.ptr,G⟩) (Js fun c=>Js fun d=>?_)
 obtain⟨a,e,h⟩:=Gj h
 refine JC_d0 Ho (by kernel_rfl) (Dq (.dptr [I64 x.G1,I64 x.Tier,U8 x.Half]) (Gb Hu O O O) O (Dq (I64 x.G1) (Ge Gd O O O) O (Dq (BL (decide (x.G1 < 0))) (Jq O O O) O (Dq (BL (decide (x.G1 < 0))) (G7 O O) O (Do (.dptr [I64 x.G1,I64 x.Tier,U8 x.Half]) [] O .scf G (fun hc=>Gb Hu O O O) O (Do (I64 x.G1) [11] O .scf ⟨Ua,G⟩ (fun hc=>Ge Gd O O O) O (Do (Ee s) [] O .scf G (fun hc=>Gb Hh O O O) O (Do (E3 s.Columns) [13] O .scf ⟨Ua,G⟩ (fun hc=>Ge Hn O O O) O (Do (Ej s.Columns.length) [14] O .scf ⟨Ua,G⟩ (fun hc=>G2d (f:=G1.av) (xs:=s.Columns) Hk O O) O (Do (BL (decide ((s.Columns.length:Int)≤x.G1))) [12,15] O .scf ⟨Ua,Ua,G⟩ (fun hc=>G4b O O O) O (Dq (BL ((decide (x.G1 < 0))||(decide ((s.Columns.length:Int)≤x.G1)))) (Ya O O O O) O (Dq (BL ((decide (x.G1 < 0))||(decide ((s.Columns.length:Int)≤x.G1)))) (G7 O O) O (Do (.dptr [I64 x.Tier,U8 x.Half]) [] O .scf G (fun hc=>Gb Qm O O O) O ?_)))))))))))))
 refine Do (I64 x.Tier) [19] O .scf ⟨Ua,G⟩ (fun hc=>Ge Gd O O O) O (Do (BL (decide (x.Tier < 0))) [20] O .scf ⟨Ua,G⟩ (fun hc=>Jq O O O) O (Dq (BL (((decide (x.G1 < 0))||(decide ((s.Columns.length:Int)≤x.G1)))||(decide (x.Tier < 0)))) (Ya O O O O) O (Dq (BL (((decide (x.G1 < 0))||(decide ((s.Columns.length:Int)≤x.G1)))||(decide (x.Tier < 0)))) (G7 O O) O (Do (.dptr [I64 x.Tier,U8 x.Half]) [] O .scf G (fun hc=>Gb Qm O O O) O (Do (I64 x.Tier) [24] O .scf ⟨Ua,G⟩ (fun hc=>Ge Gd O O O) O (Do (Ee s) [] O .scf G (fun hc=>Gb Hh O O O) O (Do (E3 s.Columns) [26] O .scf ⟨Ua,G⟩ (fun hc=>Ge Hn O O O) O (Do (.dptr [I64 x.G1,I64 x.Tier,U8 x.Half]) [] O .scf G (fun hc=>Gb Hu O O O) O (Do (I64 x.G1) [28] O .scf ⟨Ua,G⟩ (fun hc=>Ge Gd O O O) O (Do (Eh a) [27,29] O .scf ⟨Ua,Ua,G⟩ (fun hc=>(match R1 (H1 hc e) with | ⟨_,hm_,hy_⟩=>H0 (f:=G1.av) (xs:=s.Columns) (y:=a) O O O Hk hy_ hm_)) O (Do (.dptr ((G1.cs a).drop 3)) [30] O .scf ⟨Ua,G⟩ (fun hc=>Gb G70 O O O) O (Do (I64 a.Tiers) [31] O .scf ⟨Ua,G⟩ (fun hc=>Ge Gd O O O) O (Do (BL (decide (a.Tiers≤x.Tier))) [25,32] O .scf ⟨Ua,Ua,G⟩ (fun hc=>G4b O O O) O ?_)))))))))))))
 refine Dq (BL ((((decide (x.G1 < 0))||(decide ((s.Columns.length:Int)≤x.G1)))||(decide (x.Tier < 0)))||(decide (a.Tiers≤x.Tier)))) (Ya O O O O) O (Dnil (d (JCc O h (fun h hb=>?_) (fun h hb=>?_))))
 ·
  refine Jr fun g=>(JLm (BL false) O (G8 (g (Gs (fin1 BL h)))))
 ·
  refine Gn (c (Jr fun i=>(JLm (I64 size) O (JLh (BL (decide (size=40))) (Jk O O O) O (JLm (BL (decide (size=40))) O (JLo (.dptr [U8 x.Half]) [] O .sct G (fun hc=>Gb Je O O O) O (JLo (U8 x.Half) [38] O .sct ⟨Ua,G⟩ (fun hc=>Ge Hm O O O) O (JLo (BL (decide (x.Half=0))) [39] O .sct ⟨Ua,G⟩ (fun hc=>Jk O O O) O (JLh (BL ((decide (size=40))&&(decide (x.Half=0)))) (Jv O O O O) O (JLm (BL ((decide (size=40))&&(decide (x.Half=0)))) O (JLo (I64 size) [] O .scf G (fun hc=>G7 O O) O (JLo (BL (decide (size=20))) [43] O .scf ⟨Ua,G⟩ (fun hc=>Jk O O O) O (JLo (BL (decide (size=20))) [44] O .scf ⟨Ua,G⟩ (fun hc=>G7 O O) O (JLo (.dptr [U8 x.Half]) [] O .optt G (fun hc=>Gb Je O O O) O (JLo (U8 x.Half) [46] O .optt ⟨Ua,G⟩ (fun hc=>Ge Hm O O O) O ?_)))))))))))))))
  refine JLo (BL (decide (x.Half=1))) [47] O .optt ⟨Ua,G⟩ (fun hc=>Jk O O O) O (JLo (BL (decide (x.Half=1))) [48] O .optt ⟨Ua,G⟩ (fun hc=>G7 O O) O (JLo (.dptr [U8 x.Half]) [] O .optf G (fun hc=>Gb Je O O O) O (JLo (U8 x.Half) [50] O .optf ⟨Ua,G⟩ (fun hc=>Ge Hm O O O) O (JLo (BL (decide (x.Half=2))) [51] O .optf ⟨Ua,G⟩ (fun hc=>Jk O O O) O (Gf (u:=BL ((decide (x.Half=1))||(decide (x.Half=2)))) [(49,BL (decide (x.Half=1))),(52,_)] O O O .optt ⟨.all id,.part,G⟩ (fun hc=>Ya O O O O) ?_)))))
  refine Gf (u:=BL ((decide (size=20))&&((decide (x.Half=1))||(decide (x.Half=2))))) [(45,BL (decide (size=20))),(53,_)] O O O .scf ⟨.all id,.part,G⟩ (fun hc=>Jv O O O O) ?_
  refine JLh (BL (((decide (size=40))&&(decide (x.Half=0)))||((decide (size=20))&&((decide (x.Half=1))||(decide (x.Half=2)))))) (Ya O O O O) O (JLm (BL (((decide (size=40))&&(decide (x.Half=0)))||((decide (size=20))&&((decide (x.Half=1))||(decide (x.Half=2)))))) O (G8 (i (Gs (fin1 BL h)))))

def Y6 (l:List G3):Option (List Slot):=
 each (fun b d (a:(List Slot)) c=>
  need (decide ((a.length+[b.Slot].length)*24≤140737488355328∧a.length+[b.Slot].length≤maxLen)) <|
  c (a++[b.Slot]))
 (fun(a:(List Slot))=>
  some a) l 0 []
theorem Gac (l:List G3) (r:(List Slot)) (h:Y6 l=some r):Pure Ek 62 [E2 l] (·=E9 r):=by
 unfold Y6 at h
 refine H3 [.tmp 2] Tryz.func62 O O (Jr fun t=>(JLh (E9 ([]:List Slot)) (Jb 3 O O) O (G8 (t (Jr fun u=>(JLh (OW 1096 3 Slot.av ([]:List Slot)) (Gb9 1096 50 3 O O O) O (G8 (u (Js fun v=>Jr fun w=>(JLm (I64 0) O (G8 (w (Gx ?_)))))))))))))
 obtain⟨x,i,j,g,h⟩:=Jf h
 refine Hs (fun a (b:(List Slot))=>each x i (List.drop a l) a b=some r) (fun a b=>[(0,E2 l),(3,OW 1096 3 Slot.av b),(4,Ej a)]) (fun a b=>[(1096,.spare 50 3 b.length b.length)]) (fun a=>l.length - a) 0 [] h ⟨(.sm O O),⟨⟨_,O,.same⟩,G⟩,O⟩ ?_
 clear h
 intro a b d a2 z
 refine Js fun k=>Jr fun m=>(JLm (Ej a) O (JLm (E2 l) O (JLl H6 O O O fun a0=>(JLh (BL (decide ((a:Int) < (l.length:Int)))) (Jq O O O) O (G8 (m (Gp O (fun hb=>?_) (fun hb=>?_))))))))
 ·
  have e:=Q4 hb
  obtain⟨c,a1,n,o,h⟩:=Hz d e
  replace h:=Zi j h
  refine Gn (k (Js fun p=>Gx (G2 (JLm (OW 1096 3 Slot.av b) O (JLm (E2 l) O (JLm (Ej a) O (JLh (Ef c) (H0 (f:=G3.av) (xs:=l) (y:=c) O O O H6 n O) O (JLh (.dptr ((G3.cs c).drop 1)) (Gb J1 O O O) O (JLh (.agg ((G3.cs c).drop 1)) (Gt Hx O O O) O (JLh (E9 [c.Slot]) (J2 (xs:=[.agg ((G3.cs c).drop 1)]) O ⟨O,O,G⟩ Rj G19 O O O O) O ?_))))))))))
  obtain⟨q,h⟩:=Qa h
  refine JLh (OW 1096 3 Slot.av (b++[c.Slot])) (Z1 (f:=Slot.av) (xs:=b) (ys:=[c.Slot]) O O O O Rj J18 q (fun _=>O) (.inl O) O) O (JLm (OW 1096 3 Slot.av (b++[c.Slot])) O (G8 (p (G2 (JLm (Ej a) O (JLh (I64 ((a+1:Nat):Int)) (Jo (Hw e a0) O O O) O (JLm (I64 ((a+1:Nat):Int)) O (G8 (z _ _ (a+1) (b++[c.Slot]) (app1 o h) (by omega) ⟨(.sm O O),⟨⟨_,rfl,.same⟩,G⟩,rfl⟩)))))))))
 ·
  have h:=app1 g (J0 d (Hd hb))
  refine Hy (v (Jr fun s=>(JLm (OW 1096 3 Slot.av b) O (JLm (OW 1096 3 Slot.av b) O (G8 (s (Gs (fin1l (fun r:(List Slot)=>(E9 r:AV)) h))))))))

def Rg (l:List Slot) (x:Slot) (half:Int):Option Bool:=
 each (fun a e (c:Unit) b=>
  bnd (bif decide (a.G1=x.G1) then chk (x.Tier - 1) some else some 0) fun d=>
  bif (((decide (a.G1=x.G1))&&(decide (a.Tier=d)))&&(decide (a.Half=half))) then
  (some true)
  else
  (b ()))
 (fun(c:Unit)=>
  some false) l 0 ()
theorem G16 (l:List Slot) (x:Slot) (half:Int) (r:Bool) (h:Rg l x half=some r):Pure Ek 110 [E9 l,.agg [I64 x.G1,I64 x.Tier,U8 x.Half],U8 half] (·=BL r):=by
 unfold Rg at h
 refine H3 [.tmp 6] Tryz.func110 O O (Jr fun z=>(JLh (.ptr 1133 0) (Ju (cs:=[I64 x.G1,I64 x.Tier,U8 x.Half]) 1133 O O O O O) O (JLm (BL false) O (G8 (z (Gu [(0,E9 l),(2,U8 half),(4,.dptr [I64 x.G1,I64 x.Tier,U8 x.Half])] [] 1133 rfl rfl rfl G rfl (by exact⟨.conv (.same rfl),.conv (.same rfl),.ptr,G⟩) (Js fun a0=>Jr fun a1=>(JLm (I64 0) O (G8 (a1 (Gx ?_)))))))))))
 obtain⟨a2,k,m,j,h⟩:=Jf h
 refine Hs (fun b (e:Unit)=>each a2 k (List.drop b l) b e=some r) (fun b e=>[(0,E9 l),(2,U8 half),(4,.dptr [I64 x.G1,I64 x.Tier,U8 x.Half]),(7,Ej b)]) (fun b e=>[]) (fun b=>l.length - b) 0 () h ⟨(.sm O O),G,rfl⟩ ?_
 clear h
 intro b e g a5 a3
 refine Js fun n=>Jr fun o=>(JLm (Ej b) O (JLm (E9 l) O (JLl Rj O O O fun p=>(JLh (BL (decide ((b:Int) < (l.length:Int)))) (Jq O O O) O (G8 (o (Gp O (fun hb=>?_) (fun hb=>?_))))))))
 ·
  have i:=Q4 hb
  obtain⟨a,a4,d,q,h⟩:=Hz g i
  replace h:=Zi m h
  refine Gn (n (Js fun s=>Gx (Js fun t=>?_)))
  obtain⟨c,u,h⟩:=Gj h
  refine JC_d0 Ho (by kernel_rfl) (Dq (E9 l) (G7 O O) O (Dq (Ej b) (G7 O O) O (Dq (Ei a) (H0 (f:=Slot.av) (xs:=l) (y:=a) O O O Rj d O) O (Dq (Ei a) (Gb Hu O O O) O (Dq (I64 a.G1) (Ge Gd O O O) O (Dq (.dptr [I64 x.G1,I64 x.Tier,U8 x.Half]) (Gb Hu O O O) O (Dq (I64 x.G1) (Ge Gd O O O) O (Dq (BL (decide (a.G1=x.G1))) (Jk O O O) O (Dq (BL (decide (a.G1=x.G1))) (G7 O O) O (Do (E9 l) [] O .sct G (fun hc=>G7 O O) O (Do (Ej b) [] O .sct G (fun hc=>G7 O O) O (Do (Ei a) [23,24] O .sct ⟨Ua,Ua,G⟩ (fun hc=>H0 (f:=Slot.av) (xs:=l) (y:=a) O O O Rj d O) O (Do (.dptr [I64 a.Tier,U8 a.Half]) [25] O .sct ⟨Ua,G⟩ (fun hc=>Gb Qm O O O) O ?_)))))))))))))
  refine Do (I64 a.Tier) [26] O .sct ⟨Ua,G⟩ (fun hc=>Ge Gd O O O) O (Do (.dptr [I64 x.Tier,U8 x.Half]) [] O .sct G (fun hc=>Gb Qm O O O) O (Do (I64 x.Tier) [28] O .sct ⟨Ua,G⟩ (fun hc=>Ge Gd O O O) O (Do (I64 c) [29] O .sct ⟨Ua,G⟩ (fun hc=>H90 (G65 (H1 hc u)) O O O) O (Do (BL (decide (a.Tier=c))) [27,30] O .sct ⟨Ua,Ua,G⟩ (fun hc=>Jk O O O) O (Dq (BL ((decide (a.G1=x.G1))&&(decide (a.Tier=c)))) (Jv O O O O) O (Dq (BL ((decide (a.G1=x.G1))&&(decide (a.Tier=c)))) (G7 O O) O (Do (E9 l) [] O .sct G (fun hc=>G7 O O) O (Do (Ej b) [] O .sct G (fun hc=>G7 O O) O (Do (Ei a) [34,35] O .sct ⟨Ua,Ua,G⟩ (fun hc=>H0 (f:=Slot.av) (xs:=l) (y:=a) O O O Rj d O) O (Do (.dptr [U8 a.Half]) [36] O .sct ⟨Ua,G⟩ (fun hc=>Gb Je O O O) O (Do (U8 a.Half) [37] O .sct ⟨Ua,G⟩ (fun hc=>Ge Hm O O O) O (Do (U8 half) [] O .sct G (fun hc=>G7 O O) O (Do (BL (decide (a.Half=half))) [38,39] O .sct ⟨Ua,Ua,G⟩ (fun hc=>Jk O O O) O ?_)))))))))))))
  refine Dq (BL (((decide (a.G1=x.G1))&&(decide (a.Tier=c)))&&(decide (a.Half=half)))) (Jv O O O O) O (Dnil (t (JCc O h (fun h hb=>?_) (fun h hb=>?_))))
  ·
   refine Jr fun v=>(JLm (BL true) O (G8 (v (Gs (fin1 BL h)))))
  ·
   refine Gn (s (G2 (JLm (Ej b) O (JLh (I64 ((b+1:Nat):Int)) (Jo (Hw i p) O O O) O (JLm (I64 ((b+1:Nat):Int)) O (G8 (a3 _ _ (b+1) () (app1 q h) (by omega) ⟨(.sm O O),G,rfl⟩)))))))
 ·
  have h:=app1 j (J0 g (Hd hb))
  refine Hy (a0 (Jr fun w=>(JLm (BL false) O (G8 (w (Gs (fin1 BL h)))))))

def Yi (x:Slot) (l:List Slot):Option Bool:=
 bif decide (x.Tier≤0) then
 (some true)
 else
 (bif decide (x.Half=0) then
  (bnd (Rg l x 0) fun a=>
   bnd (bif (!a) then Rg l x 1 else some default) fun b=>
   bnd (bif ((!a)&&b) then Rg l x 2 else some default) fun c=>
   some (a||(b&&c)))
  else
  (bnd (Rg l x x.Half) fun d=>
   some d))
theorem Gcb (x:Slot) (l:List Slot) (r:Bool) (h:Yi x l=some r):Pure Ek 61 [.agg [I64 x.G1,I64 x.Tier,U8 x.Half],E9 l] (·=BL r):=by
 unfold Yi at h
 refine H3 [.tmp 4] Tryz.func61 O O (Jr fun i=>(JLh (.ptr 1095 0) (Ju (cs:=[I64 x.G1,I64 x.Tier,U8 x.Half]) 1095 O O O O O) O (JLm (BL false) O (G8 (i (Gu [(1,E9 l),(2,.dptr [I64 x.G1,I64 x.Tier,U8 x.Half])] [] 1095 rfl rfl rfl G rfl (by exact⟨.conv (.same rfl),.ptr,G⟩) (Js fun j=>Jr fun k=>(JLh (.dptr [I64 x.Tier,U8 x.Half]) (Gb Qm O O O) O (JLh (I64 x.Tier) (Ge Gd O O O) O (JLh (BL (decide (x.Tier≤0))) (H61 O O O) O (G8 (k (JCc O h (fun h hb=>?_) (fun h hb=>?_))))))))))))))
 ·
  refine Jr fun m=>(JLm (BL true) O (G8 (m (Gs (fin1 BL h)))))
 ·
  refine Gn (j (Js fun n=>Jr fun o=>(JLh (.dptr [U8 x.Half]) (Gb Je O O O) O (JLh (U8 x.Half) (Ge Hm O O O) O (JLh (BL (decide (x.Half=0))) (Jk O O O) O (G8 (o (JCc O h (fun h hb=>?_) (fun h hb=>?_)))))))))
  ·
   refine Jr fun p=>(JLm (E9 l) O (JLh (.agg [I64 x.G1,I64 x.Tier,U8 x.Half]) (Gt Hx O O O) O ?_))
   obtain⟨c,q,h⟩:=Gj h
   refine JLh (BL c) (Gw O (G16 l x 0 c q) H51 ⟨O,O,O,O,O,O,G⟩) O (JLm (BL c) O (JLo (E9 l) [] O .scf G (fun hc=>G7 O O) O (JLo (.agg [I64 x.G1,I64 x.Tier,U8 x.Half]) [] O .scf G (fun hc=>Gt Hx O O O) O ?_)))
   obtain⟨b,s,h⟩:=Gj h
   refine JLo (BL b) [15,16] O .scf ⟨Ua,Ua,G⟩ (fun hc=>Gw (args:=[E9 l,.agg [I64 x.G1,I64 x.Tier,U8 x.Half],U8 1]) O (G16 l x 1 b (H1 hc s)) H51 ⟨O,O,O,O,O,O,G⟩) O (JLo (BL b) [17] O .scf ⟨Ua,G⟩ (fun hc=>G7 O O) O (JLo (E9 l) [] O .optt G (fun hc=>G7 O O) O (JLo (.agg [I64 x.G1,I64 x.Tier,U8 x.Half]) [] O .optt G (fun hc=>Gt Hx O O O) O ?_)))
   obtain⟨a,e,h⟩:=Gj h
   refine JLo (BL a) [19,20] O .optt ⟨Ua,Ua,G⟩ (fun hc=>Gw (args:=[E9 l,.agg [I64 x.G1,I64 x.Tier,U8 x.Half],U8 2]) O (G16 l x 2 a (H1 hc e)) H51 ⟨O,O,O,O,O,O,G⟩) O (Gf (u:=BL (b&&a)) [(18,BL b),(21,_)] O O O .scf ⟨.all id,.part,G⟩ (fun hc=>Jv O O O O) ?_)
   refine JLh (BL (c||(b&&a))) (Ya O O O O) O (JLm (BL (c||(b&&a))) O (G8 (p (Gs (fin1 BL h)))))
  ·
   refine Gn (n (Jr fun f=>(JLm (E9 l) O (JLh (.agg [I64 x.G1,I64 x.Tier,U8 x.Half]) (Gt Hx O O O) O (JLh (.dptr [U8 x.Half]) (Gb Je O O O) O (JLh (U8 x.Half) (Ge Hm O O O) O ?_))))))
   obtain⟨d,g,h⟩:=Gj h
   refine JLh (BL d) (Gw O (G16 l x x.Half d g) H51 ⟨O,O,O,O,O,O,G⟩) O (JLm (BL d) O (G8 (f (Gs (fin1 BL h)))))

def R4 (a:Int) (b:Int):Option Bool:=
 some (((decide (a=b))||(decide (a=0)))||(decide (b=0)))
theorem G9b (a:Int) (b:Int) (r:Bool) (h:R4 a b=some r):Pure Ek 111 [U8 a,U8 b] (·=BL r):=by
 unfold R4 at h
 refine H3 [.tmp 4] Tryz.func111 O O (Jr fun c=>(JLm (BL false) O (G8 (c (Jr fun d=>(JLm (U8 a) O (JLm (U8 b) O (JLh (BL (decide (a=b))) (Jk O O O) O (JLm (BL (decide (a=b))) O (JLo (U8 a) [] O .scf G (fun hc=>G7 O O) O (JLo (BL (decide (a=0))) [9] O .scf ⟨Ua,G⟩ (fun hc=>Jk O O O) O (JLh (BL ((decide (a=b))||(decide (a=0)))) (Ya O O O O) O (JLm (BL ((decide (a=b))||(decide (a=0)))) O (JLo (U8 b) [] O .scf G (fun hc=>G7 O O) O (JLo (BL (decide (b=0))) [13] O .scf ⟨Ua,G⟩ (fun hc=>Jk O O O) O (JLh (BL (((decide (a=b))||(decide (a=0)))||(decide (b=0)))) (Ya O O O O) O (JLm (BL (((decide (a=b))||(decide (a=0)))||(decide (b=0)))) O (G8 (d (Gs (fin1 BL h)))))))))))))))))))))

def Yh (a:Slot) (b:Slot):Option Bool:=
 bnd (bif ((decide (a.G1=b.G1))&&(decide (a.Tier=b.Tier))) then R4 a.Half b.Half else some default) fun c=>
 some (((decide (a.G1=b.G1))&&(decide (a.Tier=b.Tier)))&&c)
theorem Gca (a:Slot) (b:Slot) (r:Bool) (h:Yh a b=some r):Pure Ek 63 [.agg [I64 a.G1,I64 a.Tier,U8 a.Half],.agg [I64 b.G1,I64 b.Tier,U8 b.Half]] (·=BL r):=by
 unfold Yh at h
 refine H3 [.tmp 4] Tryz.func63 O O (Jr fun d=>(JLh (.ptr 1097 0) (Ju (cs:=[I64 a.G1,I64 a.Tier,U8 a.Half]) 1097 O O O O O) O (JLh (.ptr 1098 0) (Ju (cs:=[I64 b.G1,I64 b.Tier,U8 b.Half]) 1098 O O O O O) O (JLm (BL false) O (G8 (d (Gu [(2,.dptr [I64 a.G1,I64 a.Tier,U8 a.Half]),(3,.ptr 1098 0)] [(1098,.box 50 [I64 b.G1,I64 b.Tier,U8 b.Half])] 1097 rfl rfl rfl ⟨⟨_,rfl,.boxEq rfl rfl⟩,G⟩ rfl (by exact⟨.ptr,.conv (.same rfl),G⟩) (Gu [(2,.dptr [I64 a.G1,I64 a.Tier,U8 a.Half]),(3,.dptr [I64 b.G1,I64 b.Tier,U8 b.Half])] [] 1098 rfl rfl rfl G rfl (by exact⟨.conv (.same rfl),.ptr,G⟩) ?_))))))))
 refine Jr fun e=>(JLh (.dptr [I64 a.G1,I64 a.Tier,U8 a.Half]) (Gb Hu O O O) O (JLh (I64 a.G1) (Ge Gd O O O) O (JLh (.dptr [I64 b.G1,I64 b.Tier,U8 b.Half]) (Gb Hu O O O) O (JLh (I64 b.G1) (Ge Gd O O O) O (JLh (BL (decide (a.G1=b.G1))) (Jk O O O) O (JLm (BL (decide (a.G1=b.G1))) O (JLo (.dptr [I64 a.Tier,U8 a.Half]) [] O .sct G (fun hc=>Gb Qm O O O) O (JLo (I64 a.Tier) [11] O .sct ⟨Ua,G⟩ (fun hc=>Ge Gd O O O) O (JLo (.dptr [I64 b.Tier,U8 b.Half]) [] O .sct G (fun hc=>Gb Qm O O O) O (JLo (I64 b.Tier) [13] O .sct ⟨Ua,G⟩ (fun hc=>Ge Gd O O O) O (JLo (BL (decide (a.Tier=b.Tier))) [12,14] O .sct ⟨Ua,Ua,G⟩ (fun hc=>Jk O O O) O (JLh (BL ((decide (a.G1=b.G1))&&(decide (a.Tier=b.Tier)))) (Jv O O O O) O (JLm (BL ((decide (a.G1=b.G1))&&(decide (a.Tier=b.Tier)))) O ?_)))))))))))))
 refine JLo (.dptr [U8 a.Half]) [] O .sct G (fun hc=>Gb Je O O O) O (JLo (U8 a.Half) [18] O .sct ⟨Ua,G⟩ (fun hc=>Ge Hm O O O) O (JLo (.dptr [U8 b.Half]) [] O .sct G (fun hc=>Gb Je O O O) O (JLo (U8 b.Half) [20] O .sct ⟨Ua,G⟩ (fun hc=>Ge Hm O O O) O ?_)))
 obtain⟨c,f,h⟩:=Gj h
 refine JLo (BL c) [19,21] O .sct ⟨Ua,Ua,G⟩ (fun hc=>Gw (args:=[U8 a.Half,U8 b.Half]) O (G9b a.Half b.Half c (H1 hc f)) J98 ⟨O,O,O,O,G⟩) O (JLh (BL (((decide (a.G1=b.G1))&&(decide (a.Tier=b.Tier)))&&c)) (Jv O O O O) O (JLm (BL (((decide (a.G1=b.G1))&&(decide (a.Tier=b.Tier)))&&c)) O (G8 (e (Gs (fin1 BL h))))))

def R3 (boxes:List Box) (l:List G3) (column:Int) (half:Int):Option Int:=
 each (fun c i (a:Int) e=>
  jp (fun b=>
   bnd (Qe boxes c.Box) fun d=>
   bif (((!d.2)||(decide (c.Slot.G1≠column)))||((decide (c.Slot.Half≠half))&&(decide (c.Slot.Half≠0)))) then
   (b a)
   else
   (bif d.1.High then
    (chk (a+2896) fun f=>
     b f)
    else
    (chk (a+2591) fun g=>
     b g))) fun(h:Int)=>
  e h)
 (fun(a:Int)=>
  some a) l 0 0
theorem G9a (boxes:List Box) (l:List G3) (column:Int) (half:Int) (r:Int) (h:R3 boxes l column half=some r):Pure Ek 112 [E8 boxes,E2 l,I64 column,U8 half] (·=I64 r):=by
 unfold R3 at h
 refine H3 [.tmp 8] Tryz.func112 O O (Jr fun a8=>(JLm (I64 0) O (G8 (a8 (Jr fun a9=>(JLm (I64 0) O (G8 (a9 (Js fun b0=>Jr fun b1=>(JLm (I64 0) O (G8 (b1 (Gx ?_)))))))))))))
 obtain⟨b2,q,s,o,h⟩:=Jf h
 refine Hs (fun d (e:Int)=>each b2 q (List.drop d l) d e=some r) (fun d e=>[(0,E8 boxes),(1,E2 l),(2,I64 column),(3,U8 half),(9,I64 e),(10,Ej d)]) (fun d e=>[]) (fun d=>l.length - d) 0 0 h ⟨(.sm O O),G,rfl⟩ ?_
 clear h
 intro d e j b5 b3
 refine Js fun t=>Jr fun v=>(JLm (Ej d) O (JLm (E2 l) O (JLl H6 O O O fun w=>(JLh (BL (decide ((d:Int) < (l.length:Int)))) (Jq O O O) O (G8 (v (Gp O (fun hb=>?_) (fun hb=>?_))))))))
 ·
  have k:=Q4 hb
  obtain⟨a,b4,i,x,h⟩:=Hz j k
  replace h:=Zi s h
  refine Gn (t ?_)
  obtain⟨z,p,h⟩:=Ga2 h
  refine G4d (fun g:Int=>z g=some r) (fun g=>[(0,E8 boxes),(1,E2 l),(2,I64 column),(3,U8 half),(9,I64 g),(10,Ej d)]) (fun g=>[]) (fun Kj45 ej45=>?_) ?_
  ·
   refine Gx (Jr fun a0=>(JLm (E8 boxes) O (JLm (E2 l) O (JLm (Ej d) O (JLh (Ef a) (H0 (f:=G3.av) (xs:=l) (y:=a) O O O H6 i O) O (JLh (Ef a) (Gb Q1 O O O) O (JLh (I64 a.Box) (Ge Gd O O O) O ?_)))))))
   obtain⟨c,a1,h⟩:=Gj h
   refine JLh (.tup [.agg (Box.cs c.1),BL c.2]) (Gw O (G06 boxes a.Box c a1) H9c ⟨O,O,O,O,G⟩) O (JLm (.tup [.agg (Box.cs c.1),BL c.2]) O (JLh (.agg (Box.cs c.1)) (H4 O O O) O (JLh (BL c.2) (H4 O O O) O (JLh (.ptr 1134 0) (Jn 1134 9 Y1 O O) O (J9 (u:=.junk) (He (u:=.agg (Box.cs c.1)) (ds:=(Box.cs c.1)) Rk O O O O O O O O) (JLm (BL c.2) O (G8 (a0 (fzQ [(0,E8 boxes),(1,E2 l),(2,I64 column),(3,U8 half),(9,I64 e),(10,Ej d),(11,Eg c.1),(12,BL c.2)] [] 1134 rfl rfl rfl G rfl ?_)))))))))
   refine Js fun a2=>?_
   refine Jr fun a3=>(JLm (BL c.2) O (JLh (BL (!c.2)) (R2 (b:=c.2) O O) O (JLm (BL (!c.2)) O (JLo (E2 l) [] O .scf G (fun hc=>G7 O O) O (JLo (Ej d) [] O .scf G (fun hc=>G7 O O) O (JLo (Ef a) [32,33] O .scf ⟨Ua,Ua,G⟩ (fun hc=>H0 (f:=G3.av) (xs:=l) (y:=a) O O O H6 i O) O (JLo (.dptr ((G3.cs a).drop 1)) [34] O .scf ⟨Ua,G⟩ (fun hc=>Gb J1 O O O) O (JLo (.dptr ((G3.cs a).drop 1)) [35] O .scf ⟨Ua,G⟩ (fun hc=>Gb Hu O O O) O (JLo (I64 a.Slot.G1) [36] O .scf ⟨Ua,G⟩ (fun hc=>Ge Gd O O O) O (JLo (I64 column) [] O .scf G (fun hc=>G7 O O) O (JLo (BL (decide (a.Slot.G1≠column))) [37,38] O .scf ⟨Ua,Ua,G⟩ (fun hc=>G2c O O O) O (JLh (BL ((!c.2)||(decide (a.Slot.G1≠column)))) (Ya O O O O) O (JLm (BL ((!c.2)||(decide (a.Slot.G1≠column)))) O ?_)))))))))))))
   refine JLo (E2 l) [] O .scf G (fun hc=>G7 O O) O (JLo (Ej d) [] O .scf G (fun hc=>G7 O O) O (JLo (Ef a) [42,43] O .scf ⟨Ua,Ua,G⟩ (fun hc=>H0 (f:=G3.av) (xs:=l) (y:=a) O O O H6 i O) O (JLo (.dptr ((G3.cs a).drop 1)) [44] O .scf ⟨Ua,G⟩ (fun hc=>Gb J1 O O O) O (JLo (.dptr [U8 a.Slot.Half]) [45] O .scf ⟨Ua,G⟩ (fun hc=>Gb Je O O O) O (JLo (U8 a.Slot.Half) [46] O .scf ⟨Ua,G⟩ (fun hc=>Ge Hm O O O) O (JLo (U8 half) [] O .scf G (fun hc=>G7 O O) O (JLo (BL (decide (a.Slot.Half≠half))) [47,48] O .scf ⟨Ua,Ua,G⟩ (fun hc=>G2c O O O) O (JLo (BL (decide (a.Slot.Half≠half))) [49] O .scf ⟨Ua,G⟩ (fun hc=>G7 O O) O (JLo (E2 l) [] O .optt G (fun hc=>G7 O O) O (JLo (Ej d) [] O .optt G (fun hc=>G7 O O) O (JLo (Ef a) [51,52] O .optt ⟨Ua,Ua,G⟩ (fun hc=>H0 (f:=G3.av) (xs:=l) (y:=a) O O O H6 i O) O (JLo (.dptr ((G3.cs a).drop 1)) [53] O .optt ⟨Ua,G⟩ (fun hc=>Gb J1 O O O) O (JLo (.dptr [U8 a.Slot.Half]) [54] O .optt ⟨Ua,G⟩ (fun hc=>Gb Je O O O) O ?_)))))))))))))
   refine JLo (U8 a.Slot.Half) [55] O .optt ⟨Ua,G⟩ (fun hc=>Ge Hm O O O) O (JLo (BL (decide (a.Slot.Half≠0))) [56] O .optt ⟨Ua,G⟩ (fun hc=>G2c O O O) O (Gf (u:=BL ((decide (a.Slot.Half≠half))&&(decide (a.Slot.Half≠0)))) [(50,BL (decide (a.Slot.Half≠half))),(57,_)] O O O .scf ⟨.all id,.part,G⟩ (fun hc=>Jv O O O O) ?_))
   refine JLh (BL (((!c.2)||(decide (a.Slot.G1≠column)))||((decide (a.Slot.Half≠half))&&(decide (a.Slot.Half≠0))))) (Ya O O O O) O (G8 (a3 (JCc O h (fun h hb=>?_) (fun h hb=>?_))))
   ·
    refine Hy (ej45 _ _ e h ⟨(.sm O O),G,rfl⟩)
   ·
    refine Gn (a2 (Jr fun a4=>(JLh (.dptr ((Box.cs c.1).drop 3)) (Gb H63 O O O) O (JLh (BL c.1.High) (Ge Re O O O) O (G8 (a4 (JCc O h (fun h hb=>?_) (fun h hb=>?_))))))))
    ·
     refine G2 (JLm (I64 e) O ?_)
     obtain⟨m,a5,h⟩:=Zw h
     refine JLh (I64 m) (Jo a5 O O O) O (JLm (I64 m) O (G8 (ej45 _ _ m h ⟨(.sm O O),G,rfl⟩)))
    ·
     refine G2 (JLm (I64 e) O ?_)
     obtain⟨n,a6,h⟩:=Zw h
     refine JLh (I64 n) (Jo a6 O O O) O (JLm (I64 n) O (G8 (ej45 _ _ n h ⟨(.sm O O),G,rfl⟩)))
  ·intro g h
   replace h:=app1 p h
   refine G2 (JLm (Ej d) O (JLh (I64 ((d+1:Nat):Int)) (Jo (Hw k w) O O O) O (JLm (I64 ((d+1:Nat):Int)) O (G8 (b3 _ _ (d+1) g (app1 x h) (by omega) ⟨(.sm O O),G,rfl⟩)))))
 ·
  have h:=app1 o (J0 j (Hd hb))
  refine Hy (b0 (Jr fun a7=>(JLm (I64 e) O (JLm (I64 e) O (G8 (a7 (Gs (fin1 I64 h))))))))

def Rx (s:G6) (boxes:List Box) (l:List G3) (c:Int):Option Bool:=
 Qr s.Columns c fun f=>
 bif decide (f.Height=0) then
 (some false)
 else
 (bnd (R3 boxes l c 1) fun a=>
  Qr s.Columns c fun b=>
  bnd (bif (!(decide (b.Height < a))) then R3 boxes l c 2 else some default) fun d=>
  bnd (bif (!(decide (b.Height < a))) then Qr s.Columns c some else some default) fun e=>
  some ((decide (b.Height < a))||(decide (e.Height < d))))
theorem Gc9 (s:G6) (boxes:List Box) (l:List G3) (c:Int) (r:Bool) (h:Rx s boxes l c=some r):Pure Ek 64 [.agg (G6.cs s),E8 boxes,E2 l,I64 c] (·=BL r):=by
 unfold Rx at h
 refine H3 [.tmp 8] Tryz.func64 O O (Jr fun m=>(JLh (.ptr 1099 0) (Ju (cs:=(G6.cs s)) 1099 O O O O O) O (JLm (BL false) O (G8 (m (fzQ [(1,E8 boxes),(2,E2 l),(3,I64 c),(4,Ee s)] [] 1099 rfl rfl rfl G rfl (Js fun n=>Jr fun o=>(JLh (Ee s) (Gb Hh O O O) O (JLh (E3 s.Columns) (Ge Hn O O O) O (JLm (I64 c) O ?_))))))))))
 obtain⟨z,g,p,q,h⟩:=Rr h
 refine JLh (Eh g) (H0 (f:=G1.av) (xs:=s.Columns) (y:=g) O O O Hk q p) O (JLh (.dptr ((G1.cs g).drop 4)) (Gb G44 O O O) O (JLh (I64 g.Height) (Ge Gd O O O) O (JLh (BL (decide (g.Height=0))) (Jk O O O) O (G8 (o (JCc O h (fun h hb=>?_) (fun h hb=>?_)))))))
 ·
  refine Jr fun t=>(JLm (BL false) O (G8 (t (Gs (fin1 BL h)))))
 ·
  refine Gn (n (Js fun u=>?_))
  obtain⟨e,v,h⟩:=Gj h
  obtain⟨x,b,i,w,h⟩:=Rr h
  obtain⟨d,j,h⟩:=Gj h
  obtain⟨a,k,h⟩:=Gj h
  refine JC_d0 Ho (by kernel_rfl) (Dq (E8 boxes) (G7 O O) O (Dq (E2 l) (G7 O O) O (Dq (I64 c) (G7 O O) O (Dq (I64 e) (Gw (args:=[E8 boxes,E2 l,I64 c,U8 1]) O (G9a boxes l c 1 e v) J97 ⟨O,O,O,O,O,O,O,O,G⟩) O (Dq (Ee s) (Gb Hh O O O) O (Dq (E3 s.Columns) (Ge Hn O O O) O (Dq (I64 c) (G7 O O) O (Dq (Eh b) (H0 (f:=G1.av) (xs:=s.Columns) (y:=b) O O O Hk w i) O (Dq (.dptr ((G1.cs b).drop 4)) (Gb G44 O O O) O (Dq (I64 b.Height) (Ge Gd O O O) O (Dq (BL (decide (b.Height < e))) (G08 O O O) O (Dq (BL (decide (b.Height < e))) (G7 O O) O (Do (E8 boxes) [] O .scf G (fun hc=>G7 O O) O ?_)))))))))))))
  refine Do (E2 l) [] O .scf G (fun hc=>G7 O O) O (Do (I64 c) [] O .scf G (fun hc=>G7 O O) O (Do (I64 d) [28,29,30] O .scf ⟨Ua,Ua,Ua,G⟩ (fun hc=>Gw (args:=[E8 boxes,E2 l,I64 c,U8 2]) O (G9a boxes l c 2 d (H1 hc j)) J97 ⟨O,O,O,O,O,O,O,O,G⟩) O (Do (Ee s) [] O .scf G (fun hc=>Gb Hh O O O) O (Do (E3 s.Columns) [32] O .scf ⟨Ua,G⟩ (fun hc=>Ge Hn O O O) O (Do (I64 c) [] O .scf G (fun hc=>G7 O O) O (Do (Eh a) [33,34] O .scf ⟨Ua,Ua,G⟩ (fun hc=>(match R1 (H1 hc k) with | ⟨_,hm_,hy_⟩=>H0 (f:=G1.av) (xs:=s.Columns) (y:=a) O O O Hk hy_ hm_)) O (Do (.dptr ((G1.cs a).drop 4)) [35] O .scf ⟨Ua,G⟩ (fun hc=>Gb G44 O O O) O (Do (I64 a.Height) [36] O .scf ⟨Ua,G⟩ (fun hc=>Ge Gd O O O) O (Do (BL (decide (a.Height < d))) [31,37] O .scf ⟨Ua,Ua,G⟩ (fun hc=>G08 O O O) O (Dq (BL ((decide (b.Height < e))||(decide (a.Height < d)))) (Ya O O O O) O (Dq (BL ((decide (b.Height < e))||(decide (a.Height < d)))) (G9 O O) O (Dnil ?_))))))))))))
  refine u (Gs (fin1 BL h))

def Qu (F:Nat) (s:G6) (boxes:List Box) (l:List G3):Option Bool:=
 bnd (Z9 F s) fun u=>
 bif (!u) then
 (some false)
 else
 (each (fun b h (v:Unit) i=>
   bnd (Qe boxes b.Box) fun a=>
   bnd (bif (!(!a.2)) then chk (a.1.Size) some else some 0) fun j=>
   bnd (bif (!(!a.2)) then Y8 s b.Slot j else some default) fun c=>
   bnd (bif (!((!a.2)||(!c))) then Y6 l else some default) fun k=>
   bnd (bif (!((!a.2)||(!c))) then Yi b.Slot k else some default) fun m=>
   bif (((!a.2)||(!c))||(!m)) then
   (some false)
   else
   (need (decide ((h:Int)≤9223372036854775807)) <|
    upto (fun e (n:Unit) f=>
     Qr l (e:Int) fun d=>
     bnd (bif (!(decide (b.Box≤d.Box))) then Qr l (e:Int) some else some default) fun o=>
     bnd (bif (!(decide (b.Box≤d.Box))) then Yh o.Slot b.Slot else some default) fun p=>
     bif ((decide (b.Box≤d.Box))||p) then
     (some false)
     else
     (f ()))
    (fun(n:Unit)=>
     i ()) (h:Int).toNat 0 ()))
  (fun(v:Unit)=>
   each (fun w q (r:Unit) g=>
    bnd (Rx s boxes l (q:Int)) fun t=>
    bif t then
    (some false)
    else
    (g ()))
   (fun(r:Unit)=>
    some true) s.Columns 0 ()) l 0 ())
theorem Gad (F:Nat) (s:G6) (boxes:List Box) (l:List G3) (r:Bool) (h:Qu F s boxes l=some r):Pure Ek 30 [.agg (G6.cs s),E8 boxes,E2 l] (·=BL r):=by
 unfold Qu at h
 refine H3 [.tmp 6] Tryz.func30 O O (Jr fun f0=>(JLh (.ptr 1042 0) (Ju (cs:=(G6.cs s)) 1042 O O O O O) O (JLm (BL false) O (G8 (f0 (Gu [(1,E8 boxes),(2,E2 l),(3,Ee s)] [] 1042 rfl rfl rfl G rfl (by exact⟨.conv (.same rfl),.conv (.same rfl),.ptr,G⟩) (Js fun f1=>Jr fun f2=>(JLh (.agg (G6.cs s)) (Gt Jm O O O) O ?_))))))))
 obtain⟨r4,f3,h⟩:=Gj h
 refine JLh (BL r4) (Gw O (H6e F s r4 f3) R47 ⟨O,O,G⟩) O (JLh (BL (!r4)) (R2 (b:=r4) O O) O (G8 (f2 (JCc O h (fun h hb=>?_) (fun h hb=>?_)))))
 ·
  refine Jr fun f4=>(JLm (BL false) O (G8 (f4 (Gs (fin1 BL h)))))
 ·
  refine Gn (f1 (Js fun f5=>Jr fun f6=>(JLm (I64 0) O (G8 (f6 (Gx ?_))))))
  obtain⟨b8,f7,f8,a8,h⟩:=Jf h
  refine Hs (fun d (s8:Unit)=>each b8 f7 (List.drop d l) d s8=some r) (fun d s8=>[(1,E8 boxes),(2,E2 l),(3,Ee s),(7,Ej d)]) (fun d s8=>[]) (fun d=>l.length - d) 0 () h ⟨(.sm O O),G,rfl⟩ ?_
  clear h
  intro d s8 a5 K8 e8
  refine Js fun f9=>Jr fun a9=>(JLm (Ej d) O (JLm (E2 l) O (JLl H6 O O O fun b0=>(JLh (BL (decide ((d:Int) < (l.length:Int)))) (Jq O O O) O (G8 (a9 (Gp O (fun hb=>?_) (fun hb=>?_))))))))
  ·
   have a6:=Q4 hb
   obtain⟨c,h0,m,g0,h⟩:=Hz a5 a6
   replace h:=Zi f8 h
   refine Gn (f9 (Js fun b1=>Gx (Jr fun b2=>(JLm (E8 boxes) O (JLm (E2 l) O (JLm (Ej d) O (JLh (Ef c) (H0 (f:=G3.av) (xs:=l) (y:=c) O O O H6 m O) O (JLh (Ef c) (Gb Q1 O O O) O (JLh (I64 c.Box) (Ge Gd O O O) O ?_)))))))))
   obtain⟨a,b3,h⟩:=Gj h
   refine JLh (.tup [.agg (Box.cs a.1),BL a.2]) (Gw O (G06 boxes c.Box a b3) H9c ⟨O,O,O,O,G⟩) O (JLm (.tup [.agg (Box.cs a.1),BL a.2]) O (JLh (.agg (Box.cs a.1)) (H4 O O O) O (JLh (BL a.2) (H4 O O O) O (JLh (.ptr 1043 0) (Jn 1043 9 Y1 O O) O (J9 (u:=.junk) (He (u:=.agg (Box.cs a.1)) (ds:=(Box.cs a.1)) Rk O O O O O O O O) (JLm (BL a.2) O (G8 (b2 (fzQ [(1,E8 boxes),(2,E2 l),(3,Ee s),(7,Ej d),(8,Eg a.1),(9,BL a.2)] [] 1043 rfl rfl rfl G rfl (Js fun b4=>Js fun b5=>?_))))))))))
   obtain⟨t,b6,h⟩:=Gj h
   obtain⟨i,b7,h⟩:=Gj h
   obtain⟨o,b9,h⟩:=Gj h
   obtain⟨n,c0,h⟩:=Gj h
   refine JC_d0 Ho (by kernel_rfl) (Dq (BL a.2) (G7 O O) O (Dq (BL (!a.2)) (R2 (b:=a.2) O O) O (Dq (BL (!a.2)) (G7 O O) O (Do (.agg (G6.cs s)) [] O .scf G (fun hc=>Gt Jm O O O) O (Do (E2 l) [] O .scf G (fun hc=>G7 O O) O (Do (Ej d) [] O .scf G (fun hc=>G7 O O) O (Do (Ef c) [35,36] O .scf ⟨Ua,Ua,G⟩ (fun hc=>H0 (f:=G3.av) (xs:=l) (y:=c) O O O H6 m O) O (Do (.dptr ((G3.cs c).drop 1)) [37] O .scf ⟨Ua,G⟩ (fun hc=>Gb J1 O O O) O (Do (.agg ((G3.cs c).drop 1)) [38] O .scf ⟨Ua,G⟩ (fun hc=>Gt Hx O O O) O (Do (.dptr ((Box.cs a.1).drop 2)) [] O .scf G (fun hc=>Gb Ym O O O) O (Do (U8 a.1.Size) [40] O .scf ⟨Ua,G⟩ (fun hc=>Ge Hm O O O) O (Do (I64 t) [41] O .scf ⟨Ua,G⟩ (fun hc=>Y46 Qde Qdd (G65 (H1 hc b6)) O O) O (Do (BL i) [34,39,42] O .scf ⟨Ua,Ua,Ua,G⟩ (fun hc=>Gw (args:=[.agg (G6.cs s),.agg ((G3.cs c).drop 1),I64 t]) O (Gae s c.Slot t i (H1 hc b7)) Jf4 ⟨O,O,O,O,O,O,G⟩) O ?_)))))))))))))
   refine Do (BL (!i)) [43] O .scf ⟨Ua,G⟩ (fun hc=>R2 (b:=i) O O) O (Dq (BL ((!a.2)||(!i))) (Ya O O O O) O (Dq (BL ((!a.2)||(!i))) (G7 O O) O (Do (E2 l) [] O .scf G (fun hc=>G7 O O) O (Do (Ej d) [] O .scf G (fun hc=>G7 O O) O (Do (Ef c) [47,48] O .scf ⟨Ua,Ua,G⟩ (fun hc=>H0 (f:=G3.av) (xs:=l) (y:=c) O O O H6 m O) O (Do (.dptr ((G3.cs c).drop 1)) [49] O .scf ⟨Ua,G⟩ (fun hc=>Gb J1 O O O) O (Do (.agg ((G3.cs c).drop 1)) [50] O .scf ⟨Ua,G⟩ (fun hc=>Gt Hx O O O) O (Do (E2 l) [] O .scf G (fun hc=>G7 O O) O (Do (E9 o) [52] O .scf ⟨Ua,G⟩ (fun hc=>Gw (args:=[E2 l]) O (Gac l o (H1 hc b9)) Jf2 ⟨O,O,G⟩) O (Do (BL n) [51,53] O .scf ⟨Ua,Ua,G⟩ (fun hc=>Gw (args:=[.agg ((G3.cs c).drop 1),E9 o]) O (Gcb c.Slot o n (H1 hc c0)) Jf3 ⟨O,O,O,O,G⟩) O (Do (BL (!n)) [54] O .scf ⟨Ua,G⟩ (fun hc=>R2 (b:=n) O O) O (Dq (BL (((!a.2)||(!i))||(!n))) (Ya O O O O) O (Dnil ?_)))))))))))))
   refine b5 (JCc O h (fun h hb=>?_) (fun h hb=>?_))
   ·
    refine Jr fun c1=>(JLm (BL false) O (G8 (c1 (Gs (fin1 BL h)))))
   ·
    refine Gn (b4 (Jr fun c2=>(JLm (I64 0) O (G8 (c2 (Gx ?_))))))
    obtain⟨c3,h⟩:=Qa h
    obtain⟨g1,c4,c5,a3,h⟩:=Jc8 h
    refine Hs (fun e (p:Unit)=>upto g1 c4 ((d:Int).toNat - e) e p=some r) (fun e p=>[(1,E8 boxes),(2,E2 l),(3,Ee s),(7,Ej d),(10,Ej e)]) (fun e p=>[]) (fun e=>(d:Int).toNat - e) 0 () h ⟨(.sm O O),G,rfl⟩ ?_
    clear h
    intro e p v h1 g2
    refine Js fun c6=>Jr fun c7=>(JLm (Ej e) O (JLm (Ej d) O (JLh (BL (decide ((e:Int) < (d:Int)))) (Jq O O O) O (G8 (c7 (Gp O (fun hb=>?_) (fun hb=>?_)))))))
    ·
     have w:=J4e hb
     obtain⟨g7,c8,h⟩:=J36 v w
     replace h:=Jbd c5 h
     refine Gn (c6 (Js fun c9=>Gx (Js fun d0=>?_)))
     obtain⟨h2,j,d1,d2,h⟩:=Rr h
     obtain⟨k,d3,h⟩:=Gj h
     obtain⟨x,d4,h⟩:=Gj h
     refine JC_d0 Ho (by kernel_rfl) (Dq (E2 l) (G7 O O) O (Dq (Ej e) (G7 O O) O (Dq (Ef j) (H0 (f:=G3.av) (xs:=l) (y:=j) O O O H6 d2 d1) O (Dq (Ef j) (Gb Q1 O O O) O (Dq (I64 j.Box) (Ge Gd O O O) O (Dq (E2 l) (G7 O O) O (Dq (Ej d) (G7 O O) O (Dq (Ef c) (H0 (f:=G3.av) (xs:=l) (y:=c) O O O H6 m O) O (Dq (Ef c) (Gb Q1 O O O) O (Dq (I64 c.Box) (Ge Gd O O O) O (Dq (BL (decide (c.Box≤j.Box))) (G4b O O O) O (Dq (BL (decide (c.Box≤j.Box))) (G7 O O) O (Do (E2 l) [] O .scf G (fun hc=>G7 O O) O ?_)))))))))))))
     refine Do (Ej e) [] O .scf G (fun hc=>G7 O O) O (Do (Ef k) [74,75] O .scf ⟨Ua,Ua,G⟩ (fun hc=>(match R1 (H1 hc d3) with | ⟨_,hm_,hy_⟩=>H0 (f:=G3.av) (xs:=l) (y:=k) O O O H6 hy_ hm_)) O (Do (.dptr ((G3.cs k).drop 1)) [76] O .scf ⟨Ua,G⟩ (fun hc=>Gb J1 O O O) O (Do (.agg ((G3.cs k).drop 1)) [77] O .scf ⟨Ua,G⟩ (fun hc=>Gt Hx O O O) O (Do (E2 l) [] O .scf G (fun hc=>G7 O O) O (Do (Ej d) [] O .scf G (fun hc=>G7 O O) O (Do (Ef c) [79,80] O .scf ⟨Ua,Ua,G⟩ (fun hc=>H0 (f:=G3.av) (xs:=l) (y:=c) O O O H6 m O) O (Do (.dptr ((G3.cs c).drop 1)) [81] O .scf ⟨Ua,G⟩ (fun hc=>Gb J1 O O O) O (Do (.agg ((G3.cs c).drop 1)) [82] O .scf ⟨Ua,G⟩ (fun hc=>Gt Hx O O O) O (Do (BL x) [78,83] O .scf ⟨Ua,Ua,G⟩ (fun hc=>Gw (args:=[.agg ((G3.cs k).drop 1),.agg ((G3.cs c).drop 1)]) O (Gca k.Slot c.Slot x (H1 hc d4)) Jf1 ⟨O,O,O,O,G⟩) O (Dq (BL ((decide (c.Box≤j.Box))||x)) (Ya O O O O) O (Dnil ?_)))))))))))
     refine d0 (JCc O h (fun h hb=>?_) (fun h hb=>?_))
     ·
      refine Jr fun d5=>(JLm (BL false) O (G8 (d5 (Gs (fin1 BL h)))))
     ·
      refine Gn (c9 (G2 (JLm (Ej e) O (JLh (I64 ((e+1:Nat):Int)) (Jo (Hw w (Heb c3)) O O O) O (JLm (I64 ((e+1:Nat):Int)) O (G8 (g2 _ _ (e+1) () (app1 c8 h) (by omega) ⟨(.sm O O),G,rfl⟩)))))))
    ·
     have h:=app1 a3 (J37 v (H22 hb))
     refine Hy (b1 (G2 (JLm (Ej d) O (JLh (I64 ((d+1:Nat):Int)) (Jo (Hw a6 b0) O O O) O (JLm (I64 ((d+1:Nat):Int)) O (G8 (e8 _ _ (d+1) () (app1 g0 h) (by omega) ⟨(.sm O O),G,rfl⟩)))))))
  ·
   have h:=app1 a8 (J0 a5 (Hd hb))
   refine Hy (f5 (Js fun d6=>Jr fun d7=>(JLm (I64 0) O (G8 (d7 (Gx ?_))))))
   obtain⟨g3,d8,d9,a4,h⟩:=Jf h
   refine Hs (fun g (q:Unit)=>each g3 d8 (List.drop g s.Columns) g q=some r) (fun g q=>[(1,E8 boxes),(2,E2 l),(3,Ee s),(11,Ej g)]) (fun g q=>[]) (fun g=>s.Columns.length - g) 0 () h ⟨(.sm O O),G,rfl⟩ ?_
   clear h
   intro g q z h3 g4
   refine Js fun e0=>Jr fun e1=>(JLm (Ej g) O (JLh (Ee s) (Gb Hh O O O) O (JLh (E3 s.Columns) (Ge Hn O O O) O (JLl Hk O O O fun e2=>(JLh (BL (decide ((g:Int) < (s.Columns.length:Int)))) (Jq O O O) O (G8 (e1 (Gp O (fun hb=>?_) (fun hb=>?_)))))))))
   ·
    have a0:=Q4 hb
    obtain⟨h4,g8,g9,e3,h⟩:=Hz z a0
    replace h:=Zi d9 h
    refine Gn (e0 (Js fun e4=>Gx (Jr fun e5=>(JLh (.agg (G6.cs s)) (Gt Jm O O O) O (JLm (E8 boxes) O (JLm (E2 l) O (JLm (Ej g) O ?_)))))))
    obtain⟨a7,e6,h⟩:=Gj h
    refine JLh (BL a7) (Gw O (Gc9 s boxes l (g:Int) a7 e6) Jf0 ⟨O,O,O,O,O,O,O,O,G⟩) O (G8 (e5 (JCc O h (fun h hb=>?_) (fun h hb=>?_))))
    ·
     refine Jr fun e7=>(JLm (BL false) O (G8 (e7 (Gs (fin1 BL h)))))
    ·
     refine Gn (e4 (G2 (JLm (Ej g) O (JLh (I64 ((g+1:Nat):Int)) (Jo (Hw a0 e2) O O O) O (JLm (I64 ((g+1:Nat):Int)) O (G8 (g4 _ _ (g+1) () (app1 e3 h) (by omega) ⟨(.sm O O),G,rfl⟩)))))))
   ·
    have h:=app1 a4 (J0 z (Hd hb))
    refine Hy (d6 (Jr fun e9=>(JLm (BL true) O (G8 (e9 (Gs (fin1 BL h)))))))

def Qi (l:List G3) (id_:Int):Option Int:=
 each (fun b c (d:Unit) a=>
  bif decide (b.Box=id_) then
  (some (c:Int))
  else
  (a ()))
 (fun(d:Unit)=>
  some (-1)) l 0 ()
theorem Zo (l:List G3) (id_:Int) (r:Int) (h:Qi l id_=some r):Pure Ek 32 [E2 l,I64 id_] (·=I64 r):=by
 unfold Qi at h
 refine H3 [.tmp 4] Tryz.func32 O O (Jr fun u=>(JLm (I64 0) O (G8 (u (Js fun v=>Jr fun w=>(JLm (I64 0) O (G8 (w (Gx ?_)))))))))
 obtain⟨x,i,j,g,h⟩:=Jf h
 refine Hs (fun a (c:Unit)=>each x i (List.drop a l) a c=some r) (fun a c=>[(0,E2 l),(1,I64 id_),(5,Ej a)]) (fun a c=>[]) (fun a=>l.length - a) 0 () h ⟨(.sm O O),G,O⟩ ?_
 clear h
 intro a c d a2 z
 refine Js fun k=>Jr fun m=>(JLm (Ej a) O (JLm (E2 l) O (JLl H6 O O O fun a0=>(JLh (BL (decide ((a:Int) < (l.length:Int)))) (Jq O O O) O (G8 (m (Gp O (fun hb=>?_) (fun hb=>?_))))))))
 ·
  have e:=Q4 hb
  obtain⟨b,a1,n,o,h⟩:=Hz d e
  replace h:=Zi j h
  refine Gn (k (Js fun p=>Gx (Jr fun q=>(JLm (E2 l) O (JLm (Ej a) O (JLh (Ef b) (H0 (f:=G3.av) (xs:=l) (y:=b) O O O H6 n O) O (JLh (Ef b) (Gb Q1 O O O) O (JLh (I64 b.Box) (Ge Gd O O O) O (JLm (I64 id_) O (JLh (BL (decide (b.Box=id_))) (Jk O O O) O (G8 (q (JCc O h (fun h hb=>?_) (fun h hb=>?_))))))))))))))
  ·
   refine Jr fun s=>(JLm (Ej a) O (JLm (Ej a) O (G8 (s (Gs (fin1 I64 h))))))
  ·
   refine Gn (p (G2 (JLm (Ej a) O (JLh (I64 ((a+1:Nat):Int)) (Jo (Hw e a0) O O O) O (JLm (I64 ((a+1:Nat):Int)) O (G8 (z _ _ (a+1) () (app1 o h) (by omega) ⟨(.sm O O),G,rfl⟩)))))))
 ·
  have h:=app1 g (J0 d (Hd hb))
  refine Hy (v (Jr fun t=>(JLm (I64 (-1)) O (G8 (t (Gs (fin1 I64 h)))))))

def Rn (F:Nat) (s:G6) (boxes:List Box) (state:List G3) (ashore:List Int):Option (Gq×Int):=
 bnd (Qu F s boxes state) fun i=>
 bif (!i) then
 (some ((Gq.mk (G6.mk [] [] (Light.mk 0 0 0 0) [] [] [] (G5.mk 0 0 0 0)) [] [] [] [] 0),2))
 else
 (each (fun c b (f:Unit) e=>
   bnd (Qe boxes c) fun a=>
   bnd (bif ((!((!a.2)||((decide (a.1.Size≠20))&&(decide (a.1.Size≠40)))))&&(decide (0 < (b:Int)))) then chk ((b:Int) - 1) some else some 0) fun g=>
   bnd (bif ((!((!a.2)||((decide (a.1.Size≠20))&&(decide (a.1.Size≠40)))))&&(decide (0 < (b:Int)))) then Qr ashore g some else some default) fun d=>
   bnd (bif (!(((!a.2)||((decide (a.1.Size≠20))&&(decide (a.1.Size≠40))))||((decide (0 < (b:Int)))&&(decide (c≤d))))) then Qi state c else some default) fun h=>
   bif ((((!a.2)||((decide (a.1.Size≠20))&&(decide (a.1.Size≠40))))||((decide (0 < (b:Int)))&&(decide (c≤d))))||(decide (0≤h))) then
   (some ((Gq.mk (G6.mk [] [] (Light.mk 0 0 0 0) [] [] [] (G5.mk 0 0 0 0)) [] [] [] [] 0),2))
   else
   (e ()))
  (fun(f:Unit)=>
   some ((Gq.mk s boxes state ashore [] 0),0)) ashore 0 ())
abbrev Kh:List AV:=[E3 ([]:List G1),E7 ([]:List Ga),I64 0,I64 0,I64 0,I64 0,E4 ([]:List Row),E5 ([]:List Frame),E6 ([]:List Gr),I64 0,I64 0,I64 0,I64 0,E8 ([]:List Box),E2 ([]:List G3),E1 ([]:List Int),E1 ([]:List Int),I64 0]
theorem Gab (F:Nat) (s:G6) (boxes:List Box) (state:List G3) (ashore:List Int) (r:Gq×Int) (h:Rn F s boxes state ashore=some r):Pure Ek 8 [.agg (G6.cs s),E8 boxes,E2 state,E1 ashore] (·=.tup [.agg (Gq.cs r.1),I64 r.2]):=by
 unfold Rn at h
 refine H3 [.cell 8 45,.tmp 9] Tryz.func8 O O ?_
 refine Jr fun a7=>(JLh (.ptr 1013 0) (Ju (cs:=(G6.cs s)) 1013 O O O O O) O (JLh (.ptr 1014 0) (G8f 1014 Kh [.slice none 0 0,.slice none 0 0,E0,E0,E0,E0,.slice none 0 0,.slice none 0 0,.slice none 0 0,E0,E0,E0,E0,.slice none 0 0,.slice none 0 0,.slice none 0 0,.slice none 0 0,E0] Ge5 ⟨.inr ⟨_,O,O⟩,.inr ⟨_,O,O⟩,.inl O,.inl O,.inl O,.inl O,.inr ⟨_,O,O⟩,.inr ⟨_,O,O⟩,.inr ⟨_,O,O⟩,.inl O,.inl O,.inl O,.inl O,.inr ⟨_,O,O⟩,.inr ⟨_,O,O⟩,.inr ⟨_,O,O⟩,.inr ⟨_,O,O⟩,.inl O,G⟩ O O) O (JLm (I64 0) O (G8 (a7 ?_)))))
 refine fzQ [(1,E8 boxes),(2,E2 state),(3,E1 ashore),(4,Ee s),(8,.ptr 1014 0)] [(1014,.box 45 Kh)] 1013 rfl rfl rfl ⟨⟨_,rfl,.boxEq rfl rfl⟩,G⟩ rfl (Js fun a8=>Jr fun a9=>(JLh (.agg (G6.cs s)) (Gt Jm O O O) O (JLm (E8 boxes) O (JLm (E2 state) O ?_))))
 obtain⟨m,b0,h⟩:=Gj h
 refine JLh (BL m) (Gw O (Gad F s boxes state m b0) Jff ⟨O,O,O,O,O,O,G⟩) O (JLh (BL (!m)) (R2 (b:=m) O O) O (G8 (a9 (JCc O h (fun h hb=>?_) (fun h hb=>?_)))))
 ·
  refine Jr fun b1=>(JLh (.agg Kh) (Hj (cs:=Kh) [(0,13),(13,1),(14,1),(15,1),(16,1),(17,1)] Kh [.slice none 0 0,.slice none 0 0,E0,E0,E0,E0,.slice none 0 0,.slice none 0 0,.slice none 0 0,E0,E0,E0,E0,.slice none 0 0,.slice none 0 0,.slice none 0 0,.slice none 0 0,E0] H98 Ge5 ⟨.inr ⟨_,O,O⟩,.inr ⟨_,O,O⟩,.inl O,.inl O,.inl O,.inl O,.inr ⟨_,O,O⟩,.inr ⟨_,O,O⟩,.inr ⟨_,O,O⟩,.inl O,.inl O,.inl O,.inl O,.inr ⟨_,O,O⟩,.inr ⟨_,O,O⟩,.inr ⟨_,O,O⟩,.inr ⟨_,O,O⟩,.inl O,G⟩ O O) O (J9 (u:=.junk) (He (u:=.agg Kh) (ds:=Kh) Qf O O O O O O O O) (JLm (I64 2) O (G8 (b1 ?_)))))
  refine Gs (⟨[.agg Kh,I64 2],[],G,O,⟨⟨_,⟨_,_,_,_,O,O,O,.inl ⟨Ja,O⟩⟩,.conv (.same O)⟩,⟨_,O,.conv (.same O)⟩,G⟩,O,congrArg (fun r:Gq×Int=>(.tup [.agg (Gq.cs r.1),I64 r.2]:AV)) (M2 h)⟩)
 ·
  refine Gn (a8 (Js fun b2=>Jr fun b3=>(JLm (I64 0) O (G8 (b3 (Gx ?_))))))
  obtain⟨b4,o,p,n,h⟩:=Jf h
  refine Hs (fun c (i:Unit)=>each b4 o (List.drop c ashore) c i=some r) (fun c i=>[(1,E8 boxes),(2,E2 state),(3,E1 ashore),(4,Ee s),(8,.ptr 1014 0),(10,Ej c)]) (fun c i=>[(1014,.box 45 Kh)]) (fun c=>ashore.length - c) 0 () h ⟨(.sm O O),⟨fbQ O (.sm O O),G⟩,rfl⟩ ?_
  clear h
  intro c i k b8 b5
  refine Js fun q=>Jr fun t=>(JLm (Ej c) O (JLm (E1 ashore) O (JLl Gz O O O fun v=>(JLh (BL (decide ((c:Int) < (ashore.length:Int)))) (Jq O O O) O (G8 (t (Gp O (fun hb=>?_) (fun hb=>?_))))))))
  ·
   have l:=Q4 hb
   obtain⟨d,b7,g,w,h⟩:=Hz k l
   replace h:=Zi p h
   refine Gn (q (Js fun x=>Gx (Jr fun z=>(JLm (E8 boxes) O (JLm (E1 ashore) O (JLm (Ej c) O (JLh (.dptr [I64 d]) (H0 (f:=I64) (xs:=ashore) (y:=d) O O O Gz g O) O (JLh (I64 d) (Ge Gd O O O) O ?_))))))))
   obtain⟨a,a0,h⟩:=Gj h
   refine JLh (.tup [.agg (Box.cs a.1),BL a.2]) (Gw O (G06 boxes d a a0) H9c ⟨O,O,O,O,G⟩) O (JLm (.tup [.agg (Box.cs a.1),BL a.2]) O (JLh (.agg (Box.cs a.1)) (H4 O O O) O (JLh (BL a.2) (H4 O O O) O (JLh (.ptr 1015 0) (Jn 1015 9 Y1 O O) O (J9 (u:=.junk) (He (u:=.agg (Box.cs a.1)) (ds:=(Box.cs a.1)) Rk O O O O O O O O) (JLm (BL a.2) O (G8 (z ?_))))))))
   refine fzQ [(1,E8 boxes),(2,E2 state),(3,E1 ashore),(4,Ee s),(8,.ptr 1014 0),(10,Ej c),(11,Eg a.1),(12,BL a.2)] [(1014,.box 45 Kh)] 1015 rfl rfl rfl ⟨⟨_,rfl,.boxEq rfl rfl⟩,G⟩ rfl (Js fun a1=>?_)
   refine Qw (l':=[(1,E8 boxes),(2,E2 state),(3,E1 ashore),(4,Ee s),(8,.ptr 1014 0),(10,Ej c),(11,Eg a.1),(12,BL a.2)]) (L':=[(1014,.box 45 Kh)]) ⟨(.sm O O),⟨fbQ O (.sm O O),G⟩,rfl⟩ ?_
   obtain⟨b6,a2,h⟩:=Gj h
   obtain⟨e,a3,h⟩:=Gj h
   obtain⟨j,a4,h⟩:=Gj h
   refine JC_d0 Ho (by kernel_rfl) (Dq (BL a.2) (G7 O O) O (Dq (BL (!a.2)) (R2 (b:=a.2) O O) O (Dq (BL (!a.2)) (G7 O O) O (Do (.dptr ((Box.cs a.1).drop 2)) [] O .scf G (fun hc=>Gb Ym O O O) O (Do (U8 a.1.Size) [37] O .scf ⟨Ua,G⟩ (fun hc=>Ge Hm O O O) O (Do (BL (decide (a.1.Size≠20))) [38] O .scf ⟨Ua,G⟩ (fun hc=>G2c O O O) O (Do (BL (decide (a.1.Size≠20))) [39] O .scf ⟨Ua,G⟩ (fun hc=>G7 O O) O (Do (.dptr ((Box.cs a.1).drop 2)) [] O .optt G (fun hc=>Gb Ym O O O) O (Do (U8 a.1.Size) [41] O .optt ⟨Ua,G⟩ (fun hc=>Ge Hm O O O) O (Do (BL (decide (a.1.Size≠40))) [42] O .optt ⟨Ua,G⟩ (fun hc=>G2c O O O) O (Dg (.opt (!(!a.2)) (BL ((decide (a.1.Size≠20))&&(decide (a.1.Size≠40))))) (Gk [(40,BL (decide (a.1.Size≠20))),(43,_)] O O O .scf ⟨.all id,.part,G⟩ (fun hc=>Jv O O O O) O) O (Dq (BL ((!a.2)||((decide (a.1.Size≠20))&&(decide (a.1.Size≠40))))) (Ya O O O O) O (Dq (BL ((!a.2)||((decide (a.1.Size≠20))&&(decide (a.1.Size≠40))))) (G7 O O) O ?_)))))))))))))
   refine Do (Ej c) [] O .scf G (fun hc=>G7 O O) O (Do (BL (decide (0 < (c:Int)))) [47] O .scf ⟨Ua,G⟩ (fun hc=>G08 O O O) O (Do (BL (decide (0 < (c:Int)))) [48] O .scf ⟨Ua,G⟩ (fun hc=>G7 O O) O (Do (E1 ashore) [] O .optt G (fun hc=>G7 O O) O (Do (Ej c) [] O .optt G (fun hc=>G7 O O) O (Do (I64 b6) [51] O .optt ⟨Ua,G⟩ (fun hc=>H90 (G65 (H1 hc a2)) O O O) O (Do (.dptr [I64 e]) [50,52] O .optt ⟨Ua,Ua,G⟩ (fun hc=>(match R1 (H1 hc a3) with | ⟨_,hm_,hy_⟩=>H0 (f:=I64) (xs:=ashore) (y:=e) O O O Gz hy_ hm_)) O (Do (I64 e) [53] O .optt ⟨Ua,G⟩ (fun hc=>Ge Gd O O O) O (Do (E1 ashore) [] O .optt G (fun hc=>G7 O O) O (Do (Ej c) [] O .optt G (fun hc=>G7 O O) O (Do (.dptr [I64 d]) [55,56] O .optt ⟨Ua,Ua,G⟩ (fun hc=>H0 (f:=I64) (xs:=ashore) (y:=d) O O O Gz g O) O (Do (I64 d) [57] O .optt ⟨Ua,G⟩ (fun hc=>Ge Gd O O O) O (Do (BL (decide (d≤e))) [54,58] O .optt ⟨Ua,Ua,G⟩ (fun hc=>G4b O O O) O (Dg (.opt (!((!a.2)||((decide (a.1.Size≠20))&&(decide (a.1.Size≠40))))) (BL ((decide (0 < (c:Int)))&&(decide (d≤e))))) (Gk [(49,BL (decide (0 < (c:Int)))),(59,_)] O O O .scf ⟨.all id,.part,G⟩ (fun hc=>Jv O O O O) O) O ?_)))))))))))))
   refine Dq (BL (((!a.2)||((decide (a.1.Size≠20))&&(decide (a.1.Size≠40))))||((decide (0 < (c:Int)))&&(decide (d≤e))))) (Ya O O O O) O (Dq (BL (((!a.2)||((decide (a.1.Size≠20))&&(decide (a.1.Size≠40))))||((decide (0 < (c:Int)))&&(decide (d≤e))))) (G7 O O) O (Do (E2 state) [] O .scf G (fun hc=>G7 O O) O (Do (E1 ashore) [] O .scf G (fun hc=>G7 O O) O (Do (Ej c) [] O .scf G (fun hc=>G7 O O) O (Do (.dptr [I64 d]) [64,65] O .scf ⟨Ua,Ua,G⟩ (fun hc=>H0 (f:=I64) (xs:=ashore) (y:=d) O O O Gz g O) O (Do (I64 d) [66] O .scf ⟨Ua,G⟩ (fun hc=>Ge Gd O O O) O (Do (I64 j) [63,67] O .scf ⟨Ua,Ua,G⟩ (fun hc=>Gw (args:=[E2 state,I64 d]) O (Zo state d j (H1 hc a4)) H35 ⟨O,O,O,O,G⟩) O (Do (BL (decide (0≤j))) [68] O .scf ⟨Ua,G⟩ (fun hc=>G4b O O O) O (Dq (BL ((((!a.2)||((decide (a.1.Size≠20))&&(decide (a.1.Size≠40))))||((decide (0 < (c:Int)))&&(decide (d≤e))))||(decide (0≤j)))) (Ya O O O O) O (Dnil ?_))))))))))
   refine a1 (JCc O h (fun h hb=>?_) (fun h hb=>?_))
   ·
    refine Jr fun a5=>(JLh (.agg Kh) (Hj (cs:=Kh) [(0,13),(13,1),(14,1),(15,1),(16,1),(17,1)] Kh [.slice none 0 0,.slice none 0 0,E0,E0,E0,E0,.slice none 0 0,.slice none 0 0,.slice none 0 0,E0,E0,E0,E0,.slice none 0 0,.slice none 0 0,.slice none 0 0,.slice none 0 0,E0] H98 Ge5 ⟨.inr ⟨_,O,O⟩,.inr ⟨_,O,O⟩,.inl O,.inl O,.inl O,.inl O,.inr ⟨_,O,O⟩,.inr ⟨_,O,O⟩,.inr ⟨_,O,O⟩,.inl O,.inl O,.inl O,.inl O,.inr ⟨_,O,O⟩,.inr ⟨_,O,O⟩,.inr ⟨_,O,O⟩,.inr ⟨_,O,O⟩,.inl O,G⟩ O O) O (J9 (u:=.junk) (He (u:=.agg Kh) (ds:=Kh) Qf O O O O O O O O) (JLm (I64 2) O (G8 (a5 ?_)))))
    refine Gs (⟨[.agg Kh,I64 2],[],G,O,⟨⟨_,⟨_,_,_,_,O,O,O,.inl ⟨Ja,O⟩⟩,.conv (.same O)⟩,⟨_,O,.conv (.same O)⟩,G⟩,O,congrArg (fun r:Gq×Int=>(.tup [.agg (Gq.cs r.1),I64 r.2]:AV)) (M2 h)⟩)
   ·
    refine Gn (x (G2 (JLm (Ej c) O (JLh (I64 ((c+1:Nat):Int)) (Jo (Hw l v) O O O) O (JLm (I64 ((c+1:Nat):Int)) O (G8 (b5 _ _ (c+1) () (app1 w h) (by omega) ⟨(.sm O O),⟨fbQ O (.sm O O),G⟩,rfl⟩)))))))
  ·
   have h:=app1 n (J0 k (Hd hb))
   refine Hy (b2 ?_)
   refine Jr fun a6=>(JLh (.agg (G6.cs s)) (Gt Jm O O O) O (JLm (E8 boxes) O (JLm (E2 state) O (JLm (E1 ashore) O (JLh (.agg [E3 s.Columns,E7 s.Covers,I64 s.Light.Kilos,I64 s.Light.X,I64 s.Light.Y,I64 s.Light.Z,E4 s.Rows,E5 s.Frames,E6 s.Tanks,I64 s.G5.Tolerance,I64 s.G5.Trim,I64 s.G5.List_,I64 s.G5.Stability,E8 boxes,E2 state,E1 ashore,.sc (.slice none 0 0),I64 0]) (Hj (cs:=[E3 s.Columns,E7 s.Covers,I64 s.Light.Kilos,I64 s.Light.X,I64 s.Light.Y,I64 s.Light.Z,E4 s.Rows,E5 s.Frames,E6 s.Tanks,I64 s.G5.Tolerance,I64 s.G5.Trim,I64 s.G5.List_,I64 s.G5.Stability,E8 boxes,E2 state,E1 ashore,.sc (.slice none 0 0),I64 0]) [(0,13),(13,1),(14,1),(15,1),(16,1),(17,1)] Kh [.slice none 0 0,.slice none 0 0,E0,E0,E0,E0,.slice none 0 0,.slice none 0 0,.slice none 0 0,E0,E0,E0,E0,.slice none 0 0,.slice none 0 0,.slice none 0 0,.slice none 0 0,E0] H98 Ge5 ⟨.inr ⟨_,O,O⟩,.inr ⟨_,O,O⟩,.inl O,.inl O,.inl O,.inl O,.inr ⟨_,O,O⟩,.inr ⟨_,O,O⟩,.inr ⟨_,O,O⟩,.inl O,.inl O,.inl O,.inl O,.inr ⟨_,O,O⟩,.inr ⟨_,O,O⟩,.inr ⟨_,O,O⟩,.inr ⟨_,O,O⟩,.inl O,G⟩ O O) O (J9 (u:=.junk) (He (u:=.agg [E3 s.Columns,E7 s.Covers,I64 s.Light.Kilos,I64 s.Light.X,I64 s.Light.Y,I64 s.Light.Z,E4 s.Rows,E5 s.Frames,E6 s.Tanks,I64 s.G5.Tolerance,I64 s.G5.Trim,I64 s.G5.List_,I64 s.G5.Stability,E8 boxes,E2 state,E1 ashore,.sc (.slice none 0 0),I64 0]) (ds:=[E3 s.Columns,E7 s.Covers,I64 s.Light.Kilos,I64 s.Light.X,I64 s.Light.Y,I64 s.Light.Z,E4 s.Rows,E5 s.Frames,E6 s.Tanks,I64 s.G5.Tolerance,I64 s.G5.Trim,I64 s.G5.List_,I64 s.G5.Stability,E8 boxes,E2 state,E1 ashore,.sc (.slice none 0 0),I64 0]) Qf O O O O O O O O) (JLm (I64 0) O (G8 (a6 ?_)))))))))
   refine Gs (⟨[.agg [E3 s.Columns,E7 s.Covers,I64 s.Light.Kilos,I64 s.Light.X,I64 s.Light.Y,I64 s.Light.Z,E4 s.Rows,E5 s.Frames,E6 s.Tanks,I64 s.G5.Tolerance,I64 s.G5.Trim,I64 s.G5.List_,I64 s.G5.Stability,E8 boxes,E2 state,E1 ashore,E1 ([]:List Int),I64 0],I64 0],[],G,O,⟨⟨_,⟨_,_,_,_,O,O,O,.inl ⟨Ja,O⟩⟩,.agg ⟨.same O,.same O,.same O,.same O,.same O,.same O,.same O,.same O,.same O,.same O,.same O,.same O,.same O,.same O,.same O,.same O,.nil,.same O,G⟩⟩,⟨_,O,.conv (.same O)⟩,G⟩,O,congrArg (fun r:Gq×Int=>(.tup [.agg (Gq.cs r.1),I64 r.2]:AV)) (M2 h)⟩)

def Yx (l:List Int) (n:Int):Option Bool:=
 each (fun b d (c:Unit) a=>
  bif decide (b=n) then
  (some true)
  else
  (a ()))
 (fun(c:Unit)=>
  some false) l 0 ()
theorem Gd7 (l:List Int) (n:Int) (r:Bool) (h:Yx l n=some r):Pure Ek 36 [E1 l,I64 n] (·=BL r):=by
 unfold Yx at h
 refine H3 [.tmp 4] Tryz.func36 O O (Jr fun v=>(JLm (BL false) O (G8 (v (Js fun w=>Jr fun x=>(JLm (I64 0) O (G8 (x (Gx ?_)))))))))
 obtain⟨z,i,j,g,h⟩:=Jf h
 refine Hs (fun a (b:Unit)=>each z i (List.drop a l) a b=some r) (fun a b=>[(0,E1 l),(1,I64 n),(5,Ej a)]) (fun a b=>[]) (fun a=>l.length - a) 0 () h ⟨(.sm O O),G,O⟩ ?_
 clear h
 intro a b d a3 a0
 refine Js fun k=>Jr fun m=>(JLm (Ej a) O (JLm (E1 l) O (JLl Gz O O O fun a1=>(JLh (BL (decide ((a:Int) < (l.length:Int)))) (Jq O O O) O (G8 (m (Gp O (fun hb=>?_) (fun hb=>?_))))))))
 ·
  have e:=Q4 hb
  obtain⟨c,a2,o,p,h⟩:=Hz d e
  replace h:=Zi j h
  refine Gn (k (Js fun q=>Gx (Jr fun s=>(JLm (E1 l) O (JLm (Ej a) O (JLh (.dptr [I64 c]) (H0 (f:=I64) (xs:=l) (y:=c) O O O Gz o O) O (JLh (I64 c) (Ge Gd O O O) O (JLm (I64 n) O (JLh (BL (decide (c=n))) (Jk O O O) O (G8 (s (JCc O h (fun h hb=>?_) (fun h hb=>?_)))))))))))))
  ·
   refine Jr fun t=>(JLm (BL true) O (G8 (t (Gs (fin1 BL h)))))
  ·
   refine Gn (q (G2 (JLm (Ej a) O (JLh (I64 ((a+1:Nat):Int)) (Jo (Hw e a1) O O O) O (JLm (I64 ((a+1:Nat):Int)) O (G8 (a0 _ _ (a+1) () (app1 p h) (by omega) ⟨(.sm O O),G,rfl⟩)))))))
 ·
  have h:=app1 g (J0 d (Hd hb))
  refine Hy (w (Jr fun u=>(JLm (BL false) O (G8 (u (Gs (fin1 BL h)))))))

def Rt (l:List Int) (n:Int):Option (List Int):=
 each (fun b f (a:(List Int)) d=>
  jp (fun c=>
   bif decide (b≠n) then
   (need (decide ((a.length+[b].length)*8≤140737488355328∧a.length+[b].length≤maxLen)) <|
    c (a++[b]))
   else
   (c a)) fun(e:(List Int))=>
  d e)
 (fun(a:(List Int))=>
  some a) l 0 []
theorem G82 (l:List Int) (n:Int) (r:(List Int)) (h:Rt l n=some r):Pure Ek 38 [E1 l,I64 n] (·=E1 r):=by
 unfold Rt at h
 refine H3 [.tmp 4] Tryz.func38 O O (Jr fun x=>(JLh (E1 ([]:List Int)) (Jb 1 O O) O (G8 (x (Jr fun z=>(JLh (OW 1055 1 I64 ([]:List Int)) (Gb9 1055 3 1 O O O) O (G8 (z (Js fun a0=>Jr fun a1=>(JLm (I64 0) O (G8 (a1 (Gx ?_)))))))))))))
 obtain⟨a2,m,o,j,h⟩:=Jf h
 refine Hs (fun a (b:(List Int))=>each a2 m (List.drop a l) a b=some r) (fun a b=>[(0,E1 l),(1,I64 n),(5,OW 1055 1 I64 b),(6,Ej a)]) (fun a b=>[(1055,.spare 3 1 b.length b.length)]) (fun a=>l.length - a) 0 [] h ⟨(.sm O O),⟨⟨_,rfl,.same⟩,G⟩,rfl⟩ ?_
 clear h
 intro a b e a6 a3
 refine Js fun p=>Jr fun q=>(JLm (Ej a) O (JLm (E1 l) O (JLl Gz O O O fun a4=>(JLh (BL (decide ((a:Int) < (l.length:Int)))) (Jq O O O) O (G8 (q (Gp O (fun hb=>?_) (fun hb=>?_))))))))
 ·
  have g:=Q4 hb
  obtain⟨c,a5,i,s,h⟩:=Hz e g
  replace h:=Zi o h
  refine Gn (p ?_)
  obtain⟨t,k,h⟩:=Ga2 h
  refine G4d (fun d:(List Int)=>t d=some r) (fun d=>[(0,E1 l),(1,I64 n),(5,OW 1055 1 I64 d),(6,Ej a)]) (fun d=>[(1055,.spare 3 1 d.length d.length)]) (fun Kj25 ej25=>?_) ?_
  ·
   refine Gx (Jr fun u=>(JLm (E1 l) O (JLm (Ej a) O (JLh (.dptr [I64 c]) (H0 (f:=I64) (xs:=l) (y:=c) O O O Gz i O) O (JLh (I64 c) (Ge Gd O O O) O (JLm (I64 n) O (JLh (BL (decide (c≠n))) (G2c O O O) O (G8 (u (JCc O h (fun h hb=>?_) (fun h hb=>?_)))))))))))
   ·
    refine G2 (JLm (OW 1055 1 I64 b) O (JLm (E1 l) O (JLm (Ej a) O (JLh (.dptr [I64 c]) (H0 (f:=I64) (xs:=l) (y:=c) O O O Gz i O) O (JLh (I64 c) (Ge Gd O O O) O (JLh (E1 [c]) (J2 (xs:=[I64 c]) O ⟨O,O,G⟩ Gz Yr O O O O) O ?_))))))
    obtain⟨v,h⟩:=Qa h
    refine JLh (OW 1055 1 I64 (b++[c])) (Z1 (f:=I64) (xs:=b) (ys:=[c]) O O O O Gz G31 v (fun _=>O) (.inl O) O) O (JLm (OW 1055 1 I64 (b++[c])) O (G8 (ej25 _ _ (b++[c]) h ⟨(.sm O O),⟨⟨_,rfl,.same⟩,G⟩,rfl⟩)))
   ·
    refine Gn (ej25 _ _ b h ⟨(.sm O O),⟨⟨_,rfl,.same⟩,G⟩,rfl⟩)
  ·intro d h
   replace h:=app1 k h
   refine G2 (JLm (Ej a) O (JLh (I64 ((a+1:Nat):Int)) (Jo (Hw g a4) O O O) O (JLm (I64 ((a+1:Nat):Int)) O (G8 (a3 _ _ (a+1) d (app1 s h) (by omega) ⟨(.sm O O),⟨⟨_,rfl,.same⟩,G⟩,rfl⟩)))))
 ·
  have h:=app1 j (J0 e (Hd hb))
  refine Hy (a0 (Jr fun w=>(JLm (OW 1055 1 I64 b) O (JLm (OW 1055 1 I64 b) O (G8 (w (Gs (fin1l (fun r:(List Int)=>(E1 r:AV)) h))))))))

def Hv (F:Nat) (s:G6) (boxes:List Box) (l:List G3) (open_:List Int):Option Bool:=
 each (fun a b (d:Unit) c=>
  bnd (bif ((!((decide (a < 0))||(decide ((s.Covers.length:Int)≤a))))&&(decide (0 < (b:Int)))) then chk ((b:Int) - 1) some else some 0) fun e=>
  bnd (bif ((!((decide (a < 0))||(decide ((s.Covers.length:Int)≤a))))&&(decide (0 < (b:Int)))) then Qr open_ e some else some default) fun f=>
  bif (((decide (a < 0))||(decide ((s.Covers.length:Int)≤a)))||((decide (0 < (b:Int)))&&(decide (a≤f)))) then
  (some false)
  else
  (c ()))
 (fun(d:Unit)=>
  bnd (Qu F s boxes l) fun g=>
  some g) open_ 0 ()
theorem G28 (F:Nat) (s:G6) (boxes:List Box) (l:List G3) (open_:List Int) (r:Bool) (h:Hv F s boxes l open_=some r):Pure Ek 67 [.agg (G6.cs s),E8 boxes,E2 l,E1 open_] (·=BL r):=by
 unfold Hv at h
 refine H3 [.tmp 8] Tryz.func67 O O (Jr fun a2=>(JLh (.ptr 1103 0) (Ju (cs:=(G6.cs s)) 1103 O O O O O) O (JLm (BL false) O (G8 (a2 (fzQ [(1,E8 boxes),(2,E2 l),(3,E1 open_),(4,Ee s)] [] 1103 rfl rfl rfl G rfl (Js fun a3=>Jr fun a4=>(JLm (I64 0) O (G8 (a4 (Gx ?_)))))))))))
 obtain⟨a5,m,n,k,h⟩:=Jf h
 refine Hs (fun a (e:Unit)=>each a5 m (List.drop a open_) a e=some r) (fun a e=>[(1,E8 boxes),(2,E2 l),(3,E1 open_),(4,Ee s),(9,Ej a)]) (fun a e=>[]) (fun a=>open_.length - a) 0 () h ⟨(.sm O O),G,rfl⟩ ?_
 clear h
 intro a e g a9 a6
 refine Js fun o=>Jr fun p=>(JLm (Ej a) O (JLm (E1 open_) O (JLl Gz O O O fun q=>(JLh (BL (decide ((a:Int) < (open_.length:Int)))) (Jq O O O) O (G8 (p (Gp O (fun hb=>?_) (fun hb=>?_))))))))
 ·
  have i:=Q4 hb
  obtain⟨b,a8,d,t,h⟩:=Hz g i
  replace h:=Zi n h
  refine Gn (o (Js fun u=>Gx (Js fun v=>?_)))
  obtain⟨a7,w,h⟩:=Gj h
  obtain⟨c,x,h⟩:=Gj h
  refine JC_d0 Ho (by kernel_rfl) (Dq (E1 open_) (G7 O O) O (Dq (Ej a) (G7 O O) O (Dq (.dptr [I64 b]) (H0 (f:=I64) (xs:=open_) (y:=b) O O O Gz d O) O (Dq (I64 b) (Ge Gd O O O) O (Dq (BL (decide (b < 0))) (Jq O O O) O (Dq (BL (decide (b < 0))) (G7 O O) O (Do (E1 open_) [] O .scf G (fun hc=>G7 O O) O (Do (Ej a) [] O .scf G (fun hc=>G7 O O) O (Do (.dptr [I64 b]) [22,23] O .scf ⟨Ua,Ua,G⟩ (fun hc=>H0 (f:=I64) (xs:=open_) (y:=b) O O O Gz d O) O (Do (I64 b) [24] O .scf ⟨Ua,G⟩ (fun hc=>Ge Gd O O O) O (Do (.dptr ((G6.cs s).drop 1)) [] O .scf G (fun hc=>Gb Jc O O O) O (Do (E7 s.Covers) [26] O .scf ⟨Ua,G⟩ (fun hc=>Ge Ji O O O) O (Do (Ej s.Covers.length) [27] O .scf ⟨Ua,G⟩ (fun hc=>G2d (f:=Ga.av) (xs:=s.Covers) J7 O O) O ?_)))))))))))))
  refine Do (BL (decide ((s.Covers.length:Int)≤b))) [25,28] O .scf ⟨Ua,Ua,G⟩ (fun hc=>G4b O O O) O (Dq (BL ((decide (b < 0))||(decide ((s.Covers.length:Int)≤b)))) (Ya O O O O) O (Dq (BL ((decide (b < 0))||(decide ((s.Covers.length:Int)≤b)))) (G7 O O) O (Do (Ej a) [] O .scf G (fun hc=>G7 O O) O (Do (BL (decide (0 < (a:Int)))) [32] O .scf ⟨Ua,G⟩ (fun hc=>G08 O O O) O (Do (BL (decide (0 < (a:Int)))) [33] O .scf ⟨Ua,G⟩ (fun hc=>G7 O O) O (Do (E1 open_) [] O .optt G (fun hc=>G7 O O) O (Do (Ej a) [] O .optt G (fun hc=>G7 O O) O (Do (I64 a7) [36] O .optt ⟨Ua,G⟩ (fun hc=>H90 (G65 (H1 hc w)) O O O) O (Do (.dptr [I64 c]) [35,37] O .optt ⟨Ua,Ua,G⟩ (fun hc=>(match R1 (H1 hc x) with | ⟨_,hm_,hy_⟩=>H0 (f:=I64) (xs:=open_) (y:=c) O O O Gz hy_ hm_)) O (Do (I64 c) [38] O .optt ⟨Ua,G⟩ (fun hc=>Ge Gd O O O) O (Do (E1 open_) [] O .optt G (fun hc=>G7 O O) O (Do (Ej a) [] O .optt G (fun hc=>G7 O O) O (Do (.dptr [I64 b]) [40,41] O .optt ⟨Ua,Ua,G⟩ (fun hc=>H0 (f:=I64) (xs:=open_) (y:=b) O O O Gz d O) O ?_)))))))))))))
  refine Do (I64 b) [42] O .optt ⟨Ua,G⟩ (fun hc=>Ge Gd O O O) O (Do (BL (decide (b≤c))) [39,43] O .optt ⟨Ua,Ua,G⟩ (fun hc=>G4b O O O) O (Dg (.opt (!((decide (b < 0))||(decide ((s.Covers.length:Int)≤b)))) (BL ((decide (0 < (a:Int)))&&(decide (b≤c))))) (Gk [(34,BL (decide (0 < (a:Int)))),(44,_)] O O O .scf ⟨.all id,.part,G⟩ (fun hc=>Jv O O O O) O) O (Dq (BL (((decide (b < 0))||(decide ((s.Covers.length:Int)≤b)))||((decide (0 < (a:Int)))&&(decide (b≤c))))) (Ya O O O O) O (Dnil (v (JCc O h (fun h hb=>?_) (fun h hb=>?_)))))))
  ·
   refine Jr fun z=>(JLm (BL false) O (G8 (z (Gs (fin1 BL h)))))
  ·
   refine Gn (u (G2 (JLm (Ej a) O (JLh (I64 ((a+1:Nat):Int)) (Jo (Hw i q) O O O) O (JLm (I64 ((a+1:Nat):Int)) O (G8 (a6 _ _ (a+1) () (app1 t h) (by omega) ⟨(.sm O O),G,rfl⟩)))))))
 ·
  have h:=app1 k (J0 g (Hd hb))
  refine Hy (a3 (Jr fun a0=>(JLh (.agg (G6.cs s)) (Gt Jm O O O) O (JLm (E8 boxes) O (JLm (E2 l) O ?_)))))
  obtain⟨j,a1,h⟩:=Gj h
  refine JLh (BL j) (Gw O (Gad F s boxes l j a1) Jff ⟨O,O,O,O,O,O,G⟩) O (JLm (BL j) O (G8 (a0 (Gs (fin1 BL h)))))
end
end Go.Proofs.YtmfhaflabpnaoaaGreat
