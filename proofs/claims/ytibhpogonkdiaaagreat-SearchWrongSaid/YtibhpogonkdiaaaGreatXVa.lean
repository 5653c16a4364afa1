/- Walks of functions. -/
import Derived.Test.YtibhpogonkdiaaaGreatXL
set_option linter.unnecessarySimpa false
set_option maxRecDepth 100000
set_option maxHeartbeats 1000000
set_option linter.unusedVariables false
set_option linter.unusedSimpArgs false
namespace Go.Proofs.YtibhpogonkdiaaaGreat
open Go.RowKit
noncomputable section
structure Jb where
 G5:Int
 Kilos:Int
 Load:Int
 Stay:Int
 Small:Bool
 High:Bool
 deriving DecidableEq,Inhabited
def Jb.cs (x:Jb):List AV:=[U8 x.G5,U8 x.Kilos,U8 x.Load,U8 x.Stay,BL x.Small,BL x.High]
def Jb.av (x:Jb):AV:=.agg x.cs
structure H2 where
 Bay:Int
 Row:Int
 Tiers:Int
 Deck:Bool
 deriving DecidableEq,Inhabited
def H2.cs (x:H2):List AV:=[U8 x.Bay,U8 x.Row,U8 x.Tiers,BL x.Deck]
def H2.av (x:H2):AV:=.agg x.cs
abbrev Ee:=LS 4 H2.av
namespace XVF
open XAF
open XCF
open XFF
open XSF
open XLF
theorem Qc1:G8f Em 133 4=true:=by kernel_rfl
theorem Qbe:He Em 19=true:=by kernel_rfl
theorem Qaf:He Em 55=true:=by kernel_rfl
theorem Q9e:He Em 95=true:=by kernel_rfl
theorem Q9d:He Em 96=true:=by kernel_rfl
theorem J15:Rq Em 137 2 32=true:=by kernel_rfl
theorem H32:Rq Em 41 12 112=true:=by kernel_rfl
theorem J5b:Jn Em 133 0 0=true:=by kernel_rfl
theorem J5a:Jn Em 133 1 1=true:=by kernel_rfl
theorem J59:Jn Em 133 2 2=true:=by kernel_rfl
theorem J58:Jn Em 133 3 3=true:=by kernel_rfl
theorem G39:Hfa Em 3 .i64=true:=by kernel_rfl
theorem G38:Hfa Em 5 .u8=true:=by kernel_rfl
theorem H90:placesOf Em 137=some [(0,1),(1,1)]:=by kernel_rfl
theorem G75:placesOf Em 41=some [(0,1),(1,1),(2,1),(3,1),(4,1),(5,1),(6,1),(7,1),(8,1),(9,1),(10,1),(11,1)]:=by kernel_rfl
theorem Q39:R2 Em 133 4=true:=by kernel_rfl
theorem H2f:R2 Em 24 1=true:=by kernel_rfl
theorem J53:R2 Em 25 1=true:=by kernel_rfl
theorem G37:R2 Em 34 13=true:=by kernel_rfl
theorem G68:sliceB Em 22 133 4=true:=by kernel_rfl
theorem J12:(Em.info? 137).bind (fun i=>i.zero.map Value.cells)=some (List.toArray [E0,.slice none 0 0]):=by kernel_rfl
theorem G95:(Em.info? 34).bind (fun i=>i.zero.map Value.cells)=some (List.toArray [.slice none 0 0,.slice none 0 0,E0,E0,E0,E0,.slice none 0 0,.slice none 0 0,.slice none 0 0,E0,E0,E0,E0]):=by kernel_rfl
theorem Gdc:(Em.info? 41).bind (fun i=>i.zero.map Value.cells)=some (List.toArray [E0,E0,.bool false,E0,E0,E0,E0,E0,.slice none 0 0,E0,E0,E0]):=by kernel_rfl
theorem Jff:Qf Em 133 4=true:=by kernel_rfl
theorem Gb1:Qf Em 34 13=true:=by kernel_rfl
theorem Za:Qf Em 48 2=true:=by kernel_rfl
end XVF
open XAF
open XCF
open XFF
open XSF
open XLF
open XVF

def Gac (c:G5) (a:Int) (b:Int) (d:Bool):Option Bool:=
 some (((decide (c.Bay=a))&&(decide (c.Row=b)))&&(c.Deck==d))
theorem J41 (c:G5) (a:Int) (b:Int) (d:Bool) (r:Bool) (h:Gac c a b d=some r):Pure Em 96 [.agg (G5.cs c),.dptr [I64 a],.dptr [I64 b],.dptr [BL d]] (·=BL r):=by
 unfold Gac at h
 refine H7 [.tmp 5] Tryz.func96 O O (Jr fun e=>(JLh (.ptr 1164 0) (Jx (cs:=(G5.cs c)) 1164 O O O O O) O (JLm (BL false) O (G6 (e (fzQ [(1,.dptr [I64 a]),(2,.dptr [I64 b]),(3,.dptr [BL d]),(4,Eh c)] [] 1164 rfl rfl rfl ø rfl ?_))))))
 refine Jr fun f=>(JLh (Eh c) (Gd G2c O O O) O (JLh (I64 c.Bay) (Gf G9 O O O) O (JLh (I64 a) (Gf G9 O O O) O (JLh (BL (decide (c.Bay=a))) (Q4 O O O) O (JLm (BL (decide (c.Bay=a))) O (JLo (.dptr ((G5.cs c).drop 1)) [] O .sct ø (fun hc=>Gd G2b O O O) O (JLo (I64 c.Row) [11] O .sct ⟨Ua,ø⟩ (fun hc=>Gf G9 O O O) O (JLo (I64 b) [] O .sct ø (fun hc=>Gf G9 O O O) O (JLo (BL (decide (c.Row=b))) [12,13] O .sct ⟨Ua,Ua,ø⟩ (fun hc=>Q4 O O O) O (JLh (BL ((decide (c.Bay=a))&&(decide (c.Row=b)))) (Qs O O O O) O (JLm (BL ((decide (c.Bay=a))&&(decide (c.Row=b)))) O (JLo (.dptr ((G5.cs c).drop 2)) [] O .sct ø (fun hc=>Gd G2a O O O) O (JLo (BL c.Deck) [17] O .sct ⟨Ua,ø⟩ (fun hc=>Gf Rs O O O) O ?_)))))))))))))
 refine JLo (BL d) [] O .sct ø (fun hc=>Gf Rs O O O) O (JLo (BL (c.Deck==d)) [18,19] O .sct ⟨Ua,Ua,ø⟩ (fun hc=>R93 Jd0 O O O) O (JLh (BL (((decide (c.Bay=a))&&(decide (c.Row=b)))&&(c.Deck==d))) (Qs O O O O) O (JLm (BL (((decide (c.Bay=a))&&(decide (c.Row=b)))&&(c.Deck==d))) O (G6 (f (Gy (fin1 BL h)))))))

def Ru (l:List G5) (wanted:G5→Option Bool):Option (List Int):=
 each (fun e b (a:(List Int)) d=>
  jp (fun c=>
   bnd (wanted e) fun f=>
   bif f then
   (need (decide ((a.length+[(b:Int)].length)*8≤140737488355328∧a.length+[(b:Int)].length≤maxLen)) <|
    c (a++[(b:Int)]))
   else
   (c a)) fun(g:(List Int))=>
  d g)
 (fun(a:(List Int))=>
  some a) l 0 []
theorem Gf7 (l:List G5) (wanted:G5→Option Bool) (wanted_f:FuncId) (wanted_c:List AV) (wanted_B:He Em wanted_f=true) (wanted_d:Qe (fun _=>false) wanted_c=true) (wanted_w:∀ a0 q,wanted a0=some q→Pure Em wanted_f ([.agg (G5.cs a0)]++wanted_c) (·=BL q)) (r:(List Int)) (h:Ru l wanted=some r):Pure Em 95 [Ea l,.fn wanted_f wanted_c] (·=E5 r):=by
 unfold Ru at h
 refine H7 [.tmp 4] Tryz.func95 O O (Jr fun a2=>(JLh (E5 ([]:List Int)) (Qh 1 O O) O (G6 (a2 (Jr fun a3=>(JLh (OW 1162 1 I64 ([]:List Int)) (G3e 1162 3 1 O O O) O (G6 (a3 (Js fun a4=>Jr fun a5=>(JLm (Ea l) O (JLl Hj O O O fun a6=>(JLm (I64 0) O (G6 (a5 (Gk ?_)))))))))))))))
 obtain⟨a7,k,m,i,h⟩:=J3 h
 refine Hi (fun a (b:(List Int))=>each a7 k (List.drop a l) a b=some r) (fun a b=>[(1,.fn wanted_f wanted_c),(5,OW 1162 1 I64 b),(8,Ea l),(9,Ek l.length),(10,Ek a)]) (fun a b=>[(1162,.spare 3 1 b.length b.length)]) (fun a=>l.length - a) 0 [] h ⟨⟨.same (Jt _ _ wanted_d),.same O,.same O,.same O,.same O,ø⟩,⟨⟨_,O,.same⟩,ø⟩,O⟩ ?_
 clear h
 intro a b e b1 a8
 refine Jr fun n=>(JLh (BL (decide ((a:Int) < (l.length:Int)))) (Jc O O O) O (G6 (n (Js fun o=>Gn O (fun hb=>?_) (fun hb=>?_)))))
 ·
  have g:=Jk hb
  obtain⟨c,b0,p,s,h⟩:=Hr e g
  replace h:=Ry m h
  refine Gp (o ?_)
  obtain⟨t,j,h⟩:=R1 h
  refine Qa (fun d:(List Int)=>t d=some r) (fun d=>[(1,.fn wanted_f wanted_c),(5,OW 1162 1 I64 d),(8,Ea l),(9,Ek l.length),(10,Ek a)]) (fun d=>[(1162,.spare 3 1 d.length d.length)]) (fun Kj24 ej24=>?_) ?_
  ·
   refine Gk (Jr fun v=>(JLm (Ek a) O (JLh (Eh c) (H3 (f:=G5.av) (xs:=l) (y:=c) O O O Hj p O) O (JLh (.agg (G5.cs c)) (Gi G44 O O O) O (JLh (.ptr 1163 0) (Hd 1163 12 Yq O O) O (JLm (Ek a) O (Hb (u:=.junk) (Gz (u:=.agg (G5.cs c)) (ds:=(G5.cs c)) G96 O O O O O O O O) (G6 (v ?_)))))))))
   refine Gj [(1,.fn wanted_f wanted_c),(5,OW 1162 1 I64 b),(6,Ek a),(7,Eh c),(8,Ea l),(9,Ek l.length),(10,Ek a)] [(1162,.spare 3 1 b.length b.length)] 1163 rfl rfl rfl ⟨⟨_,rfl,.same⟩,ø⟩ rfl (by exact⟨.conv (.same (Jt _ _ wanted_d)),.conv (.same rfl),.conv (.same rfl),.ptr,.conv (.same rfl),.conv (.same rfl),.conv (.same rfl),ø⟩) (Jr fun w=>(JLm (.fn wanted_f wanted_c) O (JLh (.agg (G5.cs c)) (Gi G44 O O O) O ?_)))
   obtain⟨a9,x,h⟩:=Gh h
   refine JLh (BL a9) (G18 (args:=[.agg (G5.cs c)]) (caps:=wanted_c) O O (wanted_w c _ x) wanted_B ⟨O,O,ø⟩ wanted_d) O (G6 (w (JCc O h (fun h hb=>?_) (fun h hb=>?_))))
   ·
    refine G2 (JLm (OW 1162 1 I64 b) O (JLm (Ek a) O (JLh (E5 [(a:Int)]) (H8 (xs:=[Ek a]) O ⟨O,O,ø⟩ Gx R0 O O O O) O ?_)))
    obtain⟨z,h⟩:=J0 h
    refine JLh (OW 1162 1 I64 (b++[(a:Int)])) (Qz (f:=I64) (xs:=b) (ys:=[(a:Int)]) O O O O Gx G43 z (fun _=>O) (.inl O) O) O (JLm (OW 1162 1 I64 (b++[(a:Int)])) O (G6 (ej24 _ _ (b++[(a:Int)]) h ⟨⟨.same (Jt _ _ wanted_d),.same O,.same O,.same O,.same O,ø⟩,⟨⟨_,O,.same⟩,ø⟩,O⟩)))
   ·
    refine Gp (ej24 _ _ b h ⟨⟨.same (Jt _ _ wanted_d),.same O,.same O,.same O,.same O,ø⟩,⟨⟨_,O,.same⟩,ø⟩,O⟩)
  ·intro d h
   replace h:=app1 j h
   refine G2 (JLh (I64 ((a+1:Nat):Int)) (Hv (Ha g a6) O O O) O (JLm (I64 ((a+1:Nat):Int)) O (G6 (a8 _ _ (a+1) d (app1 s h) (by omega) ⟨⟨.same (Jt _ _ wanted_d),.same rfl,.same rfl,.same rfl,.same rfl,ø⟩,⟨⟨_,rfl,.same⟩,ø⟩,rfl⟩))))
 ·
  have h:=app1 i (Hs e (H9 hb))
  refine Ho (a4 (Jr fun a1=>(JLm (OW 1162 1 I64 b) O (JLm (OW 1162 1 I64 b) O (G6 (a1 (Gy (fin1l (fun r:(List Int)=>(E5 r:AV)) h))))))))

def Gbb (s:Ge) (bay:Int) (row:Int) (deck:Bool):Option (Int×Bool):=
 bnd (Ru s.Columns (fun z0=>Gac z0 bay row deck)) fun a=>
 bif decide ((a.length:Int)=0) then
 (some (0,false))
 else
 (Jz a 0 fun b=>
  some (b,true))
theorem Jc3 (s:Ge) (bay:Int) (row:Int) (deck:Bool) (r:Int×Bool) (h:Gbb s bay row deck=some r):Pure Em 55 [.agg (Ge.cs s),I64 bay,I64 row,BL deck] (·=.tup [I64 r.1,BL r.2]):=by
 unfold Gbb at h
 refine H7 [.tmp 8,.tmp 9] Tryz.func55 O O (Jr fun c=>(JLh (.ptr 1122 0) (Jx (cs:=(Ge.cs s)) 1122 O O O O O) O (JLh (.ptr 1123 0) (Jx (cs:=[I64 bay]) 1123 O O O O O) O (JLh (.ptr 1124 0) (Jx (cs:=[I64 row]) 1124 O O O O O) O (JLh (.ptr 1125 0) (Jx (cs:=[BL deck]) 1125 O O O O O) O (JLm (I64 0) O (JLm (BL false) O (G6 (c ?_)))))))))
 refine fzQ [(4,Ef s),(5,.ptr 1123 0),(6,.ptr 1124 0),(7,.ptr 1125 0)] [(1123,.box 3 [I64 bay]),(1124,.box 3 [I64 row]),(1125,.box 4 [BL deck])] 1122 rfl rfl rfl ⟨⟨_,rfl,.boxEq rfl rfl⟩,⟨_,rfl,.boxEq rfl rfl⟩,⟨_,rfl,.boxEq rfl rfl⟩,ø⟩ rfl (fzQ [(4,Ef s),(5,.dptr [I64 bay]),(6,.ptr 1124 0),(7,.ptr 1125 0)] [(1124,.box 3 [I64 row]),(1125,.box 4 [BL deck])] 1123 rfl rfl rfl ⟨⟨_,rfl,.boxEq rfl rfl⟩,⟨_,rfl,.boxEq rfl rfl⟩,ø⟩ rfl ?_)
 refine fzQ [(4,Ef s),(5,.dptr [I64 bay]),(6,.dptr [I64 row]),(7,.ptr 1125 0)] [(1125,.box 4 [BL deck])] 1124 rfl rfl rfl ⟨⟨_,rfl,.boxEq rfl rfl⟩,ø⟩ rfl (fzQ [(4,Ef s),(5,.dptr [I64 bay]),(6,.dptr [I64 row]),(7,.dptr [BL deck])] [] 1125 rfl rfl rfl ø rfl (Jr fun d=>(JLh (Ef s) (Gd Hk O O O) O (JLh (Ea s.Columns) (Gf J2 O O O) O (JLh (.fn 96 [.dptr [I64 bay],.dptr [I64 row],.dptr [BL deck]]) (Yh (cs:=[.dptr [I64 bay],.dptr [I64 row],.dptr [BL deck]]) O O) O ?_)))))
 obtain⟨a,e,h⟩:=Gh h
 refine JLh (E5 a) (H0 O (Gf7 s.Columns (fun z0=>Gac z0 bay row deck) 96 [.dptr [I64 bay],.dptr [I64 row],.dptr [BL deck]] Q9d O (fun z0 q hq=>J41 z0 bay row deck q hq) a e) Q9e ⟨O,O,O,O,ø⟩) O (JLm (E5 a) O (G6 (d (Js fun g=>Jr fun i=>(JLm (E5 a) O (JLl Gx O O O fun n=>(JLh (BL (decide ((a.length:Int)=0))) (Q4 O O O) O (G6 (i (JCc O h (fun h hb=>?_) (fun h hb=>?_)))))))))))
 ·
  refine Jr fun j=>(JLm (I64 0) O (JLm (BL false) O (G6 (j (Gy (⟨[I64 0,BL false],[],ø,O,⟨⟨_,O,.conv (.same O)⟩,⟨_,O,.conv (.same O)⟩,ø⟩,O,congrArg (fun r:Int×Bool=>(.tup [I64 r.1,BL r.2]:AV)) (M0 h)⟩))))))
 ·
  refine Gp (g (Jr fun k=>(JLm (E5 a) O ?_)))
  obtain⟨o,b,l,m,h⟩:=Qm h
  refine JLh (.dptr [I64 b]) (H3 (f:=I64) (xs:=a) (y:=b) O O O Gx m l) O (JLh (I64 b) (Gf G9 O O O) O (JLm (I64 b) O (JLm (BL true) O (G6 (k (Gy (⟨[I64 b,BL true],[],ø,O,⟨⟨_,O,.conv (.same O)⟩,⟨_,O,.conv (.same O)⟩,ø⟩,O,congrArg (fun r:Int×Bool=>(.tup [I64 r.1,BL r.2]:AV)) (M0 h)⟩)))))))

def R7 (l:List H2) (covers:Int):Option Ge:=
 bnd (Gc7 (min (l.length:Int) 12) l.length) fun m5=>
 each (fun c a9 (a:(List Gt)×Int×Int×Int×Int×(List Row)×(List Frame)×(List Hw)×Int×Int×Int×Int×(List G5)) r=>
  jp (fun m=>
   chk (c.Bay) fun t=>
   bnd (Gfe t 5) fun e=>
   chk (c.Row) fun u=>
   bnd (Gfe u 5) fun f=>
   chk (c.Tiers) fun v=>
   bnd (Gfe v 4) fun w=>
   chk (2+w) fun h=>
   chk (13000*e) fun x=>
   chk (x - 26000) fun i=>
   chk (2500*f) fun y=>
   chk (y - 5000) fun j=>
   jp (fun n=>
    bif c.Deck then
    (n 20000)
    else
    (n 2000)) fun(k:Int)=>
   bnd (Gbb (Ge.mk a.2.2.2.2.2.2.2.2.2.2.2.2 a.1 (Light.mk a.2.1 a.2.2.1 a.2.2.2.1 a.2.2.2.2.1) a.2.2.2.2.2.1 a.2.2.2.2.2.2.1 a.2.2.2.2.2.2.2.1 (Gg.mk a.2.2.2.2.2.2.2.2.1 a.2.2.2.2.2.2.2.2.2.1 a.2.2.2.2.2.2.2.2.2.2.1 a.2.2.2.2.2.2.2.2.2.2.2.1)) e f c.Deck) fun z=>
   bif (!z.2) then
   (need (decide ((a.2.2.2.2.2.2.2.2.2.2.2.2.length+[(G5.mk e f c.Deck h 0 500000000 500000000 0 [] i j k)].length)*112≤140737488355328∧a.2.2.2.2.2.2.2.2.2.2.2.2.length+[(G5.mk e f c.Deck h 0 500000000 500000000 0 [] i j k)].length≤maxLen)) <|
    m (a.2.2.2.2.2.2.2.2.2.2.2.2++[(G5.mk e f c.Deck h 0 500000000 500000000 0 [] i j k)]))
   else
   (m a.2.2.2.2.2.2.2.2.2.2.2.2)) fun(a0:(List G5))=>
  r (a.1,a.2.1,a.2.2.1,a.2.2.2.1,a.2.2.2.2.1,a.2.2.2.2.2.1,a.2.2.2.2.2.2.1,a.2.2.2.2.2.2.2.1,a.2.2.2.2.2.2.2.2.1,a.2.2.2.2.2.2.2.2.2.1,a.2.2.2.2.2.2.2.2.2.2.1,a.2.2.2.2.2.2.2.2.2.2.2.1,a0))
 (fun(a:(List Gt)×Int×Int×Int×Int×(List Row)×(List Frame)×(List Hw)×Int×Int×Int×Int×(List G5))=>
  jp (fun o=>
   bif decide ((a.2.2.2.2.2.2.2.2.2.2.2.2.length:Int)=0) then
   (o ([(G5.mk 0 0 false 3 0 500000000 500000000 0 [] 0 0 2000)]))
   else
   (o a.2.2.2.2.2.2.2.2.2.2.2.2)) fun(a1:(List G5))=>
  need (decide (5≤9223372036854775807)) <|
  upto (fun d (b:(List Gt)×Int×Int×Int×Int×(List Row)×(List Frame)×(List Hw)×Int×Int×Int×Int) s=>
   jp (fun p=>
    jp (fun q=>
     chk (2*(d:Int)) fun a2=>
     bnd (Gc7 a2 4294967295) fun a3=>
     bif decide ((Q72 .u32 (Q0a .u32 covers a3) 1)=1) then
     (need (decide ((b.1.length+[(Gt.mk (d:Int) [0,1])].length)*32≤140737488355328∧b.1.length+[(Gt.mk (d:Int) [0,1])].length≤maxLen)) <|
      q (b.1++[(Gt.mk (d:Int) [0,1])]))
     else
     (q b.1)) fun(g:(List Gt))=>
    chk (2*(d:Int)) fun a4=>
    chk (a4+1) fun a5=>
    bnd (Gc7 a5 4294967295) fun a6=>
    bif decide ((Q72 .u32 (Q0a .u32 covers a6) 1)=1) then
    (need (decide ((g.length+[(Gt.mk (d:Int) [2,3,4])].length)*32≤140737488355328∧g.length+[(Gt.mk (d:Int) [2,3,4])].length≤maxLen)) <|
     p (g++[(Gt.mk (d:Int) [2,3,4])]))
    else
    (p g)) fun(a7:(List Gt))=>
   s (a7,b.2.1,b.2.2.1,b.2.2.2.1,b.2.2.2.2.1,b.2.2.2.2.2.1,b.2.2.2.2.2.2.1,b.2.2.2.2.2.2.2.1,b.2.2.2.2.2.2.2.2.1,b.2.2.2.2.2.2.2.2.2.1,b.2.2.2.2.2.2.2.2.2.2.1,b.2.2.2.2.2.2.2.2.2.2.2))
  (fun(b:(List Gt)×Int×Int×Int×Int×(List Row)×(List Frame)×(List Hw)×Int×Int×Int×Int)=>
   some (Ge.mk a1 b.1 (Light.mk b.2.1 b.2.2.1 b.2.2.2.1 b.2.2.2.2.1) b.2.2.2.2.2.1 b.2.2.2.2.2.2.1 b.2.2.2.2.2.2.2.1 (Gg.mk b.2.2.2.2.2.2.2.2.1 b.2.2.2.2.2.2.2.2.2.1 b.2.2.2.2.2.2.2.2.2.2.1 b.2.2.2.2.2.2.2.2.2.2.2))) (5:Int).toNat 0 (a.1,a.2.1,a.2.2.1,a.2.2.2.1,a.2.2.2.2.1,a.2.2.2.2.2.1,a.2.2.2.2.2.2.1,a.2.2.2.2.2.2.2.1,a.2.2.2.2.2.2.2.2.1,a.2.2.2.2.2.2.2.2.2.1,a.2.2.2.2.2.2.2.2.2.2.1,a.2.2.2.2.2.2.2.2.2.2.2.1)) (l.take m5) 0 ([],0,0,0,0,[],[],[],0,0,0,0,[])
abbrev Kc (a:(List Gt)×Int×Int×Int×Int×(List Row)×(List Frame)×(List Hw)×Int×Int×Int×Int×(List G5)):List AV:=[.vec 1059 a.2.2.2.2.2.2.2.2.2.2.2.2.length 12 a.2.2.2.2.2.2.2.2.2.2.2.2.length,OW 1060 2 Gt.av a.1,I64 a.2.1,I64 a.2.2.1,I64 a.2.2.2.1,I64 a.2.2.2.2.1,E7 a.2.2.2.2.2.1,E8 a.2.2.2.2.2.2.1,E9 a.2.2.2.2.2.2.2.1,I64 a.2.2.2.2.2.2.2.2.1,I64 a.2.2.2.2.2.2.2.2.2.1,I64 a.2.2.2.2.2.2.2.2.2.2.1,I64 a.2.2.2.2.2.2.2.2.2.2.2.1]
abbrev Kd:List AV:=[Ea ([]:List G5),Eb ([]:List Gt),I64 0,I64 0,I64 0,I64 0,E7 ([]:List Row),E8 ([]:List Frame),E9 ([]:List Hw),I64 0,I64 0,I64 0,I64 0]
abbrev Ke (b:(List G5)) (a:(List Gt)×Int×Int×Int×Int×(List Row)×(List Frame)×(List Hw)×Int×Int×Int×Int):List AV:=[.vec 1059 b.length 12 b.length,OW 1060 2 Gt.av a.1,I64 a.2.1,I64 a.2.2.1,I64 a.2.2.2.1,I64 a.2.2.2.2.1,E7 a.2.2.2.2.2.1,E8 a.2.2.2.2.2.2.1,E9 a.2.2.2.2.2.2.2.1,I64 a.2.2.2.2.2.2.2.2.1,I64 a.2.2.2.2.2.2.2.2.2.1,I64 a.2.2.2.2.2.2.2.2.2.2.1,I64 a.2.2.2.2.2.2.2.2.2.2.2]
abbrev Kf (a:(List Gt)×Int×Int×Int×Int×(List Row)×(List Frame)×(List Hw)×Int×Int×Int×Int×(List G5)):List AV:=[Ea a.2.2.2.2.2.2.2.2.2.2.2.2,Eb a.1,I64 a.2.1,I64 a.2.2.1,I64 a.2.2.2.1,I64 a.2.2.2.2.1,E7 a.2.2.2.2.2.1,E8 a.2.2.2.2.2.2.1,E9 a.2.2.2.2.2.2.2.1,I64 a.2.2.2.2.2.2.2.2.1,I64 a.2.2.2.2.2.2.2.2.2.1,I64 a.2.2.2.2.2.2.2.2.2.2.1,I64 a.2.2.2.2.2.2.2.2.2.2.2.1]
theorem H12 (l:List H2) (covers:Int) (r:Ge) (h:R7 l covers=some r):Jw Em 19 [Ee l,.sc (.int .u32 covers)] [] (fun av L'=>∃ p:Nat,av=.agg [.vec 1059 p 12 r.Columns.length,Eb r.Covers,I64 r.Light.Kilos,I64 r.Light.X,I64 r.Light.Y,I64 r.Light.Z,E7 r.Rows,E8 r.Frames,E9 r.Tanks,I64 r.Gg.Tolerance,I64 r.Gg.Trim,I64 r.Gg.List_,I64 r.Gg.Stability]∧L'=[(1059,.vec 41 12 p (r.Columns.map G5.av))]):=by
 unfold R7 at h
 refine Zp [] [.cell 4 34] Tryz.func19 O O (H62 O) (Jr fun h6=>(JLh (.ptr 1055 0) (Y7 1055 Kd [.slice none 0 0,.slice none 0 0,E0,E0,E0,E0,.slice none 0 0,.slice none 0 0,.slice none 0 0,E0,E0,E0,E0] G95 ⟨.inr ⟨_,O,O⟩,.inr ⟨_,O,O⟩,.inl O,.inl O,.inl O,.inl O,.inr ⟨_,O,O⟩,.inr ⟨_,O,O⟩,.inr ⟨_,O,O⟩,.inl O,.inl O,.inl O,.inl O,ø⟩ O O) O (G6 (h6 ?_))))
 refine Jr fun h7=>(JLh (.ptr 1056 0) (Y7 1056 [.sc (.slice none 0 0),.sc (.slice none 0 0),I64 0,I64 0,I64 0,I64 0,E7 ([]:List Row),E8 ([]:List Frame),E9 ([]:List Hw),I64 0,I64 0,I64 0,I64 0] [.slice none 0 0,.slice none 0 0,E0,E0,E0,E0,.slice none 0 0,.slice none 0 0,.slice none 0 0,E0,E0,E0,E0] G95 ⟨.inl O,.inl O,.inl O,.inl O,.inl O,.inl O,.inr ⟨_,O,O⟩,.inr ⟨_,O,O⟩,.inr ⟨_,O,O⟩,.inl O,.inl O,.inl O,.inl O,ø⟩ O O) O ?_)
 refine Hbd 1056 0 1059 41 12 O O O (cs':=[.vec 1059 (([]:List G5).length) 12 (([]:List G5).length),.sc (.slice none 0 0),I64 0,I64 0,I64 0,I64 0,E7 ([]:List Row),E8 ([]:List Frame),E9 ([]:List Hw),I64 0,I64 0,I64 0,I64 0]) O (Ga2 1056 1 1060 137 2 O O O (cs':=[.vec 1059 (([]:List G5).length) 12 (([]:List G5).length),OW 1060 2 Gt.av ([]:List Gt),I64 0,I64 0,I64 0,I64 0,E7 ([]:List Row),E8 ([]:List Frame),E9 ([]:List Hw),I64 0,I64 0,I64 0,I64 0]) O (G6 (h7 (Js fun h8=>Jr fun h9=>(JLm (Ee l) O (JLm (Ee l) O (JLl G68 O O O fun i3=>(JLh (I64 (min (l.length:Int) 12)) (J37 O O O) O ?_))))))))
 obtain⟨z,i0,h⟩:=Gh h
 refine JLh (Ee (l.take z)) (Z0 (f:=H2.av) (xs:=l) O O O G68 (Yf i0)) O (JLl G68 O O O fun g2=>(JLm (I64 0) O (G6 (h9 (Gk ?_)))))
 obtain⟨g3,b6,b7,a9,h⟩:=J3 h
 refine Hi (fun q (a:(List Gt)×Int×Int×Int×Int×(List Row)×(List Frame)×(List Hw)×Int×Int×Int×Int×(List G5))=>each g3 b6 (List.drop q (l.take z)) q a=some r) (fun q a=>[(1,.sc (.int .u32 covers)),(4,.ptr 1055 0),(5,.ptr 1056 0),(16,Ee (l.take z)),(17,I64 ((l.take z).length:Int)),(18,Ek q)]) (fun q a=>[(1059,.vec 41 12 a.2.2.2.2.2.2.2.2.2.2.2.2.length (a.2.2.2.2.2.2.2.2.2.2.2.2.map G5.av)),(1060,.spare 137 2 a.1.length a.1.length),(1055,.box 34 Kd),(1056,.box 34 (Kc a))]) (fun q=>(l.take z).length - q) 0 ([],0,0,0,0,[],[],[],0,0,0,0,[]) h ⟨(.sm O O),⟨⟨_,rfl,.vec⟩,⟨_,rfl,.same⟩,fbQ O (.sm O O),fbQ O (.sm O O),ø⟩,rfl⟩ ?_
 clear h
 intro q a a2 i4 g4
 refine Jr fun b8=>(JLh (BL (decide ((q:Int) < ((l.take z).length:Int)))) (Jc O O O) O (G6 (b8 (Js fun b9=>Gn O (fun hb=>?_) (fun hb=>?_)))))
 ·
  have a3:=Jk hb
  obtain⟨d,i1,c0,c1,h⟩:=Hr a2 a3
  replace h:=Ry b7 h
  refine Gp (b9 ?_)
  obtain⟨c2,b0,h⟩:=R1 h
  refine Qa (fun w:(List G5)=>c2 w=some r) (fun w=>[(1,.sc (.int .u32 covers)),(4,.ptr 1055 0),(5,.ptr 1056 0),(16,Ee (l.take z)),(17,I64 ((l.take z).length:Int)),(18,Ek q)]) (fun w=>[(1059,.vec 41 12 w.length (w.map G5.av)),(1060,.spare 137 2 a.1.length a.1.length),(1055,.box 34 Kd),(1056,.box 34 [.vec 1059 w.length 12 w.length,OW 1060 2 Gt.av a.1,I64 a.2.1,I64 a.2.2.1,I64 a.2.2.2.1,I64 a.2.2.2.2.1,E7 a.2.2.2.2.2.1,E8 a.2.2.2.2.2.2.1,E9 a.2.2.2.2.2.2.2.1,I64 a.2.2.2.2.2.2.2.2.1,I64 a.2.2.2.2.2.2.2.2.2.1,I64 a.2.2.2.2.2.2.2.2.2.2.1,I64 a.2.2.2.2.2.2.2.2.2.2.2.1])]) (fun Kj109 ej109=>?_) ?_
  ·
   refine Gk (Jr fun c3=>(JLh (.dptr (H2.cs d)) (H3 (f:=H2.av) (xs:=(l.take z)) (y:=d) O O O G68 c0 O) O (JLh (.agg (H2.cs d)) (Gi Qc1 O O O) O (JLh (.ptr 1057 0) (Hd 1057 4 Jff O O) O (Hb (u:=.junk) (Gz (u:=.agg (H2.cs d)) (ds:=[U8 d.Bay,U8 d.Row,U8 d.Tiers,BL d.Deck]) Q39 O O O O O O O O) (G6 (c3 ?_)))))))
   refine fzQ [(1,.sc (.int .u32 covers)),(4,.ptr 1055 0),(5,.ptr 1056 0),(7,.dptr (H2.cs d)),(16,Ee (l.take z)),(17,I64 ((l.take z).length:Int)),(18,Ek q)] [(1059,.vec 41 12 a.2.2.2.2.2.2.2.2.2.2.2.2.length (a.2.2.2.2.2.2.2.2.2.2.2.2.map G5.av)),(1060,.spare 137 2 a.1.length a.1.length),(1055,.box 34 Kd),(1056,.box 34 (Kc a))] 1057 rfl rfl rfl ⟨⟨_,rfl,.vec⟩,⟨_,rfl,.same⟩,⟨_,rfl,.boxEq rfl rfl⟩,⟨_,rfl,.boxEq rfl rfl⟩,ø⟩ rfl ?_
   refine Jr fun c4=>(JLh (.dptr (H2.cs d)) (Gd J5b O O O) O (JLh (U8 d.Bay) (Gf J9 O O O) O ?_))
   obtain⟨g5,c5,h⟩:=J5 h
   refine JLh (I64 g5) (Gf3 G39 G38 c5 O O) O ?_
   obtain⟨i,a4,h⟩:=Gh h
   refine JLh (I64 i) (H75 (Qt a4).1 (Qt a4).2 O O O) O (JLh (.dptr ((H2.cs d).drop 1)) (Gd J5a O O O) O (JLh (U8 d.Row) (Gf J9 O O O) O ?_))
   obtain⟨g6,c6,h⟩:=J5 h
   refine JLh (I64 g6) (Gf3 G39 G38 c6 O O) O ?_
   obtain⟨j,a5,h⟩:=Gh h
   refine JLh (I64 j) (H75 (Qt a5).1 (Qt a5).2 O O O) O (JLh (.dptr [BL d.Deck]) (Gd J58 O O O) O (JLh (BL d.Deck) (Gf Rs O O O) O (JLh (.dptr [U8 d.Tiers,BL d.Deck]) (Gd J59 O O O) O (JLh (U8 d.Tiers) (Gf J9 O O O) O ?_))))
   obtain⟨g7,c7,h⟩:=J5 h
   refine JLh (I64 g7) (Gf3 G39 G38 c7 O O) O ?_
   obtain⟨g8,a6,h⟩:=Gh h
   refine JLh (I64 g8) (H75 (Qt a6).1 (Qt a6).2 O O O) O ?_
   obtain⟨k,c8,h⟩:=J5 h
   refine JLh (I64 k) (Hv c8 O O O) O (JLh (.agg [I64 i,I64 j,BL d.Deck,I64 k,I64 0,I64 500000000,I64 500000000,I64 0,E5 ([]:List Int),I64 0,I64 0,I64 0]) (J6 (cs:=[I64 i,I64 j,BL d.Deck,I64 k,I64 0,I64 500000000,I64 500000000,I64 0,E5 ([]:List Int),I64 0,I64 0,I64 0]) [(0,1),(1,1),(2,1),(3,1),(4,1),(5,1),(6,1),(7,1),(8,1),(9,1),(10,1),(11,1)] [I64 0,I64 0,BL false,I64 0,I64 0,I64 0,I64 0,I64 0,E5 ([]:List Int),I64 0,I64 0,I64 0] [E0,E0,.bool false,E0,E0,E0,E0,E0,.slice none 0 0,E0,E0,E0] G75 Gdc ⟨.inl O,.inl O,.inl O,.inl O,.inl O,.inl O,.inl O,.inl O,.inr ⟨_,O,O⟩,.inl O,.inl O,.inl O,ø⟩ O O) O (JLh (.ptr 1058 0) (Hd 1058 12 Yq O O) O (Hb (u:=.junk) (Gz (u:=.agg [I64 i,I64 j,BL d.Deck,I64 k,I64 0,I64 500000000,I64 500000000,I64 0,E5 ([]:List Int),I64 0,I64 0,I64 0]) (ds:=[I64 i,I64 j,BL d.Deck,I64 k,I64 0,I64 500000000,I64 500000000,I64 0,E5 ([]:List Int),I64 0,I64 0,I64 0]) G96 O O O O O O O O) (G6 (c4 ?_)))))
   refine Jr fun c9=>(JLh (.ptr 1058 0) (J7 G2c O O) O (JLh (I64 i) (Ji G9 O O O O) O ?_))
   obtain⟨g9,d0,h⟩:=J5 h
   refine JLh (I64 g9) (H76 d0 O O O) O ?_
   obtain⟨m,d1,h⟩:=J5 h
   refine JLh (I64 m) (H0a d1 O O O) O (JLh (.ptr 1058 1) (J7 G2b O O) O (JLh (I64 j) (Ji G9 O O O O) O ?_))
   obtain⟨h0,d2,h⟩:=J5 h
   refine JLh (I64 h0) (H76 d2 O O O) O ?_
   obtain⟨n,d3,h⟩:=J5 h
   refine JLh (I64 n) (H0a d3 O O O) O (JLh (.ptr 1058 9) (J7 H95 O O) O (Hb (u:=.junk) (Gz (u:=I64 m) (ds:=[I64 i,I64 j,BL d.Deck,I64 k,I64 0,I64 500000000,I64 500000000,I64 0,E5 ([]:List Int),I64 m,I64 0,I64 0]) Zf O O O O O O O O) (JLh (.ptr 1058 10) (J7 H53 O O) O (Hb (u:=.junk) (Gz (u:=I64 n) (ds:=[I64 i,I64 j,BL d.Deck,I64 k,I64 0,I64 500000000,I64 500000000,I64 0,E5 ([]:List Int),I64 m,I64 n,I64 0]) Zf O O O O O O O O) (JLh (.ptr 1058 11) (J7 Gdd O O) O (Hb (u:=.junk) (Gz (u:=I64 2000) (ds:=[I64 i,I64 j,BL d.Deck,I64 k,I64 0,I64 500000000,I64 500000000,I64 0,E5 ([]:List Int),I64 m,I64 n,I64 2000]) Zf O O O O O O O O) (G6 (c9 ?_))))))))
   obtain⟨d4,b1,h⟩:=R1 h
   refine Qa (fun o:Int=>d4 o=some r) (fun o=>[(1,.sc (.int .u32 covers)),(4,.ptr 1055 0),(5,.ptr 1056 0),(8,.ptr 1058 0),(16,Ee (l.take z)),(17,I64 ((l.take z).length:Int)),(18,Ek q)]) (fun o=>[(1059,.vec 41 12 a.2.2.2.2.2.2.2.2.2.2.2.2.length (a.2.2.2.2.2.2.2.2.2.2.2.2.map G5.av)),(1060,.spare 137 2 a.1.length a.1.length),(1055,.box 34 Kd),(1056,.box 34 (Kc a)),(1058,.box 41 [I64 i,I64 j,BL d.Deck,I64 k,I64 0,I64 500000000,I64 500000000,I64 0,E5 ([]:List Int),I64 m,I64 n,I64 o])]) (fun Kj124 ej124=>?_) ?_
   ·
    refine Jr fun d5=>(JLh (.ptr 1058 2) (J7 G2a O O) O (JLh (BL d.Deck) (Ji Rs O O O O) O (G6 (d5 (JCc O h (fun h hb=>?_) (fun h hb=>?_))))))
    ·
     refine G2 (JLh (.ptr 1058 11) (J7 Gdd O O) O (Hb (u:=.junk) (Gz (u:=I64 20000) (ds:=[I64 i,I64 j,BL d.Deck,I64 k,I64 0,I64 500000000,I64 500000000,I64 0,E5 ([]:List Int),I64 m,I64 n,I64 20000]) Zf O O O O O O O O) (G6 (ej124 _ _ 20000 h ⟨(.sm O O),⟨⟨_,rfl,.vec⟩,⟨_,rfl,.same⟩,fbQ O (.sm O O),fbQ O (.sm O O),fbQ O (.sm O O),ø⟩,rfl⟩))))
    ·
     refine Gp (ej124 _ _ 2000 h ⟨(.sm O O),⟨⟨_,rfl,.vec⟩,⟨_,rfl,.same⟩,fbQ O (.sm O O),fbQ O (.sm O O),fbQ O (.sm O O),ø⟩,rfl⟩)
   ·intro o h
    replace h:=app1 b1 h
    refine Jr fun d6=>(JLh (.agg (Kc a)) (G0f Hm O O O O) O (JLh (.ptr 1058 0) (J7 G2c O O) O (JLh (I64 i) (Ji G9 O O O O) O (JLh (.ptr 1058 1) (J7 G2b O O) O (JLh (I64 j) (Ji G9 O O O O) O (JLh (.ptr 1058 2) (J7 G2a O O) O (JLh (BL d.Deck) (Ji Rs O O O O) O ?_)))))))
    obtain⟨v,d7,h⟩:=Gh h
    refine JLh (.tup [I64 v.1,BL v.2]) (Jae (args:=[.agg (Kf a),I64 i,I64 j,BL d.Deck]) O (Jc3 (Ge.mk a.2.2.2.2.2.2.2.2.2.2.2.2 a.1 (Light.mk a.2.1 a.2.2.1 a.2.2.2.1 a.2.2.2.2.1) a.2.2.2.2.2.1 a.2.2.2.2.2.2.1 a.2.2.2.2.2.2.2.1 (Gg.mk a.2.2.2.2.2.2.2.2.1 a.2.2.2.2.2.2.2.2.2.1 a.2.2.2.2.2.2.2.2.2.2.1 a.2.2.2.2.2.2.2.2.2.2.2.1)) i j d.Deck v d7) Qaf ⟨.aggL (cs:=(Kc a)) (ds:=(Kf a)) ⟨.vec O,.data O O,.data O O,.data O O,.data O O,.data O O,.data O O,.data O O,.data O O,.data O O,.data O O,.data O O,.data O O,ø⟩,.data O O,.data O O,.data O O,ø⟩ O) O (JLm (.tup [I64 v.1,BL v.2]) O (JLh (I64 v.1) (Gv O O O) O (JLh (BL v.2) (Gv O O O) O (JLm (I64 v.1) O (JLm (BL v.2) O (G6 (d6 ?_)))))))
    refine fzQ [(1,.sc (.int .u32 covers)),(4,.ptr 1055 0),(5,.ptr 1056 0),(8,.dptr [I64 i,I64 j,BL d.Deck,I64 k,I64 0,I64 500000000,I64 500000000,I64 0,E5 ([]:List Int),I64 m,I64 n,I64 o]),(10,BL v.2),(16,Ee (l.take z)),(17,I64 ((l.take z).length:Int)),(18,Ek q)] [(1059,.vec 41 12 a.2.2.2.2.2.2.2.2.2.2.2.2.length (a.2.2.2.2.2.2.2.2.2.2.2.2.map G5.av)),(1060,.spare 137 2 a.1.length a.1.length),(1055,.box 34 Kd),(1056,.box 34 (Kc a))] 1058 rfl rfl rfl ⟨⟨_,rfl,.vec⟩,⟨_,rfl,.same⟩,⟨_,rfl,.boxEq rfl rfl⟩,⟨_,rfl,.boxEq rfl rfl⟩,ø⟩ rfl ?_
    refine Jr fun d8=>(JLm (BL v.2) O (JLh (BL (!v.2)) (G11 (b:=v.2) O O) O (G6 (d8 (JCc O h (fun h hb=>?_) (fun h hb=>?_))))))
    ·
     refine G2 (JLh (.ptr 1056 0) (J7 Hk O O) O (JLh (.vec 1059 a.2.2.2.2.2.2.2.2.2.2.2.2.length 12 a.2.2.2.2.2.2.2.2.2.2.2.2.length) (Ji J2 O O O O) O (JLh (.agg [I64 i,I64 j,BL d.Deck,I64 k,I64 0,I64 500000000,I64 500000000,I64 0,E5 ([]:List Int),I64 m,I64 n,I64 o]) (Gi G44 O O O) O (JLh (Ea ([(G5.mk i j d.Deck k 0 500000000 500000000 0 [] m n o)])) (H8 (xs:=[.agg [I64 i,I64 j,BL d.Deck,I64 k,I64 0,I64 500000000,I64 500000000,I64 0,E5 ([]:List Int),I64 m,I64 n,I64 o]]) O ⟨O,O,ø⟩ Hj Yq O O O O) O ?_))))
     obtain⟨d9,h⟩:=J0 h
     refine JLh (.vec 1059 ((a.2.2.2.2.2.2.2.2.2.2.2.2++[(G5.mk i j d.Deck k 0 500000000 500000000 0 [] m n o)]).length) 12 ((a.2.2.2.2.2.2.2.2.2.2.2.2++[(G5.mk i j d.Deck k 0 500000000 500000000 0 [] m n o)]).length)) (G66 (f:=G5.av) (xs:=a.2.2.2.2.2.2.2.2.2.2.2.2) (ys:=[(G5.mk i j d.Deck k 0 500000000 500000000 0 [] m n o)]) (ver:=a.2.2.2.2.2.2.2.2.2.2.2.2.length) (ver1:=(a.2.2.2.2.2.2.2.2.2.2.2.2++[(G5.mk i j d.Deck k 0 500000000 500000000 0 [] m n o)]).length) rfl rfl rfl rfl Hj H32 d9 (fun _=>rfl) (.inl rfl) (by simp)) O (JLh (.ptr 1056 0) (J7 Hk O O) O (Hb (u:=.junk) (Gz (u:=.vec 1059 ((a.2.2.2.2.2.2.2.2.2.2.2.2++[(G5.mk i j d.Deck k 0 500000000 500000000 0 [] m n o)]).length) 12 ((a.2.2.2.2.2.2.2.2.2.2.2.2++[(G5.mk i j d.Deck k 0 500000000 500000000 0 [] m n o)]).length)) (ds:=[.vec 1059 ((a.2.2.2.2.2.2.2.2.2.2.2.2++[(G5.mk i j d.Deck k 0 500000000 500000000 0 [] m n o)]).length) 12 ((a.2.2.2.2.2.2.2.2.2.2.2.2++[(G5.mk i j d.Deck k 0 500000000 500000000 0 [] m n o)]).length),OW 1060 2 Gt.av a.1,I64 a.2.1,I64 a.2.2.1,I64 a.2.2.2.1,I64 a.2.2.2.2.1,E7 a.2.2.2.2.2.1,E8 a.2.2.2.2.2.2.1,E9 a.2.2.2.2.2.2.2.1,I64 a.2.2.2.2.2.2.2.2.1,I64 a.2.2.2.2.2.2.2.2.2.1,I64 a.2.2.2.2.2.2.2.2.2.2.1,I64 a.2.2.2.2.2.2.2.2.2.2.2.1]) H2f O O O O O O O O) (G6 ?_)))
     exact ej109 _ _ (a.2.2.2.2.2.2.2.2.2.2.2.2++[(G5.mk i j d.Deck k 0 500000000 500000000 0 [] m n o)]) h ⟨(.sm O O),⟨⟨_,rfl,.vec⟩,⟨_,rfl,.same⟩,fbQ O (.sm O O),fbQ O (.sm O O),ø⟩,rfl⟩
    ·
     refine Gp (ej109 _ _ a.2.2.2.2.2.2.2.2.2.2.2.2 h ⟨(.sm O O),⟨⟨_,rfl,.vec⟩,⟨_,rfl,.same⟩,fbQ O (.sm O O),fbQ O (.sm O O),ø⟩,rfl⟩)
  ·intro w h
   replace h:=app1 b0 h
   refine G2 (JLh (I64 ((q+1:Nat):Int)) (Hv (Ha a3 g2) O O O) O (JLm (I64 ((q+1:Nat):Int)) O (G6 (g4 _ _ (q+1) (a.1,a.2.1,a.2.2.1,a.2.2.2.1,a.2.2.2.2.1,a.2.2.2.2.2.1,a.2.2.2.2.2.2.1,a.2.2.2.2.2.2.2.1,a.2.2.2.2.2.2.2.2.1,a.2.2.2.2.2.2.2.2.2.1,a.2.2.2.2.2.2.2.2.2.2.1,a.2.2.2.2.2.2.2.2.2.2.2.1,w) (app1 c1 h) (by omega) ⟨(.sm O O),⟨⟨_,rfl,.vec⟩,⟨_,rfl,.same⟩,fbQ O (.sm O O),fbQ O (.sm O O),ø⟩,rfl⟩))))
 ·
  have h:=app1 a9 (Hs a2 (H9 hb))
  refine Ho (h8 ?_)
  obtain⟨e0,b2,h⟩:=R1 h
  refine Qa (fun g:(List G5)=>e0 g=some r) (fun g=>[(1,.sc (.int .u32 covers)),(4,.ptr 1055 0),(5,.ptr 1056 0)]) (fun g=>[(1059,.vec 41 12 g.length (g.map G5.av)),(1060,.spare 137 2 a.1.length a.1.length),(1055,.box 34 Kd),(1056,.box 34 [.vec 1059 g.length 12 g.length,OW 1060 2 Gt.av a.1,I64 a.2.1,I64 a.2.2.1,I64 a.2.2.2.1,I64 a.2.2.2.2.1,E7 a.2.2.2.2.2.1,E8 a.2.2.2.2.2.2.1,E9 a.2.2.2.2.2.2.2.1,I64 a.2.2.2.2.2.2.2.2.1,I64 a.2.2.2.2.2.2.2.2.2.1,I64 a.2.2.2.2.2.2.2.2.2.2.1,I64 a.2.2.2.2.2.2.2.2.2.2.2.1])]) (fun Kj130 ej130=>?_) ?_
  ·
   refine Jr fun e1=>(JLh (.ptr 1056 0) (J7 Hk O O) O (JLh (.vec 1059 a.2.2.2.2.2.2.2.2.2.2.2.2.length 12 a.2.2.2.2.2.2.2.2.2.2.2.2.length) (Ji J2 O O O O) O (Q7c (f:=G5.av) (xs:=a.2.2.2.2.2.2.2.2.2.2.2.2) Hj O O O (fun i5=>?_) O O O)))
   refine JLh (BL (decide ((a.2.2.2.2.2.2.2.2.2.2.2.2.length:Int)=0))) (Q4 O O O) O (G6 (e1 (JCc O h (fun h hb=>?_) (fun h hb=>?_))))
   ·
    refine G2 ?_
    refine JLh (.agg [I64 0,I64 0,BL false,I64 3,I64 0,I64 500000000,I64 500000000,I64 0,E5 ([]:List Int),I64 0,I64 0,I64 2000]) (J6 (cs:=[I64 0,I64 0,BL false,I64 3,I64 0,I64 500000000,I64 500000000,I64 0,E5 ([]:List Int),I64 0,I64 0,I64 2000]) [(0,1),(1,1),(2,1),(3,1),(4,1),(5,1),(6,1),(7,1),(8,1),(9,1),(10,1),(11,1)] [I64 0,I64 0,BL false,I64 0,I64 0,I64 0,I64 0,I64 0,E5 ([]:List Int),I64 0,I64 0,I64 0] [E0,E0,.bool false,E0,E0,E0,E0,E0,.slice none 0 0,E0,E0,E0] G75 Gdc ⟨.inl O,.inl O,.inl O,.inl O,.inl O,.inl O,.inl O,.inl O,.inr ⟨_,O,O⟩,.inl O,.inl O,.inl O,ø⟩ O O) O (JLh (.vec 1059 (([(G5.mk 0 0 false 3 0 500000000 500000000 0 [] 0 0 2000)]).length) 12 (([(G5.mk 0 0 false 3 0 500000000 500000000 0 [] 0 0 2000)]).length)) (R5e 1059 (f:=G5.av) ([(G5.mk 0 0 false 3 0 500000000 500000000 0 [] 0 0 2000)]) (ver1:=([(G5.mk 0 0 false 3 0 500000000 500000000 0 [] 0 0 2000)]).length) rfl ⟨rfl,rfl,ø⟩ Hj Yq rfl rfl rfl rfl rfl (by have hb_:=Ku hb; simp only [M6,List.length_nil]; omega)) O (JLh (.ptr 1056 0) (J7 Hk O O) O (Hb (u:=.junk) (Gz (u:=.vec 1059 (([(G5.mk 0 0 false 3 0 500000000 500000000 0 [] 0 0 2000)]).length) 12 (([(G5.mk 0 0 false 3 0 500000000 500000000 0 [] 0 0 2000)]).length)) (ds:=[.vec 1059 (([(G5.mk 0 0 false 3 0 500000000 500000000 0 [] 0 0 2000)]).length) 12 (([(G5.mk 0 0 false 3 0 500000000 500000000 0 [] 0 0 2000)]).length),OW 1060 2 Gt.av a.1,I64 a.2.1,I64 a.2.2.1,I64 a.2.2.2.1,I64 a.2.2.2.2.1,E7 a.2.2.2.2.2.1,E8 a.2.2.2.2.2.2.1,E9 a.2.2.2.2.2.2.2.1,I64 a.2.2.2.2.2.2.2.2.1,I64 a.2.2.2.2.2.2.2.2.2.1,I64 a.2.2.2.2.2.2.2.2.2.2.1,I64 a.2.2.2.2.2.2.2.2.2.2.2.1]) H2f O O O O O O O O) (G6 ?_))))
    exact ej130 _ _ ([(G5.mk 0 0 false 3 0 500000000 500000000 0 [] 0 0 2000)]) h ⟨(.sm O O),⟨⟨_,rfl,.vec⟩,⟨_,rfl,.same⟩,fbQ O (.sm O O),fbQ O (.sm O O),ø⟩,rfl⟩
   ·
    refine Gp (ej130 _ _ a.2.2.2.2.2.2.2.2.2.2.2.2 h ⟨(.sm O O),⟨⟨_,rfl,.vec⟩,⟨_,rfl,.same⟩,fbQ O (.sm O O),fbQ O (.sm O O),ø⟩,rfl⟩)
  ·intro g h
   replace h:=app1 b2 h
   refine Js fun e2=>Jr fun e3=>(JLm (I64 0) O (G6 (e3 (Gk ?_))))
   obtain⟨e4,h⟩:=J0 h
   obtain⟨h1,e5,e6,b3,h⟩:=Ga5 h
   refine Hi (fun e (c:(List Gt)×Int×Int×Int×Int×(List Row)×(List Frame)×(List Hw)×Int×Int×Int×Int)=>upto h1 e5 ((5:Int).toNat - e) e c=some r) (fun e c=>[(1,.sc (.int .u32 covers)),(4,.ptr 1055 0),(5,.ptr 1056 0),(11,Ek e)]) (fun e c=>[(1059,.vec 41 12 g.length (g.map G5.av)),(1060,.spare 137 2 c.1.length c.1.length),(1055,.box 34 Kd),(1056,.box 34 (Ke g c))]) (fun e=>(5:Int).toNat - e) 0 (a.1,a.2.1,a.2.2.1,a.2.2.2.1,a.2.2.2.2.1,a.2.2.2.2.2.1,a.2.2.2.2.2.2.1,a.2.2.2.2.2.2.2.1,a.2.2.2.2.2.2.2.2.1,a.2.2.2.2.2.2.2.2.2.1,a.2.2.2.2.2.2.2.2.2.2.1,a.2.2.2.2.2.2.2.2.2.2.2.1) h ⟨(.sm O O),⟨⟨_,rfl,.vec⟩,⟨_,rfl,.same⟩,fbQ O (.sm O O),fbQ O (.sm O O),ø⟩,rfl⟩ ?_
   clear h
   intro e c a7 i6 h2
   refine Js fun e7=>Jr fun e8=>(JLm (Ek e) O (JLh (BL (decide ((e:Int) < 5))) (Jc O O O) O (G6 (e8 (Gn O (fun hb=>?_) (fun hb=>?_))))))
   ·
    have a8:=G55 hb
    obtain⟨i2,e9,h⟩:=G50 a7 a8
    replace h:=J03 e6 h
    refine Gp (e7 ?_)
    obtain⟨f0,b4,h⟩:=R1 h
    refine Qa (fun x:(List Gt)=>f0 x=some r) (fun x=>[(1,.sc (.int .u32 covers)),(4,.ptr 1055 0),(5,.ptr 1056 0),(11,Ek e)]) (fun x=>[(1059,.vec 41 12 g.length (g.map G5.av)),(1060,.spare 137 2 x.length x.length),(1055,.box 34 Kd),(1056,.box 34 [.vec 1059 g.length 12 g.length,OW 1060 2 Gt.av x,I64 c.2.1,I64 c.2.2.1,I64 c.2.2.2.1,I64 c.2.2.2.2.1,E7 c.2.2.2.2.2.1,E8 c.2.2.2.2.2.2.1,E9 c.2.2.2.2.2.2.2.1,I64 c.2.2.2.2.2.2.2.2.1,I64 c.2.2.2.2.2.2.2.2.2.1,I64 c.2.2.2.2.2.2.2.2.2.2.1,I64 c.2.2.2.2.2.2.2.2.2.2.2])]) (fun Kj203 ej203=>?_) ?_
    ·
     refine Gk ?_
     obtain⟨f1,b5,h⟩:=R1 h
     refine Qa (fun t:(List Gt)=>f1 t=some r) (fun t=>[(1,.sc (.int .u32 covers)),(4,.ptr 1055 0),(5,.ptr 1056 0),(11,Ek e)]) (fun t=>[(1059,.vec 41 12 g.length (g.map G5.av)),(1060,.spare 137 2 t.length t.length),(1055,.box 34 Kd),(1056,.box 34 [.vec 1059 g.length 12 g.length,OW 1060 2 Gt.av t,I64 c.2.1,I64 c.2.2.1,I64 c.2.2.2.1,I64 c.2.2.2.2.1,E7 c.2.2.2.2.2.1,E8 c.2.2.2.2.2.2.1,E9 c.2.2.2.2.2.2.2.1,I64 c.2.2.2.2.2.2.2.2.1,I64 c.2.2.2.2.2.2.2.2.2.1,I64 c.2.2.2.2.2.2.2.2.2.2.1,I64 c.2.2.2.2.2.2.2.2.2.2.2])]) (fun Kj204 ej204=>?_) ?_
     ·
      refine Jr fun f2=>(JLm (.sc (.int .u32 covers)) O (JLm (Ek e) O ?_))
      obtain⟨h3,f3,h⟩:=J5 h
      refine JLh (I64 h3) (H76 f3 O O O) O ?_
      obtain⟨a0,f4,h⟩:=Gh h
      refine JLh (.sc (.int .u32 (Q0a .u32 covers a0))) (R8c (s:=a0) (Yf f4).1 O O O) O (JLh (.sc (.int .u32 (Q72 .u32 (Q0a .u32 covers a0) 1))) (R97 O O O) O (JLh (BL (decide ((Q72 .u32 (Q0a .u32 covers a0) 1)=1))) (Q4 O O O) O (G6 (f2 (JCc O h (fun h hb=>?_) (fun h hb=>?_))))))
      ·
       refine G2 (JLh (.ptr 1056 1) (J7 G0a O O) O (JLh (OW 1060 2 Gt.av c.1) (Ji G73 O O O O) O (JLm (Ek e) O (JLh (E5 [0,1]) (H8 (xs:=[I64 0,I64 1]) O ⟨O,O,O,O,ø⟩ Gx R0 O O O O) O (JLh (.agg [Ek e,E5 [0,1]]) (J6 (cs:=[Ek e,E5 [0,1]]) [(0,1),(1,1)] [I64 0,E5 ([]:List Int)] [E0,.slice none 0 0] H90 J12 ⟨.inl O,.inr ⟨_,O,O⟩,ø⟩ O O) O (JLh (Eb ([(Gt.mk (e:Int) [0,1])])) (H8 (xs:=[.agg [Ek e,E5 [0,1]]]) O ⟨O,O,ø⟩ Zw Gc9 O O O O) O ?_))))))
       obtain⟨f5,h⟩:=J0 h
       refine JLh (OW 1060 2 Gt.av (c.1++[(Gt.mk (e:Int) [0,1])])) (Qz (f:=Gt.av) (xs:=c.1) (ys:=[(Gt.mk (e:Int) [0,1])]) O O O O Zw J15 f5 (fun _=>O) (.inl O) O) O (JLh (.ptr 1056 1) (J7 G0a O O) O (Hb (u:=.junk) (Gz (u:=OW 1060 2 Gt.av (c.1++[(Gt.mk (e:Int) [0,1])])) (ds:=[.vec 1059 g.length 12 g.length,OW 1060 2 Gt.av (c.1++[(Gt.mk (e:Int) [0,1])]),I64 c.2.1,I64 c.2.2.1,I64 c.2.2.2.1,I64 c.2.2.2.2.1,E7 c.2.2.2.2.2.1,E8 c.2.2.2.2.2.2.1,E9 c.2.2.2.2.2.2.2.1,I64 c.2.2.2.2.2.2.2.2.1,I64 c.2.2.2.2.2.2.2.2.2.1,I64 c.2.2.2.2.2.2.2.2.2.2.1,I64 c.2.2.2.2.2.2.2.2.2.2.2]) J53 O O O O O O O O) (G6 ?_)))
       exact ej204 _ _ (c.1++[(Gt.mk (e:Int) [0,1])]) h ⟨(.sm O O),⟨⟨_,rfl,.vec⟩,⟨_,rfl,.same⟩,fbQ O (.sm O O),fbQ O (.sm O O),ø⟩,rfl⟩
      ·
       refine Gp (ej204 _ _ c.1 h ⟨(.sm O O),⟨⟨_,rfl,.vec⟩,⟨_,rfl,.same⟩,fbQ O (.sm O O),fbQ O (.sm O O),ø⟩,rfl⟩)
     ·intro t h
      replace h:=app1 b5 h
      refine Jr fun f6=>(JLm (.sc (.int .u32 covers)) O (JLm (Ek e) O ?_))
      obtain⟨h4,f7,h⟩:=J5 h
      refine JLh (I64 h4) (H76 f7 O O O) O ?_
      obtain⟨h5,f8,h⟩:=J5 h
      refine JLh (I64 h5) (Hv f8 O O O) O ?_
      obtain⟨a1,f9,h⟩:=Gh h
      refine JLh (.sc (.int .u32 (Q0a .u32 covers a1))) (R8c (s:=a1) (Yf f9).1 O O O) O (JLh (.sc (.int .u32 (Q72 .u32 (Q0a .u32 covers a1) 1))) (R97 O O O) O (JLh (BL (decide ((Q72 .u32 (Q0a .u32 covers a1) 1)=1))) (Q4 O O O) O (G6 (f6 (JCc O h (fun h hb=>?_) (fun h hb=>?_))))))
      ·
       refine G2 (JLh (.ptr 1056 1) (J7 G0a O O) O (JLh (OW 1060 2 Gt.av t) (Ji G73 O O O O) O (JLm (Ek e) O (JLh (E5 [2,3,4]) (H8 (xs:=[I64 2,I64 3,I64 4]) O ⟨O,O,O,O,O,O,ø⟩ Gx R0 O O O O) O (JLh (.agg [Ek e,E5 [2,3,4]]) (J6 (cs:=[Ek e,E5 [2,3,4]]) [(0,1),(1,1)] [I64 0,E5 ([]:List Int)] [E0,.slice none 0 0] H90 J12 ⟨.inl O,.inr ⟨_,O,O⟩,ø⟩ O O) O (JLh (Eb ([(Gt.mk (e:Int) [2,3,4])])) (H8 (xs:=[.agg [Ek e,E5 [2,3,4]]]) O ⟨O,O,ø⟩ Zw Gc9 O O O O) O ?_))))))
       obtain⟨g0,h⟩:=J0 h
       refine JLh (OW 1060 2 Gt.av (t++[(Gt.mk (e:Int) [2,3,4])])) (Qz (f:=Gt.av) (xs:=t) (ys:=[(Gt.mk (e:Int) [2,3,4])]) O O O O Zw J15 g0 (fun _=>O) (.inl O) O) O (JLh (.ptr 1056 1) (J7 G0a O O) O (Hb (u:=.junk) (Gz (u:=OW 1060 2 Gt.av (t++[(Gt.mk (e:Int) [2,3,4])])) (ds:=[.vec 1059 g.length 12 g.length,OW 1060 2 Gt.av (t++[(Gt.mk (e:Int) [2,3,4])]),I64 c.2.1,I64 c.2.2.1,I64 c.2.2.2.1,I64 c.2.2.2.2.1,E7 c.2.2.2.2.2.1,E8 c.2.2.2.2.2.2.1,E9 c.2.2.2.2.2.2.2.1,I64 c.2.2.2.2.2.2.2.2.1,I64 c.2.2.2.2.2.2.2.2.2.1,I64 c.2.2.2.2.2.2.2.2.2.2.1,I64 c.2.2.2.2.2.2.2.2.2.2.2]) J53 O O O O O O O O) (G6 ?_)))
       exact ej203 _ _ (t++[(Gt.mk (e:Int) [2,3,4])]) h ⟨(.sm O O),⟨⟨_,rfl,.vec⟩,⟨_,rfl,.same⟩,fbQ O (.sm O O),fbQ O (.sm O O),ø⟩,rfl⟩
      ·
       refine Gp (ej203 _ _ t h ⟨(.sm O O),⟨⟨_,rfl,.vec⟩,⟨_,rfl,.same⟩,fbQ O (.sm O O),fbQ O (.sm O O),ø⟩,rfl⟩)
    ·intro x h
     replace h:=app1 b4 h
     refine G2 (JLm (Ek e) O (JLh (I64 ((e+1:Nat):Int)) (Hv (Ha a8 (Zs e4)) O O O) O (JLm (I64 ((e+1:Nat):Int)) O (G6 (h2 _ _ (e+1) (x,c.2.1,c.2.2.1,c.2.2.2.1,c.2.2.2.2.1,c.2.2.2.2.2.1,c.2.2.2.2.2.2.1,c.2.2.2.2.2.2.2.1,c.2.2.2.2.2.2.2.2.1,c.2.2.2.2.2.2.2.2.2.1,c.2.2.2.2.2.2.2.2.2.2.1,c.2.2.2.2.2.2.2.2.2.2.2) (app1 e9 h) (by omega) ⟨(.sm O O),⟨⟨_,rfl,.vec⟩,⟨_,rfl,.same⟩,fbQ O (.sm O O),fbQ O (.sm O O),ø⟩,rfl⟩)))))
   ·
    have h:=app1 b3 (G51 a7 (Yn hb))
    refine Ho (e2 ?_)
    refine Jr fun g1=>(JLh (.agg (Ke g c)) (G0f Hm O O O O) O (Hb (u:=.junk) (Gz (u:=.agg (Ke g c)) (ds:=(Ke g c)) G37 O O O O O O O O) (G6 (g1 ?_))))
    refine Gy ?_
    obtain rfl:=M0 h
    exact⟨[.agg [.vec 1059 g.length 12 g.length,Eb c.1,I64 c.2.1,I64 c.2.2.1,I64 c.2.2.2.1,I64 c.2.2.2.2.1,E7 c.2.2.2.2.2.1,E8 c.2.2.2.2.2.2.1,E9 c.2.2.2.2.2.2.2.1,I64 c.2.2.2.2.2.2.2.2.1,I64 c.2.2.2.2.2.2.2.2.2.1,I64 c.2.2.2.2.2.2.2.2.2.2.1,I64 c.2.2.2.2.2.2.2.2.2.2.2]],[(1059,.vec 41 12 g.length (g.map G5.av))],⟨⟨_,O,.vec⟩,ø⟩,O,⟨⟨_,⟨_,_,_,_,O,O,O,.inl ⟨Hm,O⟩⟩,.agg ⟨.same O,.list O,.same O,.same O,.same O,.same O,.same O,.same O,.same O,.same O,.same O,.same O,.same O,ø⟩⟩,ø⟩,g.length,O,O⟩
end
end Go.Proofs.YtibhpogonkdiaaaGreat
