/- Walks of functions. -/
import Derived.Test.YtgcpimpnpcdmmaaGreatSpecU
set_option maxRecDepth 100000
set_option maxHeartbeats 1000000
set_option linter.unusedVariables false
set_option linter.unusedSimpArgs false
namespace Go.Proofs.YtgcpimpnpcdmmaaGreat
open Go.RowKit
noncomputable section
structure H9 where
 Bay:Int
 Row:Int
 Tiers:Int
 Deck:Bool
 deriving DecidableEq,Inhabited
def H9.cs (x:H9):List AV:=[U8 x.Bay,U8 x.Row,U8 x.Tiers,BL x.Deck]
def H9.av (x:H9):AV:=.agg x.cs
abbrev Ed:=LS 4 H9.av
structure H8 where
 G3:Int
 Kilos:Int
 Load:Int
 Stay:Int
 Small:Bool
 High:Bool
 deriving DecidableEq,Inhabited
def H8.cs (x:H8):List AV:=[U8 x.G3,U8 x.Kilos,U8 x.Load,U8 x.Stay,BL x.Small,BL x.High]
def H8.av (x:H8):AV:=.agg x.cs
abbrev Ec:=LS 6 H8.av
structure J26 where
 States:List (List G1)
 Water:List (List Int)
 deriving DecidableEq,Inhabited
namespace XVF
open XAF
open XCF
open XSF
open XKF
open XTF
open XUF
theorem Y3f:H3e En 120 4=true:=by kernel_rfl
theorem Y3e:H3e En 124 6=true:=by kernel_rfl
theorem Gc0:H3e En 41 2=true:=by kernel_rfl
theorem Rc1:H1 En 100=true:=by kernel_rfl
theorem Rc0:H1 En 101=true:=by kernel_rfl
theorem Rb6:H1 En 118=true:=by kernel_rfl
theorem Raf:H1 En 138=true:=by kernel_rfl
theorem Ra6:H1 En 162=true:=by kernel_rfl
theorem Y38:H1 En 28=true:=by kernel_rfl
theorem Y37:H1 En 29=true:=by kernel_rfl
theorem Y35:H1 En 32=true:=by kernel_rfl
theorem Y29:H1 En 53=true:=by kernel_rfl
theorem Y28:H1 En 54=true:=by kernel_rfl
theorem Jb3:H1 En 67=true:=by kernel_rfl
theorem Y24:H1 En 68=true:=by kernel_rfl
theorem Jb2:H1 En 69=true:=by kernel_rfl
theorem Y15:H1 En 97=true:=by kernel_rfl
theorem Y14:H1 En 98=true:=by kernel_rfl
theorem Qa3:H1 En 99=true:=by kernel_rfl
theorem Q42:Yy En 103 9 64=true:=by kernel_rfl
theorem Qa2:Yy En 44 1 24=true:=by kernel_rfl
theorem H0c:Jw En 103 5 5=true:=by kernel_rfl
theorem H8d:Jw En 103 6 6=true:=by kernel_rfl
theorem Qa1:Jw En 120 0 0=true:=by kernel_rfl
theorem Qa0:Jw En 120 1 1=true:=by kernel_rfl
theorem Q9f:Jw En 120 2 2=true:=by kernel_rfl
theorem Q9e:Jw En 120 3 3=true:=by kernel_rfl
theorem Q9d:Jw En 124 0 0=true:=by kernel_rfl
theorem J4c:Jw En 124 1 1=true:=by kernel_rfl
theorem J4b:Jw En 124 2 2=true:=by kernel_rfl
theorem Q9c:Jw En 124 3 3=true:=by kernel_rfl
theorem Q9b:Jw En 124 4 4=true:=by kernel_rfl
theorem J4a:Jw En 124 5 5=true:=by kernel_rfl
theorem Ro:Jw En 41 0 0=true:=by kernel_rfl
theorem G22:J94 En 3 .i64=true:=by kernel_rfl
theorem G21:J94 En 5 .u8=true:=by kernel_rfl
theorem Q95:Zk En 140 3 182=true:=by kernel_rfl
theorem Q94:Zk En 163 3 57=true:=by kernel_rfl
theorem Hd9:placesOf En 100=some [(0,1),(1,1)]:=by kernel_rfl
theorem R18:placesOf En 182=some []:=by kernel_rfl
theorem Jd7:placesOf En 41=some [(0,1),(1,1)]:=by kernel_rfl
theorem G7b:placesOf En 97=some [(0,1),(1,1),(2,1),(3,1),(4,1),(5,1),(6,1),(7,1),(8,1),(9,1),(10,1),(11,1)]:=by kernel_rfl
theorem R17:Rb En 140=true:=by kernel_rfl
theorem Hd8:Rb En 141=true:=by kernel_rfl
theorem R9:Rb En 38=true:=by kernel_rfl
theorem Yj:Rb En 44=true:=by kernel_rfl
theorem Ra3:Yg En 120 4=true:=by kernel_rfl
theorem Ra2:Yg En 124 6=true:=by kernel_rfl
theorem Ra1:Yg En 140 1=true:=by kernel_rfl
theorem Ra0:Yg En 141 1=true:=by kernel_rfl
theorem R9f:Yg En 182 0=true:=by kernel_rfl
theorem Q93:Yg En 26 1=true:=by kernel_rfl
theorem Q92:Yg En 27 1=true:=by kernel_rfl
theorem Q91:Yg En 38 1=true:=by kernel_rfl
theorem G56:Yg En 41 2=true:=by kernel_rfl
theorem Yb3:Yg En 5 1=true:=by kernel_rfl
theorem Hc0:sliceB En 22 120 4=true:=by kernel_rfl
theorem Hbf:sliceB En 24 124 6=true:=by kernel_rfl
theorem Ju:sliceB En 38 44 1=true:=by kernel_rfl
theorem J46:(En.info? 100).bind (fun i=>i.zero.map Value.cells)=some (List.toArray [E0,.slice none 0 0]):=by kernel_rfl
theorem R9c:(En.info? 133).bind (fun i=>i.zero.map Value.cells)=some (List.toArray [.slice none 0 0]):=by kernel_rfl
theorem R9b:(En.info? 182).bind (fun i=>i.zero.map Value.cells)=some (List.toArray []):=by kernel_rfl
theorem H2e:(En.info? 41).bind (fun i=>i.zero.map Value.cells)=some (List.toArray [.slice none 0 0,.slice none 0 0]):=by kernel_rfl
theorem Y10:(En.info? 44).bind (fun i=>i.zero.map Value.cells)=some (List.toArray [.slice none 0 0]):=by kernel_rfl
theorem Y0e:(En.info? 49).bind (fun i=>i.zero.map Value.cells)=some (List.toArray [.slice none 0 0]):=by kernel_rfl
theorem Ge7:(En.info? 97).bind (fun i=>i.zero.map Value.cells)=some (List.toArray [E0,E0,.bool false,E0,E0,E0,E0,E0,.slice none 0 0,E0,E0,E0]):=by kernel_rfl
theorem R64:R1 En 120 4=true:=by kernel_rfl
theorem R63:R1 En 124 6=true:=by kernel_rfl
theorem R62:R1 En 140 1=true:=by kernel_rfl
theorem R61:R1 En 141 1=true:=by kernel_rfl
theorem R60:R1 En 182 0=true:=by kernel_rfl
theorem H59:R1 En 36 13=true:=by kernel_rfl
theorem R9a:R1 En 38 1=true:=by kernel_rfl
theorem H58:R1 En 41 2=true:=by kernel_rfl
theorem Hbe:R1 En 44 1=true:=by kernel_rfl
theorem Yb2:(En.info? 182).bind (·.zero)=some (.agg #[]):=by kernel_rfl
theorem Yf0:(En.info? 57).bind (·.zero)=some (.agg #[E0,E0,.int .u8 0]):=by kernel_rfl
end XVF
open XAF
open XCF
open XSF
open XKF
open XTF
open XUF
open XVF

def H52 (c:G3) (a:Int) (b:Int) (d:Bool):Option Bool:=
 some (((decide (c.Bay=a))&&(decide (c.Row=b)))&&(c.Deck==d))
theorem Q7f (c:G3) (a:Int) (b:Int) (d:Bool) (r:Bool) (h:H52 c a b d=some r):Pure En 98 [.agg (G3.cs c),.dptr [I64 a],.dptr [I64 b],.dptr [BL d]] (·=BL r):=by
 unfold H52 at h
 refine Gz [.tmp 5] Tryz.func98 O O (Jr fun e=>(JLh (.ptr 1166 0) (Q6 (cs:=(G3.cs c)) 1166 O O O O O) O (JLm (BL false) O (G6 (e (fzQ [(1,.dptr [I64 a]),(2,.dptr [I64 b]),(3,.dptr [BL d]),(4,Ej c)] [] 1166 rfl rfl rfl ø rfl ?_))))))
 refine Jr fun f=>(JLh (Ej c) (Ga G2c O O O) O (JLh (I64 c.Bay) (Gg Gb O O O) O (JLh (I64 a) (Gg Gb O O O) O (JLh (BL (decide (c.Bay=a))) (Qg O O O) O (JLm (BL (decide (c.Bay=a))) O (JLo (.dptr ((G3.cs c).drop 1)) [] O .sct ø (fun hc=>Ga G92 O O O) O (JLo (I64 c.Row) [11] O .sct ⟨Ua,ø⟩ (fun hc=>Gg Gb O O O) O (JLo (I64 b) [] O .sct ø (fun hc=>Gg Gb O O O) O (JLo (BL (decide (c.Row=b))) [12,13] O .sct ⟨Ua,Ua,ø⟩ (fun hc=>Qg O O O) O (JLh (BL ((decide (c.Bay=a))&&(decide (c.Row=b)))) (Ri O O O O) O (JLm (BL ((decide (c.Bay=a))&&(decide (c.Row=b)))) O (JLo (.dptr ((G3.cs c).drop 2)) [] O .sct ø (fun hc=>Ga Yu O O O) O (JLo (BL c.Deck) [17] O .sct ⟨Ua,ø⟩ (fun hc=>Gg Qe O O O) O ?_)))))))))))))
 refine JLo (BL d) [] O .sct ø (fun hc=>Gg Qe O O O) O (JLo (BL (c.Deck==d)) [18,19] O .sct ⟨Ua,Ua,ø⟩ (fun hc=>Q0f H85 O O O) O (JLh (BL (((decide (c.Bay=a))&&(decide (c.Row=b)))&&(c.Deck==d))) (Ri O O O O) O (JLm (BL (((decide (c.Bay=a))&&(decide (c.Row=b)))&&(c.Deck==d))) O (G6 (f (Gs (fin1 BL h)))))))

def Zh (l:List G3) (wanted:G3→Option Bool):Option (List Int):=
 each (fun e b (a:(List Int)) d=>
  jp (fun c=>
   bnd (wanted e) fun f=>
   bif f then
   (need (decide ((a.length+[(b:Int)].length)*8≤140737488355328∧a.length+[(b:Int)].length≤maxLen)) <|
    c (a++[(b:Int)]))
   else
   (c a)) fun(g:(List Int))=>
  d g)
 (fun(a:(List Int))=>
  some a) l 0 []
theorem Hbc (l:List G3) (wanted:G3→Option Bool) (wanted_f:FuncId) (wanted_c:List AV) (wanted_B:H1 En wanted_f=true) (wanted_d:Qb (fun _=>false) wanted_c=true) (wanted_w:∀ a0 q,wanted a0=some q→Pure En wanted_f ([.agg (G3.cs a0)]++wanted_c) (·=BL q)) (r:(List Int)) (h:Zh l wanted=some r):Pure En 97 [E3 l,.fn wanted_f wanted_c] (·=E2 r):=by
 unfold Zh at h
 refine Gz [.tmp 4] Tryz.func97 O O (Jr fun a2=>(JLh (E2 ([]:List Int)) (Jd 1 O O) O (G6 (a2 (Jr fun a3=>(JLh (OW 1164 1 I64 ([]:List Int)) (H69 1164 3 1 O O O) O (G6 (a3 (Js fun a4=>Jr fun a5=>(JLm (E3 l) O (JLl Hz O O O fun a6=>(JLm (I64 0) O (G6 (a5 (Gq ?_)))))))))))))))
 obtain⟨a7,k,m,i,h⟩:=Je h
 refine Hm (fun a (b:(List Int))=>each a7 k (List.drop a l) a b=some r) (fun a b=>[(1,.fn wanted_f wanted_c),(5,OW 1164 1 I64 b),(8,E3 l),(9,Em l.length),(10,Em a)]) (fun a b=>[(1164,.spare 3 1 b.length b.length)]) (fun a=>l.length - a) 0 [] h ⟨⟨.same (Hk _ _ wanted_d),.same O,.same O,.same O,.same O,ø⟩,⟨⟨_,O,.same⟩,ø⟩,O⟩ ?_
 clear h
 intro a b e b1 a8
 refine Jr fun n=>(JLh (BL (decide ((a:Int) < (l.length:Int)))) (Jn O O O) O (G6 (n (Js fun o=>Gp O (fun hb=>?_) (fun hb=>?_)))))
 ·
  have g:=Jz hb
  obtain⟨c,b0,p,s,h⟩:=Hv e g
  replace h:=Zm m h
  refine Gk (o ?_)
  obtain⟨t,j,h⟩:=Rc h
  refine Qk (fun d:(List Int)=>t d=some r) (fun d=>[(1,.fn wanted_f wanted_c),(5,OW 1164 1 I64 d),(8,E3 l),(9,Em l.length),(10,Em a)]) (fun d=>[(1164,.spare 3 1 d.length d.length)]) (fun Kj24 ej24=>?_) ?_
  ·
   refine Gq (Jr fun v=>(JLm (Em a) O (JLh (Ej c) (Hb (f:=G3.av) (xs:=l) (y:=c) O O O Hz p O) O (JLh (.agg (G3.cs c)) (Gm Gbf O O O) O (JLh (.ptr 1165 0) (Hj 1165 12 G42 O O) O (JLm (Em a) O (Hq (u:=.junk) (H7 (u:=.agg (G3.cs c)) (ds:=(G3.cs c)) H2f O O O O O O O O) (G6 (v ?_)))))))))
   refine Gr [(1,.fn wanted_f wanted_c),(5,OW 1164 1 I64 b),(6,Em a),(7,Ej c),(8,E3 l),(9,Em l.length),(10,Em a)] [(1164,.spare 3 1 b.length b.length)] 1165 rfl rfl rfl ⟨⟨_,rfl,.same⟩,ø⟩ rfl (by exact⟨.conv (.same (Hk _ _ wanted_d)),.conv (.same rfl),.conv (.same rfl),.ptr,.conv (.same rfl),.conv (.same rfl),.conv (.same rfl),ø⟩) (Jr fun w=>(JLm (.fn wanted_f wanted_c) O (JLh (.agg (G3.cs c)) (Gm Gbf O O O) O ?_)))
   obtain⟨a9,x,h⟩:=Gd h
   refine JLh (BL a9) (G29 (args:=[.agg (G3.cs c)]) (caps:=wanted_c) O O (wanted_w c _ x) wanted_B ⟨O,O,ø⟩ wanted_d) O (G6 (w (JCc O h (fun h hb=>?_) (fun h hb=>?_))))
   ·
    refine G2 (JLm (OW 1164 1 I64 b) O (JLm (Em a) O (JLh (E2 [(a:Int)]) (He (xs:=[Em a]) O ⟨O,O,ø⟩ H3 Y6 O O O O) O ?_)))
    obtain⟨z,h⟩:=Jf h
    refine JLh (OW 1164 1 I64 (b++[(a:Int)])) (Yo (f:=I64) (xs:=b) (ys:=[(a:Int)]) O O O O H3 G94 z (fun _=>O) (.inl O) O) O (JLm (OW 1164 1 I64 (b++[(a:Int)])) O (G6 (ej24 _ _ (b++[(a:Int)]) h ⟨⟨.same (Hk _ _ wanted_d),.same O,.same O,.same O,.same O,ø⟩,⟨⟨_,O,.same⟩,ø⟩,O⟩)))
   ·
    refine Gk (ej24 _ _ b h ⟨⟨.same (Hk _ _ wanted_d),.same O,.same O,.same O,.same O,ø⟩,⟨⟨_,O,.same⟩,ø⟩,O⟩)
  ·intro d h
   replace h:=app1 j h
   refine G2 (JLh (I64 ((a+1:Nat):Int)) (J3 (Hp g a6) O O O) O (JLm (I64 ((a+1:Nat):Int)) O (G6 (a8 _ _ (a+1) d (app1 s h) (by omega) ⟨⟨.same (Hk _ _ wanted_d),.same rfl,.same rfl,.same rfl,.same rfl,ø⟩,⟨⟨_,rfl,.same⟩,ø⟩,rfl⟩))))
 ·
  have h:=app1 i (Hw e (Hf hb))
  refine Hr (a4 (Jr fun a1=>(JLm (OW 1164 1 I64 b) O (JLm (OW 1164 1 I64 b) O (G6 (a1 (Gs (fin1l (fun r:(List Int)=>(E2 r:AV)) h))))))))

def H66 (s:Gj) (bay:Int) (row:Int) (deck:Bool):Option (Int×Bool):=
 bnd (Zh s.Columns (fun z0=>H52 z0 bay row deck)) fun a=>
 bif decide ((a.length:Int)=0) then
 (some (0,false))
 else
 (Qm a 0 fun b=>
  some (b,true))
theorem R26 (s:Gj) (bay:Int) (row:Int) (deck:Bool) (r:Int×Bool) (h:H66 s bay row deck=some r):Pure En 53 [.agg (Gj.cs s),I64 bay,I64 row,BL deck] (·=.tup [I64 r.1,BL r.2]):=by
 unfold H66 at h
 refine Gz [.tmp 8,.tmp 9] Tryz.func53 O O (Jr fun c=>(JLh (.ptr 1095 0) (Q6 (cs:=(Gj.cs s)) 1095 O O O O O) O (JLh (.ptr 1096 0) (Q6 (cs:=[I64 bay]) 1096 O O O O O) O (JLh (.ptr 1097 0) (Q6 (cs:=[I64 row]) 1097 O O O O O) O (JLh (.ptr 1098 0) (Q6 (cs:=[BL deck]) 1098 O O O O O) O (JLm (I64 0) O (JLm (BL false) O (G6 (c ?_)))))))))
 refine fzQ [(4,Ee s),(5,.ptr 1096 0),(6,.ptr 1097 0),(7,.ptr 1098 0)] [(1096,.box 3 [I64 bay]),(1097,.box 3 [I64 row]),(1098,.box 4 [BL deck])] 1095 rfl rfl rfl ⟨⟨_,rfl,.boxEq rfl rfl⟩,⟨_,rfl,.boxEq rfl rfl⟩,⟨_,rfl,.boxEq rfl rfl⟩,ø⟩ rfl (fzQ [(4,Ee s),(5,.dptr [I64 bay]),(6,.ptr 1097 0),(7,.ptr 1098 0)] [(1097,.box 3 [I64 row]),(1098,.box 4 [BL deck])] 1096 rfl rfl rfl ⟨⟨_,rfl,.boxEq rfl rfl⟩,⟨_,rfl,.boxEq rfl rfl⟩,ø⟩ rfl ?_)
 refine fzQ [(4,Ee s),(5,.dptr [I64 bay]),(6,.dptr [I64 row]),(7,.ptr 1098 0)] [(1098,.box 4 [BL deck])] 1097 rfl rfl rfl ⟨⟨_,rfl,.boxEq rfl rfl⟩,ø⟩ rfl (fzQ [(4,Ee s),(5,.dptr [I64 bay]),(6,.dptr [I64 row]),(7,.dptr [BL deck])] [] 1098 rfl rfl rfl ø rfl (Jr fun d=>(JLh (Ee s) (Ga Jc O O O) O (JLh (E3 s.Columns) (Gg Jv O O O) O (JLh (.fn 98 [.dptr [I64 bay],.dptr [I64 row],.dptr [BL deck]]) (Q4 (cs:=[.dptr [I64 bay],.dptr [I64 row],.dptr [BL deck]]) O O) O ?_)))))
 obtain⟨a,e,h⟩:=Gd h
 refine JLh (E2 a) (Gu O (Hbc s.Columns (fun z0=>H52 z0 bay row deck) 98 [.dptr [I64 bay],.dptr [I64 row],.dptr [BL deck]] Y14 O (fun z0 q hq=>Q7f z0 bay row deck q hq) a e) Y15 ⟨O,O,O,O,ø⟩) O (JLm (E2 a) O (G6 (d (Js fun g=>Jr fun i=>(JLm (E2 a) O (JLl H3 O O O fun n=>(JLh (BL (decide ((a.length:Int)=0))) (Qg O O O) O (G6 (i (JCc O h (fun h hb=>?_) (fun h hb=>?_)))))))))))
 ·
  refine Jr fun j=>(JLm (I64 0) O (JLm (BL false) O (G6 (j (Gs (⟨[I64 0,BL false],[],ø,O,⟨⟨_,O,.conv (.same O)⟩,⟨_,O,.conv (.same O)⟩,ø⟩,O,congrArg (fun r:Int×Bool=>(.tup [I64 r.1,BL r.2]:AV)) (M8 h)⟩))))))
 ·
  refine Gk (g (Jr fun k=>(JLm (E2 a) O ?_)))
  obtain⟨o,b,l,m,h⟩:=Rw h
  refine JLh (.dptr [I64 b]) (Hb (f:=I64) (xs:=a) (y:=b) O O O H3 m l) O (JLh (I64 b) (Gg Gb O O O) O (JLm (I64 b) O (JLm (BL true) O (G6 (k (Gs (⟨[I64 b,BL true],[],ø,O,⟨⟨_,O,.conv (.same O)⟩,⟨_,O,.conv (.same O)⟩,ø⟩,O,congrArg (fun r:Int×Bool=>(.tup [I64 r.1,BL r.2]:AV)) (M8 h)⟩)))))))

def Zo (l:List H9) (covers:Int):Option Gj:=
 bnd (J5b (min (l.length:Int) 12) l.length) fun m5=>
 each (fun c a9 (a:(List G3)×(List G9)×Int×Int×Int×Int×(List Row)×(List Frame)×(List H0)×Int×Int×Int×Int) r=>
  jp (fun m=>
   chk (c.Bay) fun t=>
   bnd (Hc5 t 5) fun e=>
   chk (c.Row) fun u=>
   bnd (Hc5 u 5) fun f=>
   chk (c.Tiers) fun v=>
   bnd (Hc5 v 4) fun w=>
   chk (2+w) fun h=>
   chk (13000*e) fun x=>
   chk (x - 26000) fun i=>
   chk (2500*f) fun y=>
   chk (y - 5000) fun j=>
   jp (fun n=>
    bif c.Deck then
    (n 20000)
    else
    (n 2000)) fun(k:Int)=>
   bnd (H66 (Gj.mk a.1 a.2.1 (Light.mk a.2.2.1 a.2.2.2.1 a.2.2.2.2.1 a.2.2.2.2.2.1) a.2.2.2.2.2.2.1 a.2.2.2.2.2.2.2.1 a.2.2.2.2.2.2.2.2.1 (G8.mk a.2.2.2.2.2.2.2.2.2.1 a.2.2.2.2.2.2.2.2.2.2.1 a.2.2.2.2.2.2.2.2.2.2.2.1 a.2.2.2.2.2.2.2.2.2.2.2.2)) e f c.Deck) fun z=>
   bif (!z.2) then
   (need (decide ((a.1.length+[(G3.mk e f c.Deck h 0 500000000 500000000 0 [] i j k)].length)*112≤140737488355328∧a.1.length+[(G3.mk e f c.Deck h 0 500000000 500000000 0 [] i j k)].length≤maxLen)) <|
    m (a.1++[(G3.mk e f c.Deck h 0 500000000 500000000 0 [] i j k)]))
   else
   (m a.1)) fun(a0:(List G3))=>
  r (a0,a.2.1,a.2.2.1,a.2.2.2.1,a.2.2.2.2.1,a.2.2.2.2.2.1,a.2.2.2.2.2.2.1,a.2.2.2.2.2.2.2.1,a.2.2.2.2.2.2.2.2.1,a.2.2.2.2.2.2.2.2.2.1,a.2.2.2.2.2.2.2.2.2.2.1,a.2.2.2.2.2.2.2.2.2.2.2.1,a.2.2.2.2.2.2.2.2.2.2.2.2))
 (fun(a:(List G3)×(List G9)×Int×Int×Int×Int×(List Row)×(List Frame)×(List H0)×Int×Int×Int×Int)=>
  jp (fun o=>
   bif decide ((a.1.length:Int)=0) then
   (o ([(G3.mk 0 0 false 3 0 500000000 500000000 0 [] 0 0 2000)]))
   else
   (o a.1)) fun(a1:(List G3))=>
  need (decide (5≤9223372036854775807)) <|
  upto (fun d (b:(List G3)×(List G9)×Int×Int×Int×Int×(List Row)×(List Frame)×(List H0)×Int×Int×Int×Int) s=>
   jp (fun p=>
    jp (fun q=>
     chk (2*(d:Int)) fun a2=>
     bnd (J5b a2 4294967295) fun a3=>
     bif decide ((Ree .u32 (Gee .u32 covers a3) 1)=1) then
     (need (decide ((b.2.1.length+[(G9.mk (d:Int) [0,1])].length)*32≤140737488355328∧b.2.1.length+[(G9.mk (d:Int) [0,1])].length≤maxLen)) <|
      q (b.2.1++[(G9.mk (d:Int) [0,1])]))
     else
     (q b.2.1)) fun(g:(List G9))=>
    chk (2*(d:Int)) fun a4=>
    chk (a4+1) fun a5=>
    bnd (J5b a5 4294967295) fun a6=>
    bif decide ((Ree .u32 (Gee .u32 covers a6) 1)=1) then
    (need (decide ((g.length+[(G9.mk (d:Int) [2,3,4])].length)*32≤140737488355328∧g.length+[(G9.mk (d:Int) [2,3,4])].length≤maxLen)) <|
     p (g++[(G9.mk (d:Int) [2,3,4])]))
    else
    (p g)) fun(a7:(List G9))=>
   s (b.1,a7,b.2.2.1,b.2.2.2.1,b.2.2.2.2.1,b.2.2.2.2.2.1,b.2.2.2.2.2.2.1,b.2.2.2.2.2.2.2.1,b.2.2.2.2.2.2.2.2.1,b.2.2.2.2.2.2.2.2.2.1,b.2.2.2.2.2.2.2.2.2.2.1,b.2.2.2.2.2.2.2.2.2.2.2.1,b.2.2.2.2.2.2.2.2.2.2.2.2))
  (fun(b:(List G3)×(List G9)×Int×Int×Int×Int×(List Row)×(List Frame)×(List H0)×Int×Int×Int×Int)=>
   some (Gj.mk b.1 b.2.1 (Light.mk b.2.2.1 b.2.2.2.1 b.2.2.2.2.1 b.2.2.2.2.2.1) b.2.2.2.2.2.2.1 b.2.2.2.2.2.2.2.1 b.2.2.2.2.2.2.2.2.1 (G8.mk b.2.2.2.2.2.2.2.2.2.1 b.2.2.2.2.2.2.2.2.2.2.1 b.2.2.2.2.2.2.2.2.2.2.2.1 b.2.2.2.2.2.2.2.2.2.2.2.2))) (5:Int).toNat 0 (a1,a.2.1,a.2.2.1,a.2.2.2.1,a.2.2.2.2.1,a.2.2.2.2.2.1,a.2.2.2.2.2.2.1,a.2.2.2.2.2.2.2.1,a.2.2.2.2.2.2.2.2.1,a.2.2.2.2.2.2.2.2.2.1,a.2.2.2.2.2.2.2.2.2.2.1,a.2.2.2.2.2.2.2.2.2.2.2.1,a.2.2.2.2.2.2.2.2.2.2.2.2)) (l.take m5) 0 ([],[],0,0,0,0,[],[],[],0,0,0,0)
abbrev Kb:List AV:=[E3 ([]:List G3),E7 ([]:List G9),I64 0,I64 0,I64 0,I64 0,E4 ([]:List Row),E5 ([]:List Frame),E6 ([]:List H0),I64 0,I64 0,I64 0,I64 0]
abbrev Kc (a:(List G3)×(List G9)×Int×Int×Int×Int×(List Row)×(List Frame)×(List H0)×Int×Int×Int×Int):List AV:=[OW 1041 12 G3.av a.1,OW 1042 2 G9.av a.2.1,I64 a.2.2.1,I64 a.2.2.2.1,I64 a.2.2.2.2.1,I64 a.2.2.2.2.2.1,E4 a.2.2.2.2.2.2.1,E5 a.2.2.2.2.2.2.2.1,E6 a.2.2.2.2.2.2.2.2.1,I64 a.2.2.2.2.2.2.2.2.2.1,I64 a.2.2.2.2.2.2.2.2.2.2.1,I64 a.2.2.2.2.2.2.2.2.2.2.2.1,I64 a.2.2.2.2.2.2.2.2.2.2.2.2]
abbrev Kd (a:(List G3)×(List G9)×Int×Int×Int×Int×(List Row)×(List Frame)×(List H0)×Int×Int×Int×Int):List AV:=[E3 a.1,OW 1042 2 G9.av a.2.1,I64 a.2.2.1,I64 a.2.2.2.1,I64 a.2.2.2.2.1,I64 a.2.2.2.2.2.1,E4 a.2.2.2.2.2.2.1,E5 a.2.2.2.2.2.2.2.1,E6 a.2.2.2.2.2.2.2.2.1,I64 a.2.2.2.2.2.2.2.2.2.1,I64 a.2.2.2.2.2.2.2.2.2.2.1,I64 a.2.2.2.2.2.2.2.2.2.2.2.1,I64 a.2.2.2.2.2.2.2.2.2.2.2.2]
theorem He1 (l:List H9) (covers:Int) (r:Gj) (h:Zo l covers=some r):Pure En 28 [Ed l,.sc (.int .u32 covers)] (·=.agg (Gj.cs r)):=by
 unfold Zo at h
 refine Gz [.cell 4 36] Tryz.func28 O O (Jr fun h5=>(JLh (.ptr 1037 0) (G10 1037 Kb [.slice none 0 0,.slice none 0 0,E0,E0,E0,E0,.slice none 0 0,.slice none 0 0,.slice none 0 0,E0,E0,E0,E0] Ge9 ⟨.inr ⟨_,O,O⟩,.inr ⟨_,O,O⟩,.inl O,.inl O,.inl O,.inl O,.inr ⟨_,O,O⟩,.inr ⟨_,O,O⟩,.inr ⟨_,O,O⟩,.inl O,.inl O,.inl O,.inl O,ø⟩ O O) O (G6 (h5 ?_))))
 refine Jr fun h6=>(JLh (.ptr 1038 0) (G10 1038 [.sc (.slice none 0 0),.sc (.slice none 0 0),I64 0,I64 0,I64 0,I64 0,E4 ([]:List Row),E5 ([]:List Frame),E6 ([]:List H0),I64 0,I64 0,I64 0,I64 0] [.slice none 0 0,.slice none 0 0,E0,E0,E0,E0,.slice none 0 0,.slice none 0 0,.slice none 0 0,E0,E0,E0,E0] Ge9 ⟨.inl O,.inl O,.inl O,.inl O,.inl O,.inl O,.inr ⟨_,O,O⟩,.inr ⟨_,O,O⟩,.inr ⟨_,O,O⟩,.inl O,.inl O,.inl O,.inl O,ø⟩ O O) O (Gf5 1038 0 1041 97 12 O O O (cs':=[OW 1041 12 G3.av ([]:List G3),.sc (.slice none 0 0),I64 0,I64 0,I64 0,I64 0,E4 ([]:List Row),E5 ([]:List Frame),E6 ([]:List H0),I64 0,I64 0,I64 0,I64 0]) O ?_))
 refine Gf5 1038 1 1042 100 2 O O O (cs':=[OW 1041 12 G3.av ([]:List G3),OW 1042 2 G9.av ([]:List G9),I64 0,I64 0,I64 0,I64 0,E4 ([]:List Row),E5 ([]:List Frame),E6 ([]:List H0),I64 0,I64 0,I64 0,I64 0]) O (G6 (h6 (Js fun h7=>Jr fun h8=>(JLm (Ed l) O (JLm (Ed l) O (JLl Hc0 O O O fun i2=>(JLh (I64 (min (l.length:Int) 12)) (Z37 O O O) O ?_)))))))
 obtain⟨w,h9,h⟩:=Gd h
 refine JLh (Ed (l.take w)) (J2c (f:=H9.av) (xs:=l) O O O Hc0 (H36 h9)) O (JLl Hc0 O O O fun g1=>(JLm (I64 0) O (G6 (h8 (Gq ?_)))))
 obtain⟨g2,b5,b6,a8,h⟩:=Je h
 refine Hm (fun k (a:(List G3)×(List G9)×Int×Int×Int×Int×(List Row)×(List Frame)×(List H0)×Int×Int×Int×Int)=>each g2 b5 (List.drop k (l.take w)) k a=some r) (fun k a=>[(1,.sc (.int .u32 covers)),(4,.ptr 1037 0),(5,.ptr 1038 0),(16,Ed (l.take w)),(17,I64 ((l.take w).length:Int)),(18,Em k)]) (fun k a=>[(1041,.spare 97 12 a.1.length a.1.length),(1042,.spare 100 2 a.2.1.length a.2.1.length),(1037,.box 36 Kb),(1038,.box 36 (Kc a))]) (fun k=>(l.take w).length - k) 0 ([],[],0,0,0,0,[],[],[],0,0,0,0) h ⟨(.sm O O),⟨⟨_,rfl,.same⟩,⟨_,rfl,.same⟩,fbQ O (.sm O O),fbQ O (.sm O O),ø⟩,rfl⟩ ?_
 clear h
 intro k a a1 i3 g3
 refine Jr fun b7=>(JLh (BL (decide ((k:Int) < ((l.take w).length:Int)))) (Jn O O O) O (G6 (b7 (Js fun b8=>Gp O (fun hb=>?_) (fun hb=>?_)))))
 ·
  have a2:=Jz hb
  obtain⟨d,i0,b9,c0,h⟩:=Hv a1 a2
  replace h:=Zm b6 h
  refine Gk (b8 ?_)
  obtain⟨c1,a9,h⟩:=Rc h
  refine Qk (fun t:(List G3)=>c1 t=some r) (fun t=>[(1,.sc (.int .u32 covers)),(4,.ptr 1037 0),(5,.ptr 1038 0),(16,Ed (l.take w)),(17,I64 ((l.take w).length:Int)),(18,Em k)]) (fun t=>[(1041,.spare 97 12 t.length t.length),(1042,.spare 100 2 a.2.1.length a.2.1.length),(1037,.box 36 Kb),(1038,.box 36 [OW 1041 12 G3.av t,OW 1042 2 G9.av a.2.1,I64 a.2.2.1,I64 a.2.2.2.1,I64 a.2.2.2.2.1,I64 a.2.2.2.2.2.1,E4 a.2.2.2.2.2.2.1,E5 a.2.2.2.2.2.2.2.1,E6 a.2.2.2.2.2.2.2.2.1,I64 a.2.2.2.2.2.2.2.2.2.1,I64 a.2.2.2.2.2.2.2.2.2.2.1,I64 a.2.2.2.2.2.2.2.2.2.2.2.1,I64 a.2.2.2.2.2.2.2.2.2.2.2.2])]) (fun Kj109 ej109=>?_) ?_
  ·
   refine Gq (Jr fun c2=>(JLh (.dptr (H9.cs d)) (Hb (f:=H9.av) (xs:=(l.take w)) (y:=d) O O O Hc0 b9 O) O (JLh (.agg (H9.cs d)) (Gm Y3f O O O) O (JLh (.ptr 1039 0) (Hj 1039 4 R64 O O) O (Hq (u:=.junk) (H7 (u:=.agg (H9.cs d)) (ds:=[U8 d.Bay,U8 d.Row,U8 d.Tiers,BL d.Deck]) Ra3 O O O O O O O O) (G6 (c2 ?_)))))))
   refine fzQ [(1,.sc (.int .u32 covers)),(4,.ptr 1037 0),(5,.ptr 1038 0),(7,.dptr (H9.cs d)),(16,Ed (l.take w)),(17,I64 ((l.take w).length:Int)),(18,Em k)] [(1041,.spare 97 12 a.1.length a.1.length),(1042,.spare 100 2 a.2.1.length a.2.1.length),(1037,.box 36 Kb),(1038,.box 36 (Kc a))] 1039 rfl rfl rfl ⟨⟨_,rfl,.same⟩,⟨_,rfl,.same⟩,⟨_,rfl,.boxEq rfl rfl⟩,⟨_,rfl,.boxEq rfl rfl⟩,ø⟩ rfl ?_
   refine Jr fun c3=>(JLh (.dptr (H9.cs d)) (Ga Qa1 O O O) O (JLh (U8 d.Bay) (Gg Hy O O O) O ?_))
   obtain⟨g4,c4,h⟩:=Ht h
   refine JLh (I64 g4) (G9c G22 G21 c4 O O) O ?_
   obtain⟨g,a3,h⟩:=Gd h
   refine JLh (I64 g) (J74 (R8 a3).1 (R8 a3).2 O O O) O (JLh (.dptr ((H9.cs d).drop 1)) (Ga Qa0 O O O) O (JLh (U8 d.Row) (Gg Hy O O O) O ?_))
   obtain⟨g5,c5,h⟩:=Ht h
   refine JLh (I64 g5) (G9c G22 G21 c5 O O) O ?_
   obtain⟨i,a4,h⟩:=Gd h
   refine JLh (I64 i) (J74 (R8 a4).1 (R8 a4).2 O O O) O (JLh (.dptr [BL d.Deck]) (Ga Q9e O O O) O (JLh (BL d.Deck) (Gg Qe O O O) O (JLh (.dptr [U8 d.Tiers,BL d.Deck]) (Ga Q9f O O O) O (JLh (U8 d.Tiers) (Gg Hy O O O) O ?_))))
   obtain⟨g6,c6,h⟩:=Ht h
   refine JLh (I64 g6) (G9c G22 G21 c6 O O) O ?_
   obtain⟨g7,a5,h⟩:=Gd h
   refine JLh (I64 g7) (J74 (R8 a5).1 (R8 a5).2 O O O) O ?_
   obtain⟨j,c7,h⟩:=Ht h
   refine JLh (I64 j) (J3 c7 O O O) O (JLh (.agg [I64 g,I64 i,BL d.Deck,I64 j,I64 0,I64 500000000,I64 500000000,I64 0,E2 ([]:List Int),I64 0,I64 0,I64 0]) (Hi (cs:=[I64 g,I64 i,BL d.Deck,I64 j,I64 0,I64 500000000,I64 500000000,I64 0,E2 ([]:List Int),I64 0,I64 0,I64 0]) [(0,1),(1,1),(2,1),(3,1),(4,1),(5,1),(6,1),(7,1),(8,1),(9,1),(10,1),(11,1)] [I64 0,I64 0,BL false,I64 0,I64 0,I64 0,I64 0,I64 0,E2 ([]:List Int),I64 0,I64 0,I64 0] [E0,E0,.bool false,E0,E0,E0,E0,E0,.slice none 0 0,E0,E0,E0] G7b Ge7 ⟨.inl O,.inl O,.inl O,.inl O,.inl O,.inl O,.inl O,.inl O,.inr ⟨_,O,O⟩,.inl O,.inl O,.inl O,ø⟩ O O) O (JLh (.ptr 1040 0) (Hj 1040 12 G42 O O) O (Hq (u:=.junk) (H7 (u:=.agg [I64 g,I64 i,BL d.Deck,I64 j,I64 0,I64 500000000,I64 500000000,I64 0,E2 ([]:List Int),I64 0,I64 0,I64 0]) (ds:=[I64 g,I64 i,BL d.Deck,I64 j,I64 0,I64 500000000,I64 500000000,I64 0,E2 ([]:List Int),I64 0,I64 0,I64 0]) H2f O O O O O O O O) (G6 (c3 ?_)))))
   refine Jr fun c8=>(JLh (.ptr 1040 0) (J9 G2c O O) O (JLh (I64 g) (J2 Gb O O O O) O ?_))
   obtain⟨g8,c9,h⟩:=Ht h
   refine JLh (I64 g8) (Jab c9 O O O) O ?_
   obtain⟨m,d0,h⟩:=Ht h
   refine JLh (I64 m) (G62 d0 O O O) O (JLh (.ptr 1040 1) (J9 G92 O O) O (JLh (I64 i) (J2 Gb O O O O) O ?_))
   obtain⟨g9,d1,h⟩:=Ht h
   refine JLh (I64 g9) (Jab d1 O O O) O ?_
   obtain⟨n,d2,h⟩:=Ht h
   refine JLh (I64 n) (G62 d2 O O O) O (JLh (.ptr 1040 9) (J9 J9b O O) O (Hq (u:=.junk) (H7 (u:=I64 m) (ds:=[I64 g,I64 i,BL d.Deck,I64 j,I64 0,I64 500000000,I64 500000000,I64 0,E2 ([]:List Int),I64 m,I64 0,I64 0]) G63 O O O O O O O O) (JLh (.ptr 1040 10) (J9 J48 O O) O (Hq (u:=.junk) (H7 (u:=I64 n) (ds:=[I64 g,I64 i,BL d.Deck,I64 j,I64 0,I64 500000000,I64 500000000,I64 0,E2 ([]:List Int),I64 m,I64 n,I64 0]) G63 O O O O O O O O) (JLh (.ptr 1040 11) (J9 H8c O O) O (Hq (u:=.junk) (H7 (u:=I64 2000) (ds:=[I64 g,I64 i,BL d.Deck,I64 j,I64 0,I64 500000000,I64 500000000,I64 0,E2 ([]:List Int),I64 m,I64 n,I64 2000]) G63 O O O O O O O O) (G6 (c8 ?_))))))))
   obtain⟨d3,b0,h⟩:=Rc h
   refine Qk (fun o:Int=>d3 o=some r) (fun o=>[(1,.sc (.int .u32 covers)),(4,.ptr 1037 0),(5,.ptr 1038 0),(8,.ptr 1040 0),(16,Ed (l.take w)),(17,I64 ((l.take w).length:Int)),(18,Em k)]) (fun o=>[(1041,.spare 97 12 a.1.length a.1.length),(1042,.spare 100 2 a.2.1.length a.2.1.length),(1037,.box 36 Kb),(1038,.box 36 (Kc a)),(1040,.box 97 [I64 g,I64 i,BL d.Deck,I64 j,I64 0,I64 500000000,I64 500000000,I64 0,E2 ([]:List Int),I64 m,I64 n,I64 o])]) (fun Kj124 ej124=>?_) ?_
   ·
    refine Jr fun d4=>(JLh (.ptr 1040 2) (J9 Yu O O) O (JLh (BL d.Deck) (J2 Qe O O O O) O (G6 (d4 (JCc O h (fun h hb=>?_) (fun h hb=>?_))))))
    ·
     refine G2 (JLh (.ptr 1040 11) (J9 H8c O O) O (Hq (u:=.junk) (H7 (u:=I64 20000) (ds:=[I64 g,I64 i,BL d.Deck,I64 j,I64 0,I64 500000000,I64 500000000,I64 0,E2 ([]:List Int),I64 m,I64 n,I64 20000]) G63 O O O O O O O O) (G6 (ej124 _ _ 20000 h ⟨(.sm O O),⟨⟨_,rfl,.same⟩,⟨_,rfl,.same⟩,fbQ O (.sm O O),fbQ O (.sm O O),fbQ O (.sm O O),ø⟩,rfl⟩))))
    ·
     refine Gk (ej124 _ _ 2000 h ⟨(.sm O O),⟨⟨_,rfl,.same⟩,⟨_,rfl,.same⟩,fbQ O (.sm O O),fbQ O (.sm O O),fbQ O (.sm O O),ø⟩,rfl⟩)
   ·intro o h
    replace h:=app1 b0 h
    refine Jr fun d5=>(JLh (.agg (Kc a)) (J31 J8 O O O O) O (JLh (.ptr 1040 0) (J9 G2c O O) O (JLh (I64 g) (J2 Gb O O O O) O (JLh (.ptr 1040 1) (J9 G92 O O) O (JLh (I64 i) (J2 Gb O O O O) O (JLh (.ptr 1040 2) (J9 Yu O O) O (JLh (BL d.Deck) (J2 Qe O O O O) O ?_)))))))
    obtain⟨q,d6,h⟩:=Gd h
    refine JLh (.tup [I64 q.1,BL q.2]) (Gu O (R26 (Gj.mk a.1 a.2.1 (Light.mk a.2.2.1 a.2.2.2.1 a.2.2.2.2.1 a.2.2.2.2.2.1) a.2.2.2.2.2.2.1 a.2.2.2.2.2.2.2.1 a.2.2.2.2.2.2.2.2.1 (G8.mk a.2.2.2.2.2.2.2.2.2.1 a.2.2.2.2.2.2.2.2.2.2.1 a.2.2.2.2.2.2.2.2.2.2.2.1 a.2.2.2.2.2.2.2.2.2.2.2.2)) g i d.Deck q d6) Y29 ⟨O,O,O,O,O,O,O,O,ø⟩) O (JLm (.tup [I64 q.1,BL q.2]) O (JLh (I64 q.1) (Gv O O O) O (JLh (BL q.2) (Gv O O O) O (JLm (I64 q.1) O (JLm (BL q.2) O (G6 (d5 ?_)))))))
    refine fzQ [(1,.sc (.int .u32 covers)),(4,.ptr 1037 0),(5,.ptr 1038 0),(8,.dptr [I64 g,I64 i,BL d.Deck,I64 j,I64 0,I64 500000000,I64 500000000,I64 0,E2 ([]:List Int),I64 m,I64 n,I64 o]),(10,BL q.2),(16,Ed (l.take w)),(17,I64 ((l.take w).length:Int)),(18,Em k)] [(1041,.spare 97 12 a.1.length a.1.length),(1042,.spare 100 2 a.2.1.length a.2.1.length),(1037,.box 36 Kb),(1038,.box 36 (Kc a))] 1040 rfl rfl rfl ⟨⟨_,rfl,.same⟩,⟨_,rfl,.same⟩,⟨_,rfl,.boxEq rfl rfl⟩,⟨_,rfl,.boxEq rfl rfl⟩,ø⟩ rfl ?_
    refine Jr fun d7=>(JLm (BL q.2) O (JLh (BL (!q.2)) (Yc (b:=q.2) O O) O (G6 (d7 (JCc O h (fun h hb=>?_) (fun h hb=>?_))))))
    ·
     refine G2 (JLh (.ptr 1038 0) (J9 Jc O O) O (JLh (OW 1041 12 G3.av a.1) (J2 Jv O O O O) O (JLh (.agg [I64 g,I64 i,BL d.Deck,I64 j,I64 0,I64 500000000,I64 500000000,I64 0,E2 ([]:List Int),I64 m,I64 n,I64 o]) (Gm Gbf O O O) O (JLh (E3 ([(G3.mk g i d.Deck j 0 500000000 500000000 0 [] m n o)])) (He (xs:=[.agg [I64 g,I64 i,BL d.Deck,I64 j,I64 0,I64 500000000,I64 500000000,I64 0,E2 ([]:List Int),I64 m,I64 n,I64 o]]) O ⟨O,O,ø⟩ Hz G42 O O O O) O ?_))))
     obtain⟨d8,h⟩:=Jf h
     refine JLh (OW 1041 12 G3.av (a.1++[(G3.mk g i d.Deck j 0 500000000 500000000 0 [] m n o)])) (Yo (f:=G3.av) (xs:=a.1) (ys:=[(G3.mk g i d.Deck j 0 500000000 500000000 0 [] m n o)]) O O O O Hz Jad d8 (fun _=>O) (.inl O) O) O (JLh (.ptr 1038 0) (J9 Jc O O) O (Hq (u:=.junk) (H7 (u:=OW 1041 12 G3.av (a.1++[(G3.mk g i d.Deck j 0 500000000 500000000 0 [] m n o)])) (ds:=[OW 1041 12 G3.av (a.1++[(G3.mk g i d.Deck j 0 500000000 500000000 0 [] m n o)]),OW 1042 2 G9.av a.2.1,I64 a.2.2.1,I64 a.2.2.2.1,I64 a.2.2.2.2.1,I64 a.2.2.2.2.2.1,E4 a.2.2.2.2.2.2.1,E5 a.2.2.2.2.2.2.2.1,E6 a.2.2.2.2.2.2.2.2.1,I64 a.2.2.2.2.2.2.2.2.2.1,I64 a.2.2.2.2.2.2.2.2.2.2.1,I64 a.2.2.2.2.2.2.2.2.2.2.2.1,I64 a.2.2.2.2.2.2.2.2.2.2.2.2]) Q93 O O O O O O O O) (G6 ?_)))
     exact ej109 _ _ (a.1++[(G3.mk g i d.Deck j 0 500000000 500000000 0 [] m n o)]) h ⟨(.sm O O),⟨⟨_,rfl,.same⟩,⟨_,rfl,.same⟩,fbQ O (.sm O O),fbQ O (.sm O O),ø⟩,rfl⟩
    ·
     refine Gk (ej109 _ _ a.1 h ⟨(.sm O O),⟨⟨_,rfl,.same⟩,⟨_,rfl,.same⟩,fbQ O (.sm O O),fbQ O (.sm O O),ø⟩,rfl⟩)
  ·intro t h
   replace h:=app1 a9 h
   refine G2 (JLh (I64 ((k+1:Nat):Int)) (J3 (Hp a2 g1) O O O) O (JLm (I64 ((k+1:Nat):Int)) O (G6 (g3 _ _ (k+1) (t,a.2.1,a.2.2.1,a.2.2.2.1,a.2.2.2.2.1,a.2.2.2.2.2.1,a.2.2.2.2.2.2.1,a.2.2.2.2.2.2.2.1,a.2.2.2.2.2.2.2.2.1,a.2.2.2.2.2.2.2.2.2.1,a.2.2.2.2.2.2.2.2.2.2.1,a.2.2.2.2.2.2.2.2.2.2.2.1,a.2.2.2.2.2.2.2.2.2.2.2.2) (app1 c0 h) (by omega) ⟨(.sm O O),⟨⟨_,rfl,.same⟩,⟨_,rfl,.same⟩,fbQ O (.sm O O),fbQ O (.sm O O),ø⟩,rfl⟩))))
 ·
  have h:=app1 a8 (Hw a1 (Hf hb))
  refine Hr (h7 ?_)
  obtain⟨d9,b1,h⟩:=Rc h
  refine Qk (fun x:(List G3)=>d9 x=some r) (fun x=>[(1,.sc (.int .u32 covers)),(4,.ptr 1037 0),(5,.ptr 1038 0)]) (fun x=>[(1042,.spare 100 2 a.2.1.length a.2.1.length),(1037,.box 36 Kb),(1038,.box 36 [E3 x,OW 1042 2 G9.av a.2.1,I64 a.2.2.1,I64 a.2.2.2.1,I64 a.2.2.2.2.1,I64 a.2.2.2.2.2.1,E4 a.2.2.2.2.2.2.1,E5 a.2.2.2.2.2.2.2.1,E6 a.2.2.2.2.2.2.2.2.1,I64 a.2.2.2.2.2.2.2.2.2.1,I64 a.2.2.2.2.2.2.2.2.2.2.1,I64 a.2.2.2.2.2.2.2.2.2.2.2.1,I64 a.2.2.2.2.2.2.2.2.2.2.2.2])]) (fun Kj130 ej130=>?_) ?_
  ·
   refine Jr fun e0=>(JLh (.ptr 1038 0) (J9 Jc O O) O (JLh (OW 1041 12 G3.av a.1) (J2 Jv O O O O) O (JLl Hz O O O fun i4=>(JLh (BL (decide ((a.1.length:Int)=0))) (Qg O O O) O (G6 (e0 (JCc O h (fun h hb=>?_) (fun h hb=>?_))))))))
   ·
    refine G2 ?_
    refine JLh (.agg [I64 0,I64 0,BL false,I64 3,I64 0,I64 500000000,I64 500000000,I64 0,E2 ([]:List Int),I64 0,I64 0,I64 2000]) (Hi (cs:=[I64 0,I64 0,BL false,I64 3,I64 0,I64 500000000,I64 500000000,I64 0,E2 ([]:List Int),I64 0,I64 0,I64 2000]) [(0,1),(1,1),(2,1),(3,1),(4,1),(5,1),(6,1),(7,1),(8,1),(9,1),(10,1),(11,1)] [I64 0,I64 0,BL false,I64 0,I64 0,I64 0,I64 0,I64 0,E2 ([]:List Int),I64 0,I64 0,I64 0] [E0,E0,.bool false,E0,E0,E0,E0,E0,.slice none 0 0,E0,E0,E0] G7b Ge7 ⟨.inl O,.inl O,.inl O,.inl O,.inl O,.inl O,.inl O,.inl O,.inr ⟨_,O,O⟩,.inl O,.inl O,.inl O,ø⟩ O O) O (JLh (E3 ([(G3.mk 0 0 false 3 0 500000000 500000000 0 [] 0 0 2000)])) (He (xs:=[.agg [I64 0,I64 0,BL false,I64 3,I64 0,I64 500000000,I64 500000000,I64 0,E2 ([]:List Int),I64 0,I64 0,I64 2000]]) O ⟨O,O,ø⟩ Hz G42 O O O O) O (JLh (.ptr 1038 0) (J9 Jc O O) O (Hq (u:=.junk) (H7 (u:=E3 ([(G3.mk 0 0 false 3 0 500000000 500000000 0 [] 0 0 2000)])) (ds:=[E3 ([(G3.mk 0 0 false 3 0 500000000 500000000 0 [] 0 0 2000)]),OW 1042 2 G9.av a.2.1,I64 a.2.2.1,I64 a.2.2.2.1,I64 a.2.2.2.2.1,I64 a.2.2.2.2.2.1,E4 a.2.2.2.2.2.2.1,E5 a.2.2.2.2.2.2.2.1,E6 a.2.2.2.2.2.2.2.2.1,I64 a.2.2.2.2.2.2.2.2.2.1,I64 a.2.2.2.2.2.2.2.2.2.2.1,I64 a.2.2.2.2.2.2.2.2.2.2.2.1,I64 a.2.2.2.2.2.2.2.2.2.2.2.2]) Q93 O O O O O O O O) (G6 ?_))))
    exact ej130 _ _ ([(G3.mk 0 0 false 3 0 500000000 500000000 0 [] 0 0 2000)]) h ⟨(.sm O O),⟨⟨_,rfl,.same⟩,fbQ O (.sm O O),fbQ O (.sm O O),ø⟩,rfl⟩
   ·
    refine Gk (ej130 _ _ a.1 h ⟨(.sm O O),⟨⟨_,rfl,.same⟩,fbQ O (.sm O O),fbQ O ⟨.list rfl,.same rfl,.same rfl,.same rfl,.same rfl,.same rfl,.same rfl,.same rfl,.same rfl,.same rfl,.same rfl,.same rfl,.same rfl,ø⟩,ø⟩,rfl⟩)
  ·intro x h
   replace h:=app1 b1 h
   refine Js fun e1=>Jr fun e2=>(JLm (I64 0) O (G6 (e2 (Gq ?_))))
   obtain⟨e3,h⟩:=Jf h
   obtain⟨h0,e4,e5,b2,h⟩:=J07 h
   refine Hm (fun e (c:(List G3)×(List G9)×Int×Int×Int×Int×(List Row)×(List Frame)×(List H0)×Int×Int×Int×Int)=>upto h0 e4 ((5:Int).toNat - e) e c=some r) (fun e c=>[(1,.sc (.int .u32 covers)),(4,.ptr 1037 0),(5,.ptr 1038 0),(11,Em e)]) (fun e c=>[(1042,.spare 100 2 c.2.1.length c.2.1.length),(1037,.box 36 Kb),(1038,.box 36 (Kd c))]) (fun e=>(5:Int).toNat - e) 0 (x,a.2.1,a.2.2.1,a.2.2.2.1,a.2.2.2.2.1,a.2.2.2.2.2.1,a.2.2.2.2.2.2.1,a.2.2.2.2.2.2.2.1,a.2.2.2.2.2.2.2.2.1,a.2.2.2.2.2.2.2.2.2.1,a.2.2.2.2.2.2.2.2.2.2.1,a.2.2.2.2.2.2.2.2.2.2.2.1,a.2.2.2.2.2.2.2.2.2.2.2.2) h ⟨(.sm O O),⟨⟨_,rfl,.same⟩,fbQ O (.sm O O),fbQ O (.sm O O),ø⟩,rfl⟩ ?_
   clear h
   intro e c a6 i5 h1
   refine Js fun e6=>Jr fun e7=>(JLm (Em e) O (JLh (BL (decide ((e:Int) < 5))) (Jn O O O) O (G6 (e7 (Gp O (fun hb=>?_) (fun hb=>?_))))))
   ·
    have a7:=H9a hb
    obtain⟨i1,e8,h⟩:=H89 a6 a7
    replace h:=Jc7 e5 h
    refine Gk (e6 ?_)
    obtain⟨e9,b3,h⟩:=Rc h
    refine Qk (fun v:(List G9)=>e9 v=some r) (fun v=>[(1,.sc (.int .u32 covers)),(4,.ptr 1037 0),(5,.ptr 1038 0),(11,Em e)]) (fun v=>[(1042,.spare 100 2 v.length v.length),(1037,.box 36 Kb),(1038,.box 36 [E3 c.1,OW 1042 2 G9.av v,I64 c.2.2.1,I64 c.2.2.2.1,I64 c.2.2.2.2.1,I64 c.2.2.2.2.2.1,E4 c.2.2.2.2.2.2.1,E5 c.2.2.2.2.2.2.2.1,E6 c.2.2.2.2.2.2.2.2.1,I64 c.2.2.2.2.2.2.2.2.2.1,I64 c.2.2.2.2.2.2.2.2.2.2.1,I64 c.2.2.2.2.2.2.2.2.2.2.2.1,I64 c.2.2.2.2.2.2.2.2.2.2.2.2])]) (fun Kj203 ej203=>?_) ?_
    ·
     refine Gq ?_
     obtain⟨f0,b4,h⟩:=Rc h
     refine Qk (fun p:(List G9)=>f0 p=some r) (fun p=>[(1,.sc (.int .u32 covers)),(4,.ptr 1037 0),(5,.ptr 1038 0),(11,Em e)]) (fun p=>[(1042,.spare 100 2 p.length p.length),(1037,.box 36 Kb),(1038,.box 36 [E3 c.1,OW 1042 2 G9.av p,I64 c.2.2.1,I64 c.2.2.2.1,I64 c.2.2.2.2.1,I64 c.2.2.2.2.2.1,E4 c.2.2.2.2.2.2.1,E5 c.2.2.2.2.2.2.2.1,E6 c.2.2.2.2.2.2.2.2.1,I64 c.2.2.2.2.2.2.2.2.2.1,I64 c.2.2.2.2.2.2.2.2.2.2.1,I64 c.2.2.2.2.2.2.2.2.2.2.2.1,I64 c.2.2.2.2.2.2.2.2.2.2.2.2])]) (fun Kj204 ej204=>?_) ?_
     ·
      refine Jr fun f1=>(JLm (.sc (.int .u32 covers)) O (JLm (Em e) O ?_))
      obtain⟨h2,f2,h⟩:=Ht h
      refine JLh (I64 h2) (Jab f2 O O O) O ?_
      obtain⟨z,f3,h⟩:=Gd h
      refine JLh (.sc (.int .u32 (Gee .u32 covers z))) (Jd0 (s:=z) (H36 f3).1 O O O) O (JLh (.sc (.int .u32 (Ree .u32 (Gee .u32 covers z) 1))) (Z41 O O O) O (JLh (BL (decide ((Ree .u32 (Gee .u32 covers z) 1)=1))) (Qg O O O) O (G6 (f1 (JCc O h (fun h hb=>?_) (fun h hb=>?_))))))
      ·
       refine G2 (JLh (.ptr 1038 1) (J9 Yd O O) O (JLh (OW 1042 2 G9.av c.2.1) (J2 G02 O O O O) O (JLm (Em e) O (JLh (E2 [0,1]) (He (xs:=[I64 0,I64 1]) O ⟨O,O,O,O,ø⟩ H3 Y6 O O O O) O (JLh (.agg [Em e,E2 [0,1]]) (Hi (cs:=[Em e,E2 [0,1]]) [(0,1),(1,1)] [I64 0,E2 ([]:List Int)] [E0,.slice none 0 0] Hd9 J46 ⟨.inl O,.inr ⟨_,O,O⟩,ø⟩ O O) O (JLh (E7 ([(G9.mk (e:Int) [0,1])])) (He (xs:=[.agg [Em e,E2 [0,1]]]) O ⟨O,O,ø⟩ Qr H07 O O O O) O ?_))))))
       obtain⟨f4,h⟩:=Jf h
       refine JLh (OW 1042 2 G9.av (c.2.1++[(G9.mk (e:Int) [0,1])])) (Yo (f:=G9.av) (xs:=c.2.1) (ys:=[(G9.mk (e:Int) [0,1])]) O O O O Qr Hc1 f4 (fun _=>O) (.inl O) O) O (JLh (.ptr 1038 1) (J9 Yd O O) O (Hq (u:=.junk) (H7 (u:=OW 1042 2 G9.av (c.2.1++[(G9.mk (e:Int) [0,1])])) (ds:=[E3 c.1,OW 1042 2 G9.av (c.2.1++[(G9.mk (e:Int) [0,1])]),I64 c.2.2.1,I64 c.2.2.2.1,I64 c.2.2.2.2.1,I64 c.2.2.2.2.2.1,E4 c.2.2.2.2.2.2.1,E5 c.2.2.2.2.2.2.2.1,E6 c.2.2.2.2.2.2.2.2.1,I64 c.2.2.2.2.2.2.2.2.2.1,I64 c.2.2.2.2.2.2.2.2.2.2.1,I64 c.2.2.2.2.2.2.2.2.2.2.2.1,I64 c.2.2.2.2.2.2.2.2.2.2.2.2]) Q92 O O O O O O O O) (G6 ?_)))
       exact ej204 _ _ (c.2.1++[(G9.mk (e:Int) [0,1])]) h ⟨(.sm O O),⟨⟨_,rfl,.same⟩,fbQ O (.sm O O),fbQ O (.sm O O),ø⟩,rfl⟩
      ·
       refine Gk (ej204 _ _ c.2.1 h ⟨(.sm O O),⟨⟨_,rfl,.same⟩,fbQ O (.sm O O),fbQ O (.sm O O),ø⟩,rfl⟩)
     ·intro p h
      replace h:=app1 b4 h
      refine Jr fun f5=>(JLm (.sc (.int .u32 covers)) O (JLm (Em e) O ?_))
      obtain⟨h3,f6,h⟩:=Ht h
      refine JLh (I64 h3) (Jab f6 O O O) O ?_
      obtain⟨h4,f7,h⟩:=Ht h
      refine JLh (I64 h4) (J3 f7 O O O) O ?_
      obtain⟨a0,f8,h⟩:=Gd h
      refine JLh (.sc (.int .u32 (Gee .u32 covers a0))) (Jd0 (s:=a0) (H36 f8).1 O O O) O (JLh (.sc (.int .u32 (Ree .u32 (Gee .u32 covers a0) 1))) (Z41 O O O) O (JLh (BL (decide ((Ree .u32 (Gee .u32 covers a0) 1)=1))) (Qg O O O) O (G6 (f5 (JCc O h (fun h hb=>?_) (fun h hb=>?_))))))
      ·
       refine G2 (JLh (.ptr 1038 1) (J9 Yd O O) O (JLh (OW 1042 2 G9.av p) (J2 G02 O O O O) O (JLm (Em e) O (JLh (E2 [2,3,4]) (He (xs:=[I64 2,I64 3,I64 4]) O ⟨O,O,O,O,O,O,ø⟩ H3 Y6 O O O O) O (JLh (.agg [Em e,E2 [2,3,4]]) (Hi (cs:=[Em e,E2 [2,3,4]]) [(0,1),(1,1)] [I64 0,E2 ([]:List Int)] [E0,.slice none 0 0] Hd9 J46 ⟨.inl O,.inr ⟨_,O,O⟩,ø⟩ O O) O (JLh (E7 ([(G9.mk (e:Int) [2,3,4])])) (He (xs:=[.agg [Em e,E2 [2,3,4]]]) O ⟨O,O,ø⟩ Qr H07 O O O O) O ?_))))))
       obtain⟨f9,h⟩:=Jf h
       refine JLh (OW 1042 2 G9.av (p++[(G9.mk (e:Int) [2,3,4])])) (Yo (f:=G9.av) (xs:=p) (ys:=[(G9.mk (e:Int) [2,3,4])]) O O O O Qr Hc1 f9 (fun _=>O) (.inl O) O) O (JLh (.ptr 1038 1) (J9 Yd O O) O (Hq (u:=.junk) (H7 (u:=OW 1042 2 G9.av (p++[(G9.mk (e:Int) [2,3,4])])) (ds:=[E3 c.1,OW 1042 2 G9.av (p++[(G9.mk (e:Int) [2,3,4])]),I64 c.2.2.1,I64 c.2.2.2.1,I64 c.2.2.2.2.1,I64 c.2.2.2.2.2.1,E4 c.2.2.2.2.2.2.1,E5 c.2.2.2.2.2.2.2.1,E6 c.2.2.2.2.2.2.2.2.1,I64 c.2.2.2.2.2.2.2.2.2.1,I64 c.2.2.2.2.2.2.2.2.2.2.1,I64 c.2.2.2.2.2.2.2.2.2.2.2.1,I64 c.2.2.2.2.2.2.2.2.2.2.2.2]) Q92 O O O O O O O O) (G6 ?_)))
       exact ej203 _ _ (p++[(G9.mk (e:Int) [2,3,4])]) h ⟨(.sm O O),⟨⟨_,rfl,.same⟩,fbQ O (.sm O O),fbQ O (.sm O O),ø⟩,rfl⟩
      ·
       refine Gk (ej203 _ _ p h ⟨(.sm O O),⟨⟨_,rfl,.same⟩,fbQ O (.sm O O),fbQ O (.sm O O),ø⟩,rfl⟩)
    ·intro v h
     replace h:=app1 b3 h
     refine G2 (JLm (Em e) O (JLh (I64 ((e+1:Nat):Int)) (J3 (Hp a7 (H2d e3)) O O O) O (JLm (I64 ((e+1:Nat):Int)) O (G6 (h1 _ _ (e+1) (c.1,v,c.2.2.1,c.2.2.2.1,c.2.2.2.2.1,c.2.2.2.2.2.1,c.2.2.2.2.2.2.1,c.2.2.2.2.2.2.2.1,c.2.2.2.2.2.2.2.2.1,c.2.2.2.2.2.2.2.2.2.1,c.2.2.2.2.2.2.2.2.2.2.1,c.2.2.2.2.2.2.2.2.2.2.2.1,c.2.2.2.2.2.2.2.2.2.2.2.2) (app1 e8 h) (by omega) ⟨(.sm O O),⟨⟨_,rfl,.same⟩,fbQ O (.sm O O),fbQ O (.sm O O),ø⟩,rfl⟩)))))
   ·
    have h:=app1 b2 (H8a a6 (G7d hb))
    refine Hr (e1 ?_)
    refine Jr fun g0=>(JLh (.agg (Kd c)) (J31 J8 O O O O) O (Hq (u:=.junk) (H7 (u:=.agg (Kd c)) (ds:=(Kd c)) G57 O O O O O O O O) (G6 (g0 ?_))))
    refine Gs (⟨[.agg [E3 c.1,E7 c.2.1,I64 c.2.2.1,I64 c.2.2.2.1,I64 c.2.2.2.2.1,I64 c.2.2.2.2.2.1,E4 c.2.2.2.2.2.2.1,E5 c.2.2.2.2.2.2.2.1,E6 c.2.2.2.2.2.2.2.2.1,I64 c.2.2.2.2.2.2.2.2.2.1,I64 c.2.2.2.2.2.2.2.2.2.2.1,I64 c.2.2.2.2.2.2.2.2.2.2.2.1,I64 c.2.2.2.2.2.2.2.2.2.2.2.2]],[],ø,O,⟨⟨_,⟨_,_,_,_,O,O,O,.inl ⟨J8,O⟩⟩,.agg ⟨.same O,.list O,.same O,.same O,.same O,.same O,.same O,.same O,.same O,.same O,.same O,.same O,.same O,ø⟩⟩,ø⟩,O,congrArg (fun r:Gj=>(.agg (Gj.cs r):AV)) (M8 h)⟩)

def Ys (l:List G1) (x:G1):Option (List G1):=
 each (fun c k (a:(List G1)) g=>
  jp (fun e=>
   bif decide (c.Box < x.Box) then
   (need (decide ((a.length+[c].length)*32≤140737488355328∧a.length+[c].length≤maxLen)) <|
    e (a++[c]))
   else
   (e a)) fun(i:(List G1))=>
  g i)
 (fun(a:(List G1))=>
  need (decide ((a.length+[x].length)*32≤140737488355328∧a.length+[x].length≤maxLen)) <|
  each (fun d m (b:(List G1)) h=>
   jp (fun f=>
    bif decide (x.Box < d.Box) then
    (need (decide ((b.length+[d].length)*32≤140737488355328∧b.length+[d].length≤maxLen)) <|
     f (b++[d]))
    else
    (f b)) fun(j:(List G1))=>
   h j)
  (fun(b:(List G1))=>
   some b) l 0 (a++[x])) l 0 []
theorem H00 (l:List G1) (x:G1) (r:(List G1)) (h:Ys l x=some r):Pure En 99 [E1 l,.agg (G1.cs x)] (·=E1 r):=by
 unfold Ys at h
 refine Gz [.tmp 4] Tryz.func99 O O (Jr fun c4=>(JLh (.ptr 1167 0) (Q6 (cs:=[I64 x.Box,I64 x.Slot.G3,I64 x.Slot.Tier,U8 x.Slot.Half]) 1167 O O O O O) O (JLh (E1 ([]:List G1)) (Jd 4 O O) O (G6 (c4 (Gr [(0,E1 l),(3,Eh x)] [] 1167 rfl rfl rfl ø rfl (by exact⟨.conv (.same rfl),.ptr,ø⟩) (Jr fun c5=>(JLh (OW 1168 4 G1.av ([]:List G1)) (H69 1168 64 4 O O O) O (G6 (c5 (Js fun c6=>Jr fun c7=>(JLm (E1 l) O (JLl H5 O O O fun v=>(JLm (I64 0) O (G6 (c7 (Gq ?_)))))))))))))))))
 obtain⟨c8,w,z,p,h⟩:=Je h
 refine Hm (fun e (a:(List G1))=>each c8 w (List.drop e l) e a=some r) (fun e a=>[(0,E1 l),(3,Eh x),(5,OW 1168 4 G1.av a),(10,E1 l),(11,Em l.length),(12,Em e)]) (fun e a=>[(1168,.spare 64 4 a.length a.length)]) (fun e=>l.length - e) 0 [] h ⟨(.sm O O),⟨⟨_,rfl,.same⟩,ø⟩,rfl⟩ ?_
 clear h
 intro e a k d4 c9
 refine Jr fun a0=>(JLh (BL (decide ((e:Int) < (l.length:Int)))) (Jn O O O) O (G6 (a0 (Js fun a1=>Gp O (fun hb=>?_) (fun hb=>?_)))))
 ·
  have m:=Jz hb
  obtain⟨b,d2,a2,a3,h⟩:=Hv k m
  replace h:=Zm z h
  refine Gk (a1 ?_)
  obtain⟨a4,q,h⟩:=Rc h
  refine Qk (fun i:(List G1)=>a4 i=some r) (fun i=>[(0,E1 l),(3,Eh x),(5,OW 1168 4 G1.av i),(10,E1 l),(11,Em l.length),(12,Em e)]) (fun i=>[(1168,.spare 64 4 i.length i.length)]) (fun Kj22 ej22=>?_) ?_
  ·
   refine Gq (Jr fun a5=>(JLh (Eh b) (Hb (f:=G1.av) (xs:=l) (y:=b) O O O H5 a2 O) O (JLh (.agg (G1.cs b)) (Gm Qh O O O) O (JLh (.ptr 1169 0) (Hj 1169 4 Q3 O O) O (Hq (u:=.junk) (H7 (u:=.agg (G1.cs b)) (ds:=[I64 b.Box,I64 b.Slot.G3,I64 b.Slot.Tier,U8 b.Slot.Half]) Ru O O O O O O O O) (G6 (a5 (fzQ [(0,E1 l),(3,Eh x),(5,OW 1168 4 G1.av a),(7,Eh b),(10,E1 l),(11,Em l.length),(12,Em e)] [(1168,.spare 64 4 a.length a.length)] 1169 rfl rfl rfl ⟨⟨_,rfl,.same⟩,ø⟩ rfl ?_))))))))
   refine Jr fun a6=>(JLh (Eh b) (Ga Ja O O O) O (JLh (I64 b.Box) (Gg Gb O O O) O (JLh (Eh x) (Ga Ja O O O) O (JLh (I64 x.Box) (Gg Gb O O O) O (JLh (BL (decide (b.Box < x.Box))) (Jn O O O) O (G6 (a6 (JCc O h (fun h hb=>?_) (fun h hb=>?_)))))))))
   ·
    refine G2 (JLm (OW 1168 4 G1.av a) O (JLh (.agg (G1.cs b)) (Gm Qh O O O) O (JLh (E1 [b]) (He (xs:=[.agg (G1.cs b)]) O ⟨O,O,ø⟩ H5 Q3 O O O O) O ?_)))
    obtain⟨a7,h⟩:=Jf h
    refine JLh (OW 1168 4 G1.av (a++[b])) (Yo (f:=G1.av) (xs:=a) (ys:=[b]) O O O O H5 Geb a7 (fun _=>O) (.inl O) O) O (JLm (OW 1168 4 G1.av (a++[b])) O (G6 (ej22 _ _ (a++[b]) h ⟨(.sm O O),⟨⟨_,rfl,.same⟩,ø⟩,rfl⟩)))
   ·
    refine Gk (ej22 _ _ a h ⟨(.sm O O),⟨⟨_,rfl,.same⟩,ø⟩,rfl⟩)
  ·intro i h
   replace h:=app1 q h
   refine G2 (JLh (I64 ((e+1:Nat):Int)) (J3 (Hp m v) O O O) O (JLm (I64 ((e+1:Nat):Int)) O (G6 (c9 _ _ (e+1) i (app1 a3 h) (by omega) ⟨(.sm O O),⟨⟨_,rfl,.same⟩,ø⟩,rfl⟩))))
 ·
  have h:=app1 p (Hw k (Hf hb))
  refine Hr (c6 (Jr fun a8=>(JLm (OW 1168 4 G1.av a) O (JLh (.agg (G1.cs x)) (Gm Qh O O O) O (JLh (E1 [x]) (He (xs:=[.agg (G1.cs x)]) O ⟨O,O,ø⟩ H5 Q3 O O O O) O ?_)))))
  obtain⟨a9,h⟩:=Jf h
  refine JLh (OW 1168 4 G1.av (a++[x])) (Yo (f:=G1.av) (xs:=a) (ys:=[x]) O O O O H5 Geb a9 (fun _=>O) (.inl O) O) O (JLm (OW 1168 4 G1.av (a++[x])) O (G6 (a8 (Js fun b0=>Jr fun b1=>(JLm (E1 l) O (JLl H5 O O O fun b2=>(JLm (I64 0) O (G6 (b1 (Gq ?_))))))))))
  obtain⟨d0,b3,b4,s,h⟩:=Je h
  refine Hm (fun g (d:(List G1))=>each d0 b3 (List.drop g l) g d=some r) (fun g d=>[(3,Eh x),(5,OW 1168 4 G1.av d),(30,E1 l),(31,Em l.length),(32,Em g)]) (fun g d=>[(1168,.spare 64 4 d.length d.length)]) (fun g=>l.length - g) 0 (a++[x]) h ⟨(.sm O O),⟨⟨_,rfl,.same⟩,ø⟩,rfl⟩ ?_
  clear h
  intro g d n d5 d1
  refine Jr fun b5=>(JLh (BL (decide ((g:Int) < (l.length:Int)))) (Jn O O O) O (G6 (b5 (Js fun b6=>Gp O (fun hb=>?_) (fun hb=>?_)))))
  ·
   have o:=Jz hb
   obtain⟨c,d3,b7,b8,h⟩:=Hv n o
   replace h:=Zm b4 h
   refine Gk (b6 ?_)
   obtain⟨b9,t,h⟩:=Rc h
   refine Qk (fun j:(List G1)=>b9 j=some r) (fun j=>[(3,Eh x),(5,OW 1168 4 G1.av j),(30,E1 l),(31,Em l.length),(32,Em g)]) (fun j=>[(1168,.spare 64 4 j.length j.length)]) (fun Kj47 ej47=>?_) ?_
   ·
    refine Gq (Jr fun c0=>(JLh (Eh c) (Hb (f:=G1.av) (xs:=l) (y:=c) O O O H5 b7 O) O (JLh (.agg (G1.cs c)) (Gm Qh O O O) O (JLh (.ptr 1170 0) (Hj 1170 4 Q3 O O) O (Hq (u:=.junk) (H7 (u:=.agg (G1.cs c)) (ds:=[I64 c.Box,I64 c.Slot.G3,I64 c.Slot.Tier,U8 c.Slot.Half]) Ru O O O O O O O O) (G6 (c0 (fzQ [(3,Eh x),(5,OW 1168 4 G1.av d),(9,Eh c),(30,E1 l),(31,Em l.length),(32,Em g)] [(1168,.spare 64 4 d.length d.length)] 1170 rfl rfl rfl ⟨⟨_,rfl,.same⟩,ø⟩ rfl ?_))))))))
    refine Jr fun c1=>(JLh (Eh c) (Ga Ja O O O) O (JLh (I64 c.Box) (Gg Gb O O O) O (JLh (Eh x) (Ga Ja O O O) O (JLh (I64 x.Box) (Gg Gb O O O) O (JLh (BL (decide (x.Box < c.Box))) (Gd1 O O O) O (G6 (c1 (JCc O h (fun h hb=>?_) (fun h hb=>?_)))))))))
    ·
     refine G2 (JLm (OW 1168 4 G1.av d) O (JLh (.agg (G1.cs c)) (Gm Qh O O O) O (JLh (E1 [c]) (He (xs:=[.agg (G1.cs c)]) O ⟨O,O,ø⟩ H5 Q3 O O O O) O ?_)))
     obtain⟨c2,h⟩:=Jf h
     refine JLh (OW 1168 4 G1.av (d++[c])) (Yo (f:=G1.av) (xs:=d) (ys:=[c]) O O O O H5 Geb c2 (fun _=>O) (.inl O) O) O (JLm (OW 1168 4 G1.av (d++[c])) O (G6 (ej47 _ _ (d++[c]) h ⟨(.sm O O),⟨⟨_,rfl,.same⟩,ø⟩,rfl⟩)))
    ·
     refine Gk (ej47 _ _ d h ⟨(.sm O O),⟨⟨_,rfl,.same⟩,ø⟩,rfl⟩)
   ·intro j h
    replace h:=app1 t h
    refine G2 (JLh (I64 ((g+1:Nat):Int)) (J3 (Hp o b2) O O O) O (JLm (I64 ((g+1:Nat):Int)) O (G6 (d1 _ _ (g+1) j (app1 b8 h) (by omega) ⟨(.sm O O),⟨⟨_,rfl,.same⟩,ø⟩,rfl⟩))))
  ·
   have h:=app1 s (Hw n (Hf hb))
   refine Hr (b0 (Jr fun c3=>(JLm (OW 1168 4 G1.av d) O (JLm (OW 1168 4 G1.av d) O (G6 (c3 (Gs (fin1l (fun r:(List G1)=>(E1 r:AV)) h))))))))

def M_twistlocklaw23_holds (l : List G1) (id_ : Int) : Option Bool :=
 each (fun b d (c:Unit) a=>
  bif decide (b.Box=id_) then
  (some true)
  else
  (a ()))
 (fun(c:Unit)=>
  some false) l 0 ()
theorem He0 (l : List G1) (id_ : Int) (r : Bool) (h : M_twistlocklaw23_holds l id_ = some r) : Pure En 100 [E1 l, I64 id_] (· = BL r) := by
 unfold M_twistlocklaw23_holds at h
 refine Gz [.tmp 4] Tryz.func100 O O (Jr fun w=>(JLm (BL false) O (G6 (w (Js fun x=>Jr fun z=>(JLm (E1 l) O (JLl H5 O O O fun a0=>(JLm (I64 0) O (G6 (z (Gq ?_)))))))))))
 obtain⟨a1,i,j,g,h⟩:=Je h
 refine Hm (fun a (c:Unit)=>each a1 i (List.drop a l) a c=some r) (fun a c=>[(1,I64 id_),(7,E1 l),(8,Em l.length),(9,Em a)]) (fun a c=>[]) (fun a=>l.length - a) 0 () h ⟨(.sm O O),ø,rfl⟩ ?_
 clear h
 intro a c d a4 a2
 refine Jr fun k=>(JLh (BL (decide ((a:Int) < (l.length:Int)))) (Jn O O O) O (G6 (k (Js fun m=>Gp O (fun hb=>?_) (fun hb=>?_)))))
 ·
  have e:=Jz hb
  obtain⟨b,a3,n,o,h⟩:=Hv d e
  replace h:=Zm j h
  refine Gk (m (Js fun p=>Gq (Jr fun q=>(JLh (Eh b) (Hb (f:=G1.av) (xs:=l) (y:=b) O O O H5 n O) O (JLh (.agg (G1.cs b)) (Gm Qh O O O) O (JLh (.ptr 1171 0) (Hj 1171 4 Q3 O O) O (Hq (u:=.junk) (H7 (u:=.agg (G1.cs b)) (ds:=[I64 b.Box,I64 b.Slot.G3,I64 b.Slot.Tier,U8 b.Slot.Half]) Ru O O O O O O O O) (G6 (q (fzQ [(1,I64 id_),(6,Eh b),(7,E1 l),(8,Em l.length),(9,Em a)] [] 1171 rfl rfl rfl ø rfl ?_))))))))))
  refine Jr fun s=>(JLh (Eh b) (Ga Ja O O O) O (JLh (I64 b.Box) (Gg Gb O O O) O (JLm (I64 id_) O (JLh (BL (decide (b.Box=id_))) (Qg O O O) O (G6 (s (JCc O h (fun h hb=>?_) (fun h hb=>?_))))))))
  ·
   refine Jr fun t=>(JLm (BL true) O (G6 (t (Gs (fin1 BL h)))))
  ·
   refine Gk (p (G2 (JLh (I64 ((a+1:Nat):Int)) (J3 (Hp e a0) O O O) O (JLm (I64 ((a+1:Nat):Int)) O (G6 (a2 _ _ (a+1) () (app1 o h) (by omega) ⟨(.sm O O),ø,rfl⟩))))))
 ·
  have h:=app1 g (Hw d (Hf hb))
  refine Hr (x (Jr fun v=>(JLm (BL false) O (G6 (v (Gs (fin1 BL h)))))))

def H80 (s:Gj) (size:Int):Option Unit:=
 some ()
theorem R00 (s:Gj) (size:Int) (r:Unit) (h:H80 s size=some r):Pure En 138 [.agg (Gj.cs s),U8 size] (·=.fn 162 [.dptr (Gj.cs s),.dptr [U8 size]]):=by
 unfold H80 at h
 refine Gz [.tmp 4] Tryz.func138 O O (Jr fun a=>(JLh (.ptr 1204 0) (Q6 (cs:=(Gj.cs s)) 1204 O O O O O) O (JLh (.ptr 1205 0) (Q6 (cs:=[U8 size]) 1205 O O O O O) O (JLm (.sc .nilFunc) O (G6 (a (Gr [(2,Ee s),(3,.ptr 1205 0)] [(1205,.box 5 [U8 size])] 1204 rfl rfl rfl ⟨⟨_,rfl,.boxEq rfl rfl⟩,ø⟩ rfl (by exact⟨.ptr,.conv (.same rfl),ø⟩) (Gr [(2,Ee s),(3,.dptr [U8 size])] [] 1205 rfl rfl rfl ø rfl (by exact⟨.conv (.same rfl),.ptr,ø⟩) ?_))))))))
 refine Jr fun b=>(JLh (.fn 162 [.dptr (Gj.cs s),.dptr [U8 size]]) (Q4 (cs:=[.dptr (Gj.cs s),.dptr [U8 size]]) O O) O (JLm (.fn 162 [.dptr (Gj.cs s),.dptr [U8 size]]) O (G6 (b (Gs (⟨[.fn 162 [.dptr (Gj.cs s),.dptr [U8 size]]],[],ø,O,⟨⟨_,O,.conv (.same O)⟩,ø⟩,O,congrArg (fun _:Unit=>(.fn 162 [.dptr (Gj.cs s),.dptr [U8 size]]:AV)) (M8 h)⟩))))))

def Haa (s:Gj) (size:Int):Option (List Slot):=
 bnd (H80 s size) fun e=>
 bnd (H18 s size) fun c=>
 each (fun b f (a:(List Slot)) d=>
  need (decide ((a.length+[b].length)*24≤140737488355328∧a.length+[b].length≤maxLen)) <|
  d (a++[b]))
 (fun(a:(List Slot))=>
  some a) c 0 []
theorem R8a (s:Gj) (size:Int) (r:(List Slot)) (h:Haa s size=some r):Pure En 101 [.agg (Gj.cs s),U8 size] (·=Ea r):=by
 unfold Haa at h
 refine Gz [.tmp 4] Tryz.func101 O O (Jr fun i=>(JLh (.ptr 1172 0) (Q6 (cs:=(Gj.cs s)) 1172 O O O O O) O (JLh (Ea ([]:List Slot)) (Jd 3 O O) O (G6 (i (Gr [(1,U8 size),(2,Ee s)] [] 1172 rfl rfl rfl ø rfl (by exact⟨.conv (.same rfl),.ptr,ø⟩) (Jr fun j=>(JLh (.ptr 1173 0) (G10 1173 [.sc (.slice none 0 0)] [.slice none 0 0] R9c ⟨.inl O,ø⟩ O O) O (Gf5 1173 0 1175 57 3 O O O (cs':=[OW 1175 3 Slot.av ([]:List Slot)]) O (G6 (j (Js fun k=>?_))))))))))))
 refine Jr fun l=>(JLh (.agg (Gj.cs s)) (Gm J8 O O O) O (JLm (U8 size) O ?_))
 obtain⟨x,m,h⟩:=Gd h
 refine JLh (.fn 162 [.dptr (Gj.cs s),.dptr [U8 size]]) (Gu O (R00 s size x m) Raf ⟨O,O,O,O,ø⟩) O (G6 (l (Gq ?_)))
 obtain⟨c,hy_8,h⟩:=Gd h
 obtain⟨z,n,o,e,h⟩:=Je h
 refine R8c (ps:=[10]) [(5,.ptr 1173 0),(9,.fn 162 [.dptr (Gj.cs s),.dptr [U8 size]])] (c.map (fun y:Slot=>[.agg [I64 y.G3,I64 y.Tier,U8 y.Half]])) (fun d (b:(List Slot))=>each z n (List.drop d c) d b=some r) (fun b=>[(1175,.spare 57 3 b.length b.length),(1173,.box 133 [OW 1175 3 Slot.av b])]) [] rfl rfl rfl Ra6 (Q2d.down s size c hy_8) h ⟨(.sm O O),⟨⟨_,rfl,.same⟩,fbQ O ⟨.same rfl,trivial⟩,trivial⟩,rfl⟩ rfl (fun us_ hus_=>by obtain⟨_,_,rfl⟩:=Mp.1 hus_; rfl) (fun p_ hp_=>Nat.blt_eq.mp (by revert p_; decide)) (fun _=>(.sm O O)) (fun _=>rfl) ?_ ?_
 ·
  intro d us_ b hu_ p lr_ K8 e8
  obtain⟨q,rfl⟩:=Z57 hu_
  obtain⟨a,a1,t,v,h⟩:=Hv p q
  replace h:=Zm o h
  obtain⟨_,rfl⟩:=M6 t
  generalize c[d]=a at h ⊢
  change JC _ _ _ _ [(10,.agg [I64 a.G3,I64 a.Tier,U8 a.Half]),(5,.ptr 1173 0),(9,.fn 162 [.dptr (Gj.cs s),.dptr [U8 size]])] [(1175,.spare 57 3 b.length b.length),(1173,.box 133 [OW 1175 3 Slot.av b])]
  refine G2 (JLh (.ptr 1174 0) (Hj 1174 3 Rr O O) O (Hq (u:=.junk) (H7 (u:=.agg [I64 a.G3,I64 a.Tier,U8 a.Half]) (ds:=[I64 a.G3,I64 a.Tier,U8 a.Half]) Yq O O O O O O O O) (G6 (Qfe [(5,.ptr 1173 0),(6,.dptr [I64 a.G3,I64 a.Tier,U8 a.Half])] [(1175,.spare 57 3 b.length b.length),(1173,.box 133 [OW 1175 3 Slot.av b])] 1174 rfl rfl rfl ⟨⟨_,rfl,.same⟩,⟨_,rfl,.boxEq rfl rfl⟩,ø⟩ rfl (by exact⟨.conv (.same rfl),.ptr,ø⟩) (R88 (Gq (G2 ?_)))))))
  refine JLh (OW 1175 3 Slot.av b) (J2 Gd4 O O O O) O (JLh (.agg [I64 a.G3,I64 a.Tier,U8 a.Half]) (Gm J4 O O O) O (JLh (Ea [a]) (He (xs:=[.agg [I64 a.G3,I64 a.Tier,U8 a.Half]]) O ⟨O,O,ø⟩ Yi Rr O O O O) O ?_))
  obtain⟨w,h⟩:=Jf h
  refine JLh (OW 1175 3 Slot.av (b++[a])) (Yo (f:=Slot.av) (xs:=b) (ys:=[a]) O O O O Yi Jae w (fun _=>O) (.inl O) O) O (Hq (u:=.junk) (H7 (u:=OW 1175 3 Slot.av (b++[a])) (ds:=[OW 1175 3 Slot.av (b++[a])]) Q40 O O O O O O O O) (G6 (e8 _ _ (b++[a]) (app1 v h) ⟨ø,⟨⟨_,O,.same⟩,⟨_,O,.boxL O ⟨.same O,ø⟩⟩,ø⟩,O⟩)))
 ·
  intro b h
  rw [Mn] at h
  replace h:=app1 e (Hw h (Nat.lt_irrefl _))
  refine k (Jr fun g=>(JLh (OW 1175 3 Slot.av b) (J2 Gd4 O O O O) O (JLm (OW 1175 3 Slot.av b) O (G6 (g (Qn (l':=[(4,Ea b)]) (L':=[(1173,.box 133 [Ea b])]) ⟨⟨.list O,ø⟩,⟨⟨_,O,.boxL O ⟨.list O,ø⟩⟩,ø⟩,O⟩ (Gr [(4,Ea b)] [] 1173 rfl rfl rfl ø rfl (by exact⟨.conv (.same rfl),ø⟩) (Gs (fin1 (fun r:(List Slot)=>(Ea r:AV)) h)))))))))

def Zc (F:Nat) (s:Gj) (boxes:List Box) (home:Ha Int Int) (calls:Int):Option (J26×Int×(Ha Int Int)):=
 need (decide (calls≤9223372036854775807)) <|
 upto (fun j (e:(List (List G1))×(List (List Int))×(Ha Int Slot)) a5=>
  need (decide (10≤9223372036854775807)) <|
  upto (fun a6 (k:(List G1)) w=>
   each (fun f b3 (g:(List G1)) x=>
    jp (fun h=>
     bnd (some (Ha.get e.2.2 f.ID (Slot.mk 0 0 0))) fun t=>
     bif ((((Ha.has e.2.2 f.ID)&&(decide (t.Tier=(a6:Int))))&&(decide (f.Load < (j:Int))))&&(decide ((j:Int) < f.Discharge))) then
     (bnd (Ys g (G1.mk f.ID t)) fun u=>
      bnd (Z6 s boxes u) fun a7=>
      bif a7 then
      (h u)
      else
      (h g))
     else
     (h g)) fun(a8:(List G1))=>
    x a8)
   (fun(g:(List G1))=>
    w g) boxes 0 k)
  (fun(k:(List G1))=>
   each (fun a b4 (b:(List G1)) y=>
    jp (fun l=>
     bnd (bif (!((decide ((j : Int) < a.Load)) || (decide (a.Discharge ≤ (j : Int))))) then M_twistlocklaw23_holds b a.ID else some default) fun a9 =>
     bif (((decide ((j:Int) < a.Load))||(decide (a.Discharge≤(j:Int))))||a9) then
     (l b)
     else
     (loop (fun z (c:(List G1)×Bool×Int)=>
       bif ((decide (c.2.2 < (s.Columns.length:Int)))&&(!c.2.1)) then
       (jp (fun m=>
         bnd (Haa s a.Size) fun b0=>
         each (fun n b5 (d:(List G1)×Bool) a0=>
          bnd (Ys d.1 (G1.mk a.ID n)) fun o=>
          bnd (some (Ha.get home a.ID 0)) fun a1=>
          chk (a1+c.2.2) fun a2=>
          bnd (Hc5 a2 (s.Columns.length:Int)) fun p=>
          bnd (bif decide (n.G3=p) then Z6 s boxes o else some default) fun a3=>
          bif ((decide (n.G3=p))&&a3) then
          (m (o,true))
          else
          (a0 (d.1,d.2)))
         (fun(d:(List G1)×Bool)=>
          m (d.1,d.2)) b0 0 (c.1,c.2.1)) fun(v:(List G1)×Bool)=>
        chk (c.2.2+1) fun a4=>
        z (v.1,v.2,a4))
       else
       (bif (!c.2.1) then
        (some ((J26.mk [] []),a.ID,home))
        else
        (l c.1))) F (b,false,0))) fun(b1:(List G1))=>
    y b1)
   (fun(b:(List G1))=>
    each (fun q b2 (i:(Ha Int Slot)) r=>
     r (Ha.put i q.Box q.Slot))
    (fun(i:(Ha Int Slot))=>
     need (decide ((e.1.length+[b].length)*24≤140737488355328∧e.1.length+[b].length≤maxLen)) <|
     a5 ((e.1++[b]),e.2.1,i)) b 0 (Ha.empty:Ha Int Slot)) boxes 0 k) (10:Int).toNat 0 [])
 (fun(e:(List (List G1))×(List (List Int))×(Ha Int Slot))=>
  some ((J26.mk e.1 e.2.1),0,home)) calls.toNat 0 ([],[],(Ha.empty:Ha Int Slot))
abbrev Ke:List AV:=[LS 1 (E1) ([]:List (List G1)),LS 1 (E2) ([]:List (List Int))]
theorem Gf2 (F:Nat) (s:Gj) (boxes:List Box) (home:Ha Int Int) (calls:Int) (r:J26×Int×(Ha Int Int)) (h:Zc F s boxes home calls=some r):Hx En 54 [.agg (Gj.cs s),E8 boxes,.mp 1051,I64 calls] [(1051,MP 92 Ks I64 home)] (fun av L'=>av=.tup [.agg [LS 1 (E1) r.1.States,LS 1 (E2) r.1.Water],I64 r.2.1]∧L'=[(1051,MP 92 Ks I64 r.2.2)]):=by
 unfold Zc at h
 refine Ji [1051] [.cell 8 41,.tmp 9] Tryz.func54 O O (G0c O) (Jr fun m8=>(JLh (.ptr 1099 0) (Q6 (cs:=(Gj.cs s)) 1099 O O O O O) O (JLh (.ptr 1100 0) (G10 1100 Ke [.slice none 0 0,.slice none 0 0] H2e ⟨.inr ⟨_,O,O⟩,.inr ⟨_,O,O⟩,ø⟩ O O) O (JLm (I64 0) O (G6 (m8 ?_))))))
 refine fzQ [(1,E8 boxes),(2,.mp 1051),(3,I64 calls),(4,Ee s),(8,.ptr 1100 0)] [(1051,MP 92 Ks I64 home),(1100,.box 41 Ke)] 1099 rfl rfl rfl ⟨fmQ O,⟨_,rfl,.boxEq rfl rfl⟩,ø⟩ rfl (Jr fun m9=>(JLh (.ptr 1101 0) (G10 1101 [.sc (.slice none 0 0),LS 1 (E2) ([]:List (List Int))] [.slice none 0 0,.slice none 0 0] H2e ⟨.inl O,.inr ⟨_,O,O⟩,ø⟩ O O) O (Gf5 1101 0 1109 44 1 O O O (cs':=[OW 1109 1 (E1) ([]:List (List G1)),LS 1 (E2) ([]:List (List Int))]) O (G6 (m9 ?_)))))
 refine Jr fun n0=>(JLh (.mp 1107) (Hb5 1107 Ks Slot.av O O) O (JLm (.mp 1107) O (G6 (n0 (Js fun n1=>Jr fun n2=>(JLm (I64 0) O (G6 (n2 (Gq ?_)))))))))
 obtain⟨n3,h⟩:=Jf h
 obtain⟨b6,n4,n5,g6,h⟩:=J07 h
 refine Hm (fun g (c:(List (List G1))×(List (List Int))×(Ha Int Slot))=>upto b6 n4 (calls.toNat - g) g c=some r) (fun g c=>[(1,E8 boxes),(2,.mp 1051),(3,I64 calls),(4,Ee s),(8,.ptr 1100 0),(10,.ptr 1101 0),(11,.mp 1107),(12,Em g)]) (fun g c=>[(1051,MP 92 Ks I64 home),(1109,.spare 44 1 c.1.length c.1.length),(1107,MP 163 Ks Slot.av c.2.2),(1100,.box 41 Ke),(1101,.box 41 [OW 1109 1 (E1) c.1,LS 1 (E2) c.2.1])]) (fun g=>calls.toNat - g) 0 ([],[],(Ha.empty:Ha Int Slot)) h ⟨(.sm O O),⟨fmQ O,⟨_,rfl,.same⟩,fmQ O,fbQ O (.sm O O),fbQ O (.sm O O),ø⟩,rfl⟩ ?_
 clear h
 intro g c g3 K6 e6
 refine Js fun n6=>Jr fun n7=>(JLm (Em g) O (JLm (I64 calls) O (JLh (BL (decide ((g:Int) < calls))) (Jn O O O) O (G6 (n7 (Gp O (fun hb=>?_) (fun hb=>?_)))))))
 ·
  have g4:=H9a hb
  obtain⟨q1,n8,h⟩:=H89 g3 g4
  replace h:=Jc7 n5 h
  refine Gk (n6 (Js fun n9=>Gq (Jr fun g7=>(JLh (E1 ([]:List G1)) (Jd 4 O O) O (G6 (g7 (Js fun g8=>Jr fun g9=>(JLm (I64 0) O (G6 (g9 (Gq ?_)))))))))))
  obtain⟨h0,h⟩:=Jf h
  obtain⟨o0,h1,h2,c6,h⟩:=J07 h
  refine Hm (fun k (a5:(List G1))=>upto o0 h1 ((10:Int).toNat - k) k a5=some r) (fun k a5=>[(1,E8 boxes),(2,.mp 1051),(3,I64 calls),(4,Ee s),(8,.ptr 1100 0),(10,.ptr 1101 0),(11,.mp 1107),(12,Em g),(13,E1 a5),(14,Em k)]) (fun k a5=>[(1051,MP 92 Ks I64 home),(1109,.spare 44 1 c.1.length c.1.length),(1107,MP 163 Ks Slot.av c.2.2),(1100,.box 41 Ke),(1101,.box 41 [OW 1109 1 (E1) c.1,LS 1 (E2) c.2.1])]) (fun k=>(10:Int).toNat - k) 0 [] h ⟨(.sm O O),⟨fmQ O,⟨_,rfl,.same⟩,fmQ O,fbQ O (.sm O O),fbQ O (.sm O O),ø⟩,rfl⟩ ?_
  clear h
  intro k a5 b5 q2 o1
  refine Js fun h3=>Jr fun h4=>(JLm (Em k) O (JLh (BL (decide ((k:Int) < 10))) (Jn O O O) O (G6 (h4 (Gp O (fun hb=>?_) (fun hb=>?_))))))
  ·
   have b7:=H9a hb
   obtain⟨p5,h5,h⟩:=H89 b5 b7
   replace h:=Jc7 h2 h
   refine Gk (h3 (Js fun h6=>Gq (Jr fun h7=>(JLm (E8 boxes) O (JLl Y7 O O O fun h8=>(JLm (I64 0) O (G6 (h7 (Gq ?_)))))))))
   obtain⟨o2,h9,i0,c7,h⟩:=Je h
   refine Hm (fun w (a1:(List G1))=>each o2 h9 (List.drop w boxes) w a1=some r) (fun w a1=>[(1,E8 boxes),(2,.mp 1051),(3,I64 calls),(4,Ee s),(8,.ptr 1100 0),(10,.ptr 1101 0),(11,.mp 1107),(12,Em g),(13,E1 a1),(14,Em k),(39,E8 boxes),(40,Em boxes.length),(41,Em w)]) (fun w a1=>[(1051,MP 92 Ks I64 home),(1109,.spare 44 1 c.1.length c.1.length),(1107,MP 163 Ks Slot.av c.2.2),(1100,.box 41 Ke),(1101,.box 41 [OW 1109 1 (E1) c.1,LS 1 (E2) c.2.1])]) (fun w=>boxes.length - w) 0 a5 h ⟨(.sm O O),⟨fmQ O,⟨_,rfl,.same⟩,fmQ O,fbQ O (.sm O O),fbQ O (.sm O O),ø⟩,rfl⟩ ?_
   clear h
   intro w a1 b8 q3 o3
   refine Jr fun i1=>(JLh (BL (decide ((w:Int) < (boxes.length:Int)))) (Jn O O O) O (G6 (i1 (Js fun i2=>Gp O (fun hb=>?_) (fun hb=>?_)))))
   ·
    have b9:=Jz hb
    obtain⟨e,p6,i3,i4,h⟩:=Hv b8 b9
    replace h:=Zm i0 h
    refine Gk (i2 ?_)
    obtain⟨i5,c8,h⟩:=Rc h
    refine Qk (fun a6:(List G1)=>i5 a6=some r) (fun a6=>[(1,E8 boxes),(2,.mp 1051),(3,I64 calls),(4,Ee s),(8,.ptr 1100 0),(10,.ptr 1101 0),(11,.mp 1107),(12,Em g),(13,E1 a6),(14,Em k),(39,E8 boxes),(40,Em boxes.length),(41,Em w)]) (fun a6=>[(1051,MP 92 Ks I64 home),(1109,.spare 44 1 c.1.length c.1.length),(1107,MP 163 Ks Slot.av c.2.2),(1100,.box 41 Ke),(1101,.box 41 [OW 1109 1 (E1) c.1,LS 1 (E2) c.2.1])]) (fun Kj45 ej45=>?_) ?_
    ·
     refine Gq (Jr fun i7=>(JLh (Ei e) (Hb (f:=Box.av) (xs:=boxes) (y:=e) O O O Y7 i3 O) O (JLh (.agg (Box.cs e)) (Gm Ra O O O) O (JLh (.ptr 1102 0) (Hj 1102 9 R0 O O) O (Hq (u:=.junk) (H7 (u:=.agg (Box.cs e)) (ds:=(Box.cs e)) Rs O O O O O O O O) (G6 (i7 ?_)))))))
     refine fzQ [(1,E8 boxes),(2,.mp 1051),(3,I64 calls),(4,Ee s),(8,.ptr 1100 0),(10,.ptr 1101 0),(11,.mp 1107),(12,Em g),(13,E1 a1),(14,Em k),(16,Ei e),(39,E8 boxes),(40,Em boxes.length),(41,Em w)] [(1051,MP 92 Ks I64 home),(1109,.spare 44 1 c.1.length c.1.length),(1107,MP 163 Ks Slot.av c.2.2),(1100,.box 41 Ke),(1101,.box 41 [OW 1109 1 (E1) c.1,LS 1 (E2) c.2.1])] 1102 rfl rfl rfl ⟨fmQ O,⟨_,rfl,.same⟩,fmQ O,⟨_,rfl,.boxEq rfl rfl⟩,⟨_,rfl,.boxEq rfl rfl⟩,ø⟩ rfl ?_
     refine Jr fun i8=>(JLm (.mp 1107) O (JLh (Ei e) (Ga Qu O O O) O (JLh (I64 e.ID) (Gg Gb O O O) O ?_)))
     obtain⟨l,i9,h⟩:=Gd h
     refine JLh (.tup [.agg (Slot.cs l),BL (Ha.has c.2.2 e.ID)]) (((M8 i9) ▸ R12 (av:=Slot.av) (m:=c.2.2) (a:=e.ID) (Slot.mk 0 0 0) (.agg #[E0,E0,.int .u8 0]) O O O O J92 Q94 Yf0 O)) O (JLm (.tup [.agg (Slot.cs l),BL (Ha.has c.2.2 e.ID)]) O (JLh (.agg (Slot.cs l)) (Gv O O O) O (JLh (BL (Ha.has c.2.2 e.ID)) (Gv O O O) O (JLh (.ptr 1103 0) (Hj 1103 3 Rr O O) O (Hq (u:=.junk) (H7 (u:=.agg (Slot.cs l)) (ds:=[I64 l.G3,I64 l.Tier,U8 l.Half]) Yq O O O O O O O O) (JLm (BL (Ha.has c.2.2 e.ID)) O (G6 (i8 ?_))))))))
     refine fzQ [(1,E8 boxes),(2,.mp 1051),(3,I64 calls),(4,Ee s),(8,.ptr 1100 0),(10,.ptr 1101 0),(11,.mp 1107),(12,Em g),(13,E1 a1),(14,Em k),(16,Ei e),(17,Ek l),(18,BL (Ha.has c.2.2 e.ID)),(39,E8 boxes),(40,Em boxes.length),(41,Em w)] [(1051,MP 92 Ks I64 home),(1109,.spare 44 1 c.1.length c.1.length),(1107,MP 163 Ks Slot.av c.2.2),(1100,.box 41 Ke),(1101,.box 41 [OW 1109 1 (E1) c.1,LS 1 (E2) c.2.1])] 1103 rfl rfl rfl ⟨fmQ O,⟨_,rfl,.same⟩,fmQ O,⟨_,rfl,.boxEq rfl rfl⟩,⟨_,rfl,.boxEq rfl rfl⟩,ø⟩ rfl ?_
     refine Jr fun j0=>(JLm (BL (Ha.has c.2.2 e.ID)) O (JLm (BL (Ha.has c.2.2 e.ID)) O (JLo (.dptr [I64 l.Tier,U8 l.Half]) [] O .sct ø (fun hc=>Ga Qz O O O) O (JLo (I64 l.Tier) [54] O .sct ⟨Ua,ø⟩ (fun hc=>Gg Gb O O O) O (JLo (Em k) [] O .sct ø (fun hc=>G5 O O) O (JLo (BL (decide (l.Tier=(k:Int)))) [55,56] O .sct ⟨Ua,Ua,ø⟩ (fun hc=>Qg O O O) O (JLh (BL ((Ha.has c.2.2 e.ID)&&(decide (l.Tier=(k:Int))))) (Ri O O O O) O (JLm (BL ((Ha.has c.2.2 e.ID)&&(decide (l.Tier=(k:Int))))) O (JLo (.dptr ((Box.cs e).drop 5)) [] O .sct ø (fun hc=>Ga H0c O O O) O (JLo (I64 e.Load) [60] O .sct ⟨Ua,ø⟩ (fun hc=>Gg Gb O O O) O (JLo (Em g) [] O .sct ø (fun hc=>G5 O O) O (JLo (BL (decide (e.Load < (g:Int)))) [61,62] O .sct ⟨Ua,Ua,ø⟩ (fun hc=>Jn O O O) O (JLh (BL (((Ha.has c.2.2 e.ID)&&(decide (l.Tier=(k:Int))))&&(decide (e.Load < (g:Int))))) (Ri O O O O) O ?_)))))))))))))
     refine JLm (BL (((Ha.has c.2.2 e.ID)&&(decide (l.Tier=(k:Int))))&&(decide (e.Load < (g:Int))))) O (JLo (Em g) [] O .sct ø (fun hc=>G5 O O) O (JLo (.dptr ((Box.cs e).drop 6)) [] O .sct ø (fun hc=>Ga H8d O O O) O (JLo (I64 e.Discharge) [67] O .sct ⟨Ua,ø⟩ (fun hc=>Gg Gb O O O) O (JLo (BL (decide ((g:Int) < e.Discharge))) [66,68] O .sct ⟨Ua,Ua,ø⟩ (fun hc=>Jn O O O) O (JLh (BL ((((Ha.has c.2.2 e.ID)&&(decide (l.Tier=(k:Int))))&&(decide (e.Load < (g:Int))))&&(decide ((g:Int) < e.Discharge)))) (Ri O O O O) O (G6 (j0 (JCc O h (fun h hb=>?_) (fun h hb=>?_)))))))))
     ·
      refine Jr fun j1=>(JLm (E1 a1) O (JLh (Ei e) (Ga Qu O O O) O (JLh (I64 e.ID) (Gg Gb O O O) O (JLh (.agg (Slot.cs l)) (Gm J4 O O O) O (JLh (.agg [I64 e.ID,I64 l.G3,I64 l.Tier,U8 l.Half]) (Hi (cs:=[I64 e.ID,I64 l.G3,I64 l.Tier,U8 l.Half]) [(0,1),(1,3)] [I64 0,I64 0,I64 0,U8 0] [E0,E0,E0,.int .u8 0] G44 Ga5 (zzQ O) O O) O ?_)))))
      obtain⟨a3,j2,h⟩:=Gd h
      refine JLh (E1 a3) (Gu O (H00 a1 (G1.mk e.ID l) a3 j2) Qa3 ⟨O,O,O,O,ø⟩) O (JLm (E1 a3) O (G6 (j1 (Jr fun j3=>(JLh (.agg (Gj.cs s)) (Gm J8 O O O) O (JLm (E8 boxes) O (JLm (E1 a3) O ?_)))))))
      obtain⟨g5,j4,h⟩:=Gd h
      refine JLh (BL g5) (Gu O (Gaf s boxes a3 g5 j4) H92 ⟨O,O,O,O,O,O,ø⟩) O (G6 (j3 (JCc O h (fun h hb=>?_) (fun h hb=>?_))))
      ·
       refine G2 (JLm (E1 a3) O (JLm (E1 a3) O (G6 (ej45 _ _ a3 h ⟨(.sm O O),⟨fmQ O,⟨_,rfl,.same⟩,fmQ O,fbQ O (.sm O O),fbQ O (.sm O O),ø⟩,rfl⟩))))
      ·
       refine Gk (ej45 _ _ a1 h ⟨(.sm O O),⟨fmQ O,⟨_,rfl,.same⟩,fmQ O,fbQ O (.sm O O),fbQ O (.sm O O),ø⟩,rfl⟩)
     ·
      refine Gk (ej45 _ _ a1 h ⟨(.sm O O),⟨fmQ O,⟨_,rfl,.same⟩,fmQ O,fbQ O (.sm O O),fbQ O (.sm O O),ø⟩,rfl⟩)
    ·intro a6 h
     replace h:=app1 c8 h
     refine G2 (JLh (I64 ((w+1:Nat):Int)) (J3 (Hp b9 h8) O O O) O (JLm (I64 ((w+1:Nat):Int)) O (G6 (o3 _ _ (w+1) a6 (app1 i4 h) (by omega) ⟨(.sm O O),⟨fmQ O,⟨_,rfl,.same⟩,fmQ O,fbQ O (.sm O O),fbQ O (.sm O O),ø⟩,rfl⟩))))
   ·
    have h:=app1 c7 (Hw b8 (Hf hb))
    refine Hr (h6 (G2 (JLm (Em k) O (JLh (I64 ((k+1:Nat):Int)) (J3 (Hp b7 (H2d h0)) O O O) O (JLm (I64 ((k+1:Nat):Int)) O (G6 (o1 _ _ (k+1) a1 (app1 h5 h) (by omega) ⟨(.sm O O),⟨fmQ O,⟨_,rfl,.same⟩,fmQ O,fbQ O (.sm O O),fbQ O (.sm O O),ø⟩,rfl⟩)))))))
  ·
   have h:=app1 c6 (H8a b5 (G7d hb))
   refine Hr (g8 (Js fun j5=>Jr fun j6=>(JLm (E8 boxes) O (JLl Y7 O O O fun j7=>(JLm (I64 0) O (G6 (j6 (Gq ?_))))))))
   obtain⟨o4,j8,j9,c9,h⟩:=Je h
   refine Hm (fun n (i:(List G1))=>each o4 j8 (List.drop n boxes) n i=some r) (fun n i=>[(1,E8 boxes),(2,.mp 1051),(3,I64 calls),(4,Ee s),(8,.ptr 1100 0),(10,.ptr 1101 0),(12,Em g),(13,E1 i),(83,E8 boxes),(84,Em boxes.length),(85,Em n)]) (fun n i=>[(1051,MP 92 Ks I64 home),(1109,.spare 44 1 c.1.length c.1.length),(1107,MP 163 Ks Slot.av c.2.2),(1100,.box 41 Ke),(1101,.box 41 [OW 1109 1 (E1) c.1,LS 1 (E2) c.2.1])]) (fun n=>boxes.length - n) 0 a5 h ⟨(.sm O O),⟨fmQ O,⟨_,rfl,.same⟩,fmQ O,fbQ O (.sm O O),fbQ O (.sm O O),ø⟩,rfl⟩ ?_
   clear h
   intro n i c0 q4 o5
   refine Jr fun k0=>(JLh (BL (decide ((n:Int) < (boxes.length:Int)))) (Jn O O O) O (G6 (k0 (Js fun k1=>Gp O (fun hb=>?_) (fun hb=>?_)))))
   ·
    have c1:=Jz hb
    obtain⟨d,p7,k2,k3,h⟩:=Hv c0 c1
    replace h:=Zm j9 h
    refine Gk (k1 ?_)
    obtain⟨k4,d0,h⟩:=Rc h
    refine Qk (fun a7:(List G1)=>k4 a7=some r) (fun a7=>[(1,E8 boxes),(2,.mp 1051),(3,I64 calls),(4,Ee s),(8,.ptr 1100 0),(10,.ptr 1101 0),(12,Em g),(13,E1 a7),(83,E8 boxes),(84,Em boxes.length),(85,Em n)]) (fun a7=>[(1051,MP 92 Ks I64 home),(1109,.spare 44 1 c.1.length c.1.length),(1107,MP 163 Ks Slot.av c.2.2),(1100,.box 41 Ke),(1101,.box 41 [OW 1109 1 (E1) c.1,LS 1 (E2) c.2.1])]) (fun Kj59 ej59=>?_) ?_
    ·
     refine Gq (Jr fun k5=>(JLh (Ei d) (Hb (f:=Box.av) (xs:=boxes) (y:=d) O O O Y7 k2 O) O (JLh (.agg (Box.cs d)) (Gm Ra O O O) O (JLh (.ptr 1104 0) (Hj 1104 9 R0 O O) O (Hq (u:=.junk) (H7 (u:=.agg (Box.cs d)) (ds:=(Box.cs d)) Rs O O O O O O O O) (G6 (k5 ?_)))))))
     refine fzQ [(1,E8 boxes),(2,.mp 1051),(3,I64 calls),(4,Ee s),(8,.ptr 1100 0),(10,.ptr 1101 0),(12,Em g),(13,E1 i),(21,Ei d),(83,E8 boxes),(84,Em boxes.length),(85,Em n)] [(1051,MP 92 Ks I64 home),(1109,.spare 44 1 c.1.length c.1.length),(1107,MP 163 Ks Slot.av c.2.2),(1100,.box 41 Ke),(1101,.box 41 [OW 1109 1 (E1) c.1,LS 1 (E2) c.2.1])] 1104 rfl rfl rfl ⟨fmQ O,⟨_,rfl,.same⟩,fmQ O,⟨_,rfl,.boxEq rfl rfl⟩,⟨_,rfl,.boxEq rfl rfl⟩,ø⟩ rfl (Js fun k6=>?_)
     refine Jr fun k7=>(JLh (.dptr ((Box.cs d).drop 5)) (Ga H0c O O O) O (JLh (I64 d.Load) (Gg Gb O O O) O (JLm (Em g) O (JLh (BL (decide ((g:Int) < d.Load))) (Gd1 O O O) O (JLm (BL (decide ((g:Int) < d.Load))) O (JLo (Em g) [] O .scf ø (fun hc=>G5 O O) O (JLo (.dptr ((Box.cs d).drop 6)) [] O .scf ø (fun hc=>Ga H8d O O O) O (JLo (I64 d.Discharge) [95] O .scf ⟨Ua,ø⟩ (fun hc=>Gg Gb O O O) O (JLo (BL (decide (d.Discharge≤(g:Int)))) [94,96] O .scf ⟨Ua,Ua,ø⟩ (fun hc=>H2c O O O) O (JLh (BL ((decide ((g:Int) < d.Load))||(decide (d.Discharge≤(g:Int))))) (G82 O O O O) O (JLm (BL ((decide ((g:Int) < d.Load))||(decide (d.Discharge≤(g:Int))))) O (JLo (E1 i) [] O .scf ø (fun hc=>G5 O O) O (JLo (Ei d) [] O .scf ø (fun hc=>Ga Qu O O O) O ?_)))))))))))))
     refine JLo (I64 d.ID) [101] O .scf ⟨Ua,ø⟩ (fun hc=>Gg Gb O O O) O ?_
     obtain⟨c2,k8,h⟩:=Gd h
     refine JLo (BL c2) [100,102] O .scf ⟨Ua,Ua,ø⟩ (fun hc=>Gu (args:=[E1 i,I64 d.ID]) O (He0 i d.ID c2 (H2 hc k8)) Rc1 ⟨O,O,O,O,ø⟩) O (JLh (BL (((decide ((g:Int) < d.Load))||(decide (d.Discharge≤(g:Int))))||c2)) (G82 O O O O) O (G6 (k7 (JCc O h (fun h hb=>?_) (fun h hb=>?_)))))
     ·
      refine Hr (ej59 _ _ i h ⟨(.sm O O),⟨fmQ O,⟨_,rfl,.same⟩,fmQ O,fbQ O (.sm O O),fbQ O (.sm O O),ø⟩,rfl⟩)
     ·
      refine Gk (k6 (Jr fun k9=>(JLm (BL false) O (G6 (k9 (Js fun l0=>Jr fun l1=>(JLm (I64 0) O (G6 (l1 (Gq ?_))))))))))
      obtain⟨o6,l2,h⟩:=H4b h
      refine Hm (fun a8 (j:(List G1)×Bool×Int)=>loop o6 a8 j=some r) (fun a8 j=>[(1,E8 boxes),(2,.mp 1051),(3,I64 calls),(4,Ee s),(8,.ptr 1100 0),(10,.ptr 1101 0),(12,Em g),(13,E1 j.1),(21,Ei d),(22,BL j.2.1),(23,I64 j.2.2),(83,E8 boxes),(84,Em boxes.length),(85,Em n)]) (fun a8 j=>[(1051,MP 92 Ks I64 home),(1109,.spare 44 1 c.1.length c.1.length),(1107,MP 163 Ks Slot.av c.2.2),(1100,.box 41 Ke),(1101,.box 41 [OW 1109 1 (E1) c.1,LS 1 (E2) c.2.1])]) (fun a8=>a8) F (i,false,0) h ⟨(.sm O O),⟨fmQ O,⟨_,rfl,.same⟩,fmQ O,fbQ O (.sm O O),fbQ O (.sm O O),ø⟩,rfl⟩ ?_
      clear h
      intro a8 j l3 q5 o7
      obtain⟨o8,p8,hm_67,l4,h⟩:=Gd9 l3
      replace h:=R20 l2 h
      refine Js fun l5=>Jr fun l6=>(JLm (I64 j.2.2) O (JLh (Ee s) (Ga Jc O O O) O (JLh (E3 s.Columns) (Gg Jv O O O) O (JLl Hz O O O fun p1=>(JLh (BL (decide (j.2.2 < (s.Columns.length:Int)))) (Jn O O O) O (JLm (BL (decide (j.2.2 < (s.Columns.length:Int)))) O (JLo (BL j.2.1) [] O .sct ø (fun hc=>G5 O O) O (JLo (BL (!j.2.1)) [111] O .sct ⟨Ua,ø⟩ (fun hc=>Yc (b:=j.2.1) O O) O (JLh (BL ((decide (j.2.2 < (s.Columns.length:Int)))&&(!j.2.1))) (Ri O O O O) O (G6 (l6 (JCc O h (fun h hb=>?_) (fun h hb=>?_)))))))))))))
      ·
       refine Gk (l5 ?_)
       obtain⟨l7,d1,h⟩:=Rc h
       refine Qk (fun a4:(List G1)×Bool=>l7 a4=some r) (fun a4=>[(1,E8 boxes),(2,.mp 1051),(3,I64 calls),(4,Ee s),(8,.ptr 1100 0),(10,.ptr 1101 0),(12,Em g),(13,E1 a4.1),(21,Ei d),(22,BL a4.2),(23,I64 j.2.2),(83,E8 boxes),(84,Em boxes.length),(85,Em n)]) (fun a4=>[(1051,MP 92 Ks I64 home),(1109,.spare 44 1 c.1.length c.1.length),(1107,MP 163 Ks Slot.av c.2.2),(1100,.box 41 Ke),(1101,.box 41 [OW 1109 1 (E1) c.1,LS 1 (E2) c.2.1])]) (fun Kj70 ej70=>?_) ?_
       ·
        refine Gq (Jr fun l8=>(JLh (.agg (Gj.cs s)) (Gm J8 O O O) O (JLh (.dptr ((Box.cs d).drop 2)) (Ga G35 O O O) O (JLh (U8 d.Size) (Gg Hy O O O) O ?_))))
        obtain⟨a2,l9,h⟩:=Gd h
        refine JLh (Ea a2) (Gu O (R8a s d.Size a2 l9) Rc0 ⟨O,O,O,O,ø⟩) O (JLl Yi O O O fun d2=>(JLm (I64 0) O (G6 (l8 (Gq ?_)))))
        obtain⟨o9,m0,m1,d3,h⟩:=Je h
        refine Hm (fun x (t:(List G1)×Bool)=>each o9 m0 (List.drop x a2) x t=some r) (fun x t=>[(1,E8 boxes),(2,.mp 1051),(3,I64 calls),(4,Ee s),(8,.ptr 1100 0),(10,.ptr 1101 0),(12,Em g),(13,E1 t.1),(21,Ei d),(22,BL t.2),(23,I64 j.2.2),(83,E8 boxes),(84,Em boxes.length),(85,Em n),(119,Ea a2),(120,Em a2.length),(121,Em x)]) (fun x t=>[(1051,MP 92 Ks I64 home),(1109,.spare 44 1 c.1.length c.1.length),(1107,MP 163 Ks Slot.av c.2.2),(1100,.box 41 Ke),(1101,.box 41 [OW 1109 1 (E1) c.1,LS 1 (E2) c.2.1])]) (fun x=>a2.length - x) 0 (j.1,j.2.1) h ⟨(.sm O O),⟨fmQ O,⟨_,rfl,.same⟩,fmQ O,fbQ O (.sm O O),fbQ O (.sm O O),ø⟩,rfl⟩ ?_
        clear h
        intro x t c3 q6 p0
        refine Jr fun d4=>(JLh (BL (decide ((x:Int) < (a2.length:Int)))) (Jn O O O) O (G6 (d4 (Js fun d5=>Gp O (fun hb=>?_) (fun hb=>?_)))))
        ·
         have c4:=Jz hb
         obtain⟨p,p9,m2,m3,h⟩:=Hv c3 c4
         replace h:=Zm m1 h
         refine Gk (d5 (Js fun d6=>Gq (Jr fun d7=>(JLh (Ek p) (Hb (f:=Slot.av) (xs:=a2) (y:=p) O O O Yi m2 O) O (JLh (.agg (Slot.cs p)) (Gm J4 O O O) O (JLh (.ptr 1105 0) (Hj 1105 3 Rr O O) O (Hq (u:=.junk) (H7 (u:=.agg (Slot.cs p)) (ds:=[I64 p.G3,I64 p.Tier,U8 p.Half]) Yq O O O O O O O O) (G6 (d7 ?_)))))))))
         refine fzQ [(1,E8 boxes),(2,.mp 1051),(3,I64 calls),(4,Ee s),(8,.ptr 1100 0),(10,.ptr 1101 0),(12,Em g),(13,E1 t.1),(21,Ei d),(22,BL t.2),(23,I64 j.2.2),(25,Ek p),(83,E8 boxes),(84,Em boxes.length),(85,Em n),(119,Ea a2),(120,Em a2.length),(121,Em x)] [(1051,MP 92 Ks I64 home),(1109,.spare 44 1 c.1.length c.1.length),(1107,MP 163 Ks Slot.av c.2.2),(1100,.box 41 Ke),(1101,.box 41 [OW 1109 1 (E1) c.1,LS 1 (E2) c.2.1])] 1105 rfl rfl rfl ⟨fmQ O,⟨_,rfl,.same⟩,fmQ O,⟨_,rfl,.boxEq rfl rfl⟩,⟨_,rfl,.boxEq rfl rfl⟩,ø⟩ rfl ?_
         refine Jr fun d8=>(JLm (E1 t.1) O (JLh (Ei d) (Ga Qu O O O) O (JLh (I64 d.ID) (Gg Gb O O O) O (JLh (.agg (Slot.cs p)) (Gm J4 O O O) O (JLh (.agg [I64 d.ID,I64 p.G3,I64 p.Tier,U8 p.Half]) (Hi (cs:=[I64 d.ID,I64 p.G3,I64 p.Tier,U8 p.Half]) [(0,1),(1,3)] [I64 0,I64 0,I64 0,U8 0] [E0,E0,E0,.int .u8 0] G44 Ga5 (zzQ O) O O) O ?_)))))
         obtain⟨z,d9,h⟩:=Gd h
         refine JLh (E1 z) (Gu O (H00 t.1 (G1.mk d.ID p) z d9) Qa3 ⟨O,O,O,O,ø⟩) O (JLm (E1 z) O (G6 (d8 (Js fun e0=>?_))))
         refine Qn (l':=[(1,E8 boxes),(2,.mp 1051),(3,I64 calls),(4,Ee s),(8,.ptr 1100 0),(10,.ptr 1101 0),(12,Em g),(13,E1 t.1),(21,Ei d),(22,BL t.2),(23,I64 j.2.2),(25,Ek p),(26,E1 z),(83,E8 boxes),(84,Em boxes.length),(85,Em n),(119,Ea a2),(120,Em a2.length),(121,Em x)]) (L':=[(1051,MP 92 Ks I64 home),(1109,.spare 44 1 c.1.length c.1.length),(1107,MP 163 Ks Slot.av c.2.2),(1100,.box 41 Ke),(1101,.box 41 [OW 1109 1 (E1) c.1,LS 1 (E2) c.2.1])]) ⟨(.sm O O),⟨fmQ O,⟨_,rfl,.same⟩,fmQ O,fbQ O (.sm O O),fbQ O (.sm O O),ø⟩,rfl⟩ ?_
         obtain⟨m4,e1,h⟩:=Gd h
         obtain⟨m5,e2,h⟩:=Ht h
         obtain⟨a9,b2,h⟩:=Gd h
         obtain⟨b0,e3,h⟩:=Gd h
         refine JC_d0 J1 (by kernel_rfl) (Dq (Ek p) (Ga Jb O O O) O (Dq (I64 p.G3) (Gg Gb O O O) O (Dq (.mp 1051) (G5 O O) O (Dq (Ei d) (Ga Qu O O O) O (Dq (I64 d.ID) (Gg Gb O O O) O (Dq (I64 m4) (((M8 e1) ▸ Jd3 (av:=I64) (m:=home) (a:=d.ID) 0 E0 O O O O J92 Gf8 H46 O)) O (Dq (I64 j.2.2) (G5 O O) O (Dq (I64 m5) (J3 e2 O O O) O (Dq (Ee s) (Ga Jc O O O) O (Dq (E3 s.Columns) (Gg Jv O O O) O (Dq (Em s.Columns.length) (Gf6 (f:=G3.av) (xs:=s.Columns) Hz O O) O (Dq (I64 a9) (J74 (R8 b2).1 (R8 b2).2 O O O) O (Dq (BL (decide (p.G3=a9))) (Qg O O O) O ?_)))))))))))))
         refine Dq (BL (decide (p.G3=a9))) (G5 O O) O (Do (.agg (Gj.cs s)) [] O .sct ø (fun hc=>Gm J8 O O O) O (Do (E8 boxes) [] O .sct ø (fun hc=>G5 O O) O (Do (E1 z) [] O .sct ø (fun hc=>G5 O O) O (Do (BL b0) [145,146,147] O .sct ⟨Ua,Ua,Ua,ø⟩ (fun hc=>Gu (args:=[.agg (Gj.cs s),E8 boxes,E1 z]) O (Gaf s boxes z b0 (H2 hc e3)) H92 ⟨O,O,O,O,O,O,ø⟩) O (Dq (BL ((decide (p.G3=a9))&&b0)) (Ri O O O O) O (Dnil (e0 (JCc O h (fun h hb=>?_) (fun h hb=>?_)))))))))
         ·
          refine Jr fun e4=>(JLm (E1 z) O (JLm (E1 z) O (JLm (BL true) O (G6 (e4 (Hr (ej70 _ _ (z,true) h ⟨(.sm O O),⟨fmQ O,⟨_,rfl,.same⟩,fmQ O,fbQ O (.sm O O),fbQ O (.sm O O),ø⟩,rfl⟩)))))))
         ·
          refine Gk (d6 (G2 (JLh (I64 ((x+1:Nat):Int)) (J3 (Hp c4 d2) O O O) O (JLm (I64 ((x+1:Nat):Int)) O (G6 (p0 _ _ (x+1) (t.1,t.2) (app1 m3 h) (by omega) ⟨(.sm O O),⟨fmQ O,⟨_,rfl,.same⟩,fmQ O,fbQ O (.sm O O),fbQ O (.sm O O),ø⟩,rfl⟩))))))
        ·
         have h:=app1 d3 (Hw c3 (Hf hb))
         refine Hr (ej70 _ _ (t.1,t.2) h ⟨(.sm O O),⟨fmQ O,⟨_,rfl,.same⟩,fmQ O,fbQ O (.sm O O),fbQ O (.sm O O),ø⟩,rfl⟩)
       ·intro a4 h
        replace h:=app1 d1 h
        refine G2 (JLm (I64 j.2.2) O ?_)
        obtain⟨b1,e5,h⟩:=Ht h
        refine JLh (I64 b1) (J3 e5 O O O) O (JLm (I64 b1) O (G6 (o7 _ _ o8 (a4.1,a4.2,b1) (app1 l4 h) (by omega) ⟨(.sm O O),⟨fmQ O,⟨_,rfl,.same⟩,fmQ O,fbQ O (.sm O O),fbQ O (.sm O O),ø⟩,rfl⟩)))
      ·
       refine Hr (l0 (Jr fun e7=>(JLm (BL j.2.1) O (JLh (BL (!j.2.1)) (Yc (b:=j.2.1) O O) O (G6 (e7 (JCc O h (fun h hb=>?_) (fun h hb=>?_))))))))
       ·
        refine Js fun e8=>Qn (l':=[(8,.ptr 1100 0),(21,Ei d)]) (L':=[(1051,MP 92 Ks I64 home),(1109,.spare 44 1 c.1.length c.1.length),(1107,MP 163 Ks Slot.av c.2.2),(1100,.box 41 Ke),(1101,.box 41 [OW 1109 1 (E1) c.1,LS 1 (E2) c.2.1])]) ⟨(.sm O O),⟨⟨_,O,.map⟩,⟨_,O,.same⟩,⟨_,O,.map⟩,⟨_,O,.boxL O (.sm O O)⟩,⟨_,O,.boxL O (.sm O O)⟩,ø⟩,O⟩ ?_
        refine Jm [3] [0,0,0,0,1] [0,1,1,0,1] [[(1051,MP 92 Ks I64 home),(1109,.spare 44 1 c.1.length c.1.length),(1107,MP 163 Ks Slot.av c.2.2),(1100,.box 41 Ke),(1101,.box 41 [OW 1109 1 (E1) c.1,LS 1 (E2) c.2.1])],((1100,.box 41 Ke)::[(1051,MP 92 Ks I64 home),(1109,.spare 44 1 c.1.length c.1.length),(1107,MP 163 Ks Slot.av c.2.2),(1100,.box 41 Ke),(1101,.box 41 [OW 1109 1 (E1) c.1,LS 1 (E2) c.2.1])])] J1 (by kernel_rfl) rfl rfl ?_
        refine Gc (u:=.agg Ke) O O ⟨Gf (Hi (cs:=Ke) [(0,1),(1,1)] Ke [.slice none 0 0,.slice none 0 0] Jd7 H2e ⟨.inr ⟨_,O,O⟩,.inr ⟨_,O,O⟩,ø⟩ O O) O,ø⟩ (Gc (u:=Ei d) O O ⟨Gf (Ga Qu O O O) O,Gf (Ga Qu O O O) O,ø⟩ (Gc (u:=I64 d.ID) O O ⟨Gf (Gg Gb O O O) O,Gf (Gg Gb O O O) O,ø⟩ (H22 (u:=.junk) O O O O (Gf (H7 (u:=.agg Ke) (ds:=Ke) G56 O O O O O O O O) O) (Gc (u:=I64 d.ID) O O ⟨Gf (G7 O O) O,ø⟩ (R4 ?_)))))
        refine e8 (Qn (l':=[(8,.ptr 1100 0),(9,I64 d.ID)]) (L':=[(1051,MP 92 Ks I64 home),(1107,MP 163 Ks Slot.av c.2.2),(1100,.box 41 Ke),(1101,.box 41 [LS 1 (E1) c.1,LS 1 (E2) c.2.1])]) ⟨(.sm O O),⟨⟨_,O,.map⟩,⟨_,O,.map⟩,⟨_,O,.boxL O (.sm O O)⟩,⟨_,O,.boxL O ⟨.list O,.same O,ø⟩⟩,ø⟩,O⟩ ?_)
        refine Gr [(8,.ptr 1100 0),(9,I64 d.ID)] [(1051,MP 92 Ks I64 home),(1107,MP 163 Ks Slot.av c.2.2),(1100,.box 41 Ke)] 1101 rfl rfl rfl ⟨fmQ O,fmQ O,⟨_,rfl,.boxEq rfl rfl⟩,ø⟩ rfl (by exact⟨.conv (.same rfl),.conv (.same rfl),ø⟩) (Gs ?_)
        obtain rfl:=M8 h
        exact⟨[.agg Ke,I64 d.ID],[(1051,MP 92 Ks I64 home)],⟨⟨_,O,.map⟩,ø⟩,O,⟨⟨_,⟨_,_,_,_,O,O,O,.inl ⟨Gc0,O⟩⟩,.conv (.same O)⟩,⟨_,O,.conv (.same O)⟩,ø⟩,O,O⟩
       ·
        refine Gk (ej59 _ _ j.1 h ⟨(.sm O O),⟨fmQ O,⟨_,rfl,.same⟩,fmQ O,fbQ O (.sm O O),fbQ O (.sm O O),ø⟩,rfl⟩)
    ·intro a7 h
     replace h:=app1 d0 h
     refine G2 (JLh (I64 ((n+1:Nat):Int)) (J3 (Hp c1 j7) O O O) O (JLm (I64 ((n+1:Nat):Int)) O (G6 (o5 _ _ (n+1) a7 (app1 k3 h) (by omega) ⟨(.sm O O),⟨fmQ O,⟨_,rfl,.same⟩,fmQ O,fbQ O (.sm O O),fbQ O (.sm O O),ø⟩,rfl⟩))))
   ·
    have h:=app1 c9 (Hw c0 (Hf hb))
    refine Hr (j5 (Jr fun e9=>(JLh (.mp 1108) (Hb5 1108 Ks Slot.av O O) O (JLm (.mp 1108) O ?_))))
    refine Yde 1107 1108 (MP 163 Ks Slot.av (Ha.empty:Ha Int Slot)) [(1,E8 boxes),(2,.mp 1051),(3,I64 calls),(4,Ee s),(8,.ptr 1100 0),(10,.ptr 1101 0),(12,Em g),(13,E1 i),(83,E8 boxes),(84,Em boxes.length),(85,Em n),(86,BL (decide ((n:Int) < (boxes.length:Int)))),(158,.mp 1108),(11,.mp 1108)] [(1,E8 boxes),(2,.mp 1051),(3,I64 calls),(4,Ee s),(8,.ptr 1100 0),(10,.ptr 1101 0),(12,Em g),(13,E1 i),(83,E8 boxes),(84,Em boxes.length),(85,Em n),(86,BL (decide ((n:Int) < (boxes.length:Int)))),(158,.mp 1107),(11,.mp 1107)] [(1051,MP 92 Ks I64 home),(1109,.spare 44 1 c.1.length c.1.length),(1100,.box 41 Ke),(1101,.box 41 [OW 1109 1 (E1) c.1,LS 1 (E2) c.2.1])] ⟨_,_,rfl⟩ ⟨(.sm O O),⟨fmQ O,fmQ O,⟨_,rfl,.same⟩,fbQ O (.sm O O),fbQ O (.sm O O),ø⟩,rfl⟩ rfl rfl rfl rfl rfl ⟨fmQ O,⟨_,rfl,.same⟩,⟨_,rfl,.boxEq rfl rfl⟩,⟨_,rfl,.boxEq rfl rfl⟩,ø⟩ ⟨.inr ⟨rfl,rfl⟩,⟨.inr ⟨rfl,rfl⟩,⟨.inr ⟨rfl,rfl⟩,⟨.inr ⟨rfl,rfl⟩,⟨.inr ⟨rfl,rfl⟩,⟨.inr ⟨rfl,rfl⟩,⟨.inr ⟨rfl,rfl⟩,⟨.inr ⟨rfl,rfl⟩,⟨.inr ⟨rfl,rfl⟩,⟨.inr ⟨rfl,rfl⟩,⟨.inr ⟨rfl,rfl⟩,⟨.inr ⟨rfl,rfl⟩,⟨.inl ⟨rfl,rfl⟩,⟨.inl ⟨rfl,rfl⟩,ø⟩⟩⟩⟩⟩⟩⟩⟩⟩⟩⟩⟩⟩⟩ ?_
    refine G6 (e9 (Js fun f0=>Jr fun f1=>(JLm (E1 i) O (JLl H5 O O O fun f2=>(JLm (I64 0) O (G6 (f1 (Gq ?_))))))))
    obtain⟨m6,f3,f4,c5,h⟩:=Je h
    refine Hm (fun q (a0:(Ha Int Slot))=>each m6 f3 (List.drop q i) q a0=some r) (fun q a0=>[(1,E8 boxes),(2,.mp 1051),(3,I64 calls),(4,Ee s),(8,.ptr 1100 0),(10,.ptr 1101 0),(11,.mp 1107),(12,Em g),(13,E1 i),(159,E1 i),(160,Em i.length),(161,Em q)]) (fun q a0=>[(1107,MP 163 Ks Slot.av a0),(1051,MP 92 Ks I64 home),(1109,.spare 44 1 c.1.length c.1.length),(1100,.box 41 Ke),(1101,.box 41 [OW 1109 1 (E1) c.1,LS 1 (E2) c.2.1])]) (fun q=>i.length - q) 0 (Ha.empty:Ha Int Slot) h ⟨(.sm O O),⟨fmQ O,fmQ O,⟨_,rfl,.same⟩,fbQ O (.sm O O),fbQ O (.sm O O),ø⟩,rfl⟩ ?_
    clear h
    intro q a0 b3 q0 m7
    refine Jr fun f5=>(JLh (BL (decide ((q:Int) < (i.length:Int)))) (Jn O O O) O (G6 (f5 (Js fun f6=>Gp O (fun hb=>?_) (fun hb=>?_)))))
    ·
     have b4:=Jz hb
     obtain⟨o,p2,f7,f8,h⟩:=Hv b3 b4
     replace h:=Zm f4 h
     refine Gk (f6 (Js fun f9=>Gq (Jr fun g0=>(JLh (Eh o) (Hb (f:=G1.av) (xs:=i) (y:=o) O O O H5 f7 O) O (JLh (.agg (G1.cs o)) (Gm Qh O O O) O (JLh (.ptr 1106 0) (Hj 1106 4 Q3 O O) O (Hq (u:=.junk) (H7 (u:=.agg (G1.cs o)) (ds:=[I64 o.Box,I64 o.Slot.G3,I64 o.Slot.Tier,U8 o.Slot.Half]) Ru O O O O O O O O) (G6 (g0 ?_)))))))))
     refine fzQ [(1,E8 boxes),(2,.mp 1051),(3,I64 calls),(4,Ee s),(8,.ptr 1100 0),(10,.ptr 1101 0),(11,.mp 1107),(12,Em g),(13,E1 i),(28,Eh o),(159,E1 i),(160,Em i.length),(161,Em q)] [(1107,MP 163 Ks Slot.av a0),(1051,MP 92 Ks I64 home),(1109,.spare 44 1 c.1.length c.1.length),(1100,.box 41 Ke),(1101,.box 41 [OW 1109 1 (E1) c.1,LS 1 (E2) c.2.1])] 1106 rfl rfl rfl ⟨fmQ O,fmQ O,⟨_,rfl,.same⟩,⟨_,rfl,.boxEq rfl rfl⟩,⟨_,rfl,.boxEq rfl rfl⟩,ø⟩ rfl ?_
     refine G2 (JLm (.mp 1107) O (JLh (Eh o) (Ga Ja O O O) O (JLh (I64 o.Box) (Gg Gb O O O) O (JLh (.dptr ((G1.cs o).drop 1)) (Ga Jt O O O) O (JLh (.agg ((G1.cs o).drop 1)) (Gm J4 O O O) O (Hq (u:=.junk) (J2e (m:=a0) (a:=o.Box) (v:=o.Slot) O O O O O O J92 Q94) (G6 (f9 (G2 (JLh (I64 ((q+1:Nat):Int)) (J3 (Hp b4 f2) O O O) O (JLm (I64 ((q+1:Nat):Int)) O (G6 (m7 _ _ (q+1) (Ha.put a0 o.Box o.Slot) (app1 f8 h) (by omega) ⟨(.sm O O),⟨fmQ O,fmQ O,⟨_,rfl,.same⟩,fbQ O (.sm O O),fbQ O (.sm O O),ø⟩,rfl⟩)))))))))))))
    ·
     have h:=app1 c5 (Hw b3 (Hf hb))
     refine Hr (f0 (G2 (JLh (.ptr 1101 0) (J9 Ro O O) O (JLh (OW 1109 1 (E1) c.1) (J2 R9 O O O O) O (JLm (E1 i) O (JLh (LS 1 (E1) [i]) (He (xs:=[E1 i]) O ⟨O,O,ø⟩ Ju Hbe O O O O) O ?_))))))
     obtain⟨g1,h⟩:=Jf h
     refine JLh (OW 1109 1 (E1) (c.1++[i])) (Yo (f:=(E1)) (xs:=c.1) (ys:=[i]) O O O O Ju Qa2 g1 (fun _=>O) (.inl O) O) O (JLh (.ptr 1101 0) (J9 Ro O O) O (Hq (u:=.junk) (H7 (u:=OW 1109 1 (E1) (c.1++[i])) (ds:=[OW 1109 1 (E1) (c.1++[i]),LS 1 (E2) c.2.1]) Q91 O O O O O O O O) (G6 (n9 (G2 (JLm (Em g) O (JLh (I64 ((g+1:Nat):Int)) (J3 (Hp g4 (H2d n3)) O O O) O (JLm (I64 ((g+1:Nat):Int)) O (G6 (e6 _ _ (g+1) ((c.1++[i]),c.2.1,a0) (app1 n8 h) (by omega) ⟨(.sm O O),⟨fmQ O,⟨_,rfl,.same⟩,fmQ O,fbQ O (.sm O O),fbQ O (.sm O O),ø⟩,rfl⟩))))))))))
 ·
  have h:=app1 g6 (H8a g3 (G7d hb))
  refine Hr (n1 (Jr fun g2=>(JLh (.agg [OW 1109 1 (E1) c.1,LS 1 (E2) c.2.1]) (J31 Gc0 O O O O) O (Hq (u:=.junk) (H7 (u:=.agg [OW 1109 1 (E1) c.1,LS 1 (E2) c.2.1]) (ds:=[OW 1109 1 (E1) c.1,LS 1 (E2) c.2.1]) G56 O O O O O O O O) (JLm (I64 0) O (G6 (g2 (Gs ?_))))))))
  obtain rfl:=M8 h
  exact⟨[.agg [LS 1 (E1) c.1,LS 1 (E2) c.2.1],I64 0],[(1051,MP 92 Ks I64 home)],⟨⟨_,O,.map⟩,ø⟩,O,⟨⟨_,⟨_,_,_,_,O,O,O,.inl ⟨Gc0,O⟩⟩,.agg ⟨.list O,.same O,ø⟩⟩,⟨_,O,.conv (.same O)⟩,ø⟩,O,O⟩

def Zd (F:Nat) (s:Gj) (l:List H8) (calls:Int) (most:Int):Option ((List Box)×J26):=
 bnd (J5b (min (l.length:Int) most) l.length) fun m6=>
 each (fun b u (a:(List Box)×(Ha Int Int)) q=>
  chk (5*((u+1:Nat):Int)) fun g=>
  chk (b.Kilos) fun v=>
  chk (100*v) fun w=>
  chk (1000+w) fun k=>
  chk (b.Load) fun x=>
  chk (calls - 1) fun y=>
  bnd (Hc5 x y) fun e=>
  chk (e+1) fun z=>
  chk (b.Stay) fun a0=>
  chk (calls - 1) fun a1=>
  chk (a1 - e) fun a2=>
  bnd (Hc5 a0 a2) fun a3=>
  chk (z+a3) fun m=>
  jp (fun n=>
   bif b.Small then
   (n (20,false))
   else
   (n (40,b.High))) fun(c:Int×Bool)=>
  chk (b.G3) fun a4=>
  bnd (Hc5 a4 (s.Columns.length:Int)) fun a5=>
  need (decide ((a.1.length+[(Box.mk g ByteArray.empty c.1 c.2 k e m 0 false)].length)*64≤140737488355328∧a.1.length+[(Box.mk g ByteArray.empty c.1 c.2 k e m 0 false)].length≤maxLen)) <|
  q ((a.1++[(Box.mk g ByteArray.empty c.1 c.2 k e m 0 false)]),(Ha.put a.2 g a5)))
 (fun(a:(List Box)×(Ha Int Int))=>
  chk ((a.1.length:Int)+1) fun p=>
  need (decide (p≤9223372036854775807)) <|
  upto (fun a8 (f:(List Box)×(Ha Int Int)) r=>
   bnd (Zc F s f.1 f.2 calls) fun h=>
   bif decide (h.2.1=0) then
   (some (f.1,h.1))
   else
   (each (fun i a9 (d:(List Box)) t=>
     jp (fun o=>
      bif decide (i.ID≠h.2.1) then
      (need (decide ((d.length+[i].length)*64≤140737488355328∧d.length+[i].length≤maxLen)) <|
       o (d++[i]))
      else
      (o d)) fun(a6:(List Box))=>
     t a6)
    (fun(d:(List Box))=>
     r (d,h.2.2)) f.1 0 []))
  (fun(f:(List Box)×(Ha Int Int))=>
   bnd (Rd8 calls) fun j=>
   need (decide (24*j≤281474976710656∧j≤maxLen∧j*1≤16777216)) <|
   some ([],(J26.mk (List.replicate j ([]:List G1)) []))) p.toNat 0 (a.1,a.2)) (l.take m6) 0 ([],(Ha.empty:Ha Int Int))
abbrev Kf:List AV:=[LS 1 (E1) ([]:List (List G1)),LS 1 (E2) ([]:List (List Int))]
theorem Hb8 (F:Nat) (s:Gj) (l:List H8) (calls:Int) (most:Int) (r:(List Box)×J26) (h:Zd F s l calls most=some r):Pure En 29 [.agg (Gj.cs s),Ec l,I64 calls,I64 most] (·=.tup [E8 r.1,.agg [LS 1 (E1) r.2.States,LS 1 (E2) r.2.Water]]):=by
 unfold Zd at h
 refine Gz [.tmp 8,.cell 9 41] Tryz.func29 O O (Jr fun j3=>(JLh (.ptr 1043 0) (Q6 (cs:=(Gj.cs s)) 1043 O O O O O) O (JLh (E8 ([]:List Box)) (Jd 9 O O) O (JLh (.ptr 1044 0) (G10 1044 Kf [.slice none 0 0,.slice none 0 0] H2e ⟨.inr ⟨_,O,O⟩,.inr ⟨_,O,O⟩,ø⟩ O O) O (G6 (j3 ?_))))))
 refine fzQ [(1,Ec l),(2,I64 calls),(3,I64 most),(4,Ee s),(9,.ptr 1044 0)] [(1044,.box 41 Kf)] 1043 rfl rfl rfl ⟨⟨_,rfl,.boxEq rfl rfl⟩,ø⟩ rfl (Jr fun j4=>(JLh (OW 1045 9 Box.av ([]:List Box)) (H69 1045 103 9 O O O) O (G6 (j4 (Jr fun j5=>(JLh (.mp 1051) (Hb5 1051 Ks I64 O O) O (JLm (.mp 1051) O (G6 (j5 (Js fun j6=>Jr fun j7=>(JLm (Ec l) O (JLm (Ec l) O (JLl Hbf O O O fun k2=>(JLm (I64 most) O (JLh (I64 (min (l.length:Int) most)) (Z37 O O O) O ?_)))))))))))))))
 obtain⟨z,j8,h⟩:=Gd h
 refine JLh (Ec (l.take z)) (J2c (f:=H8.av) (xs:=l) O O O Hbf (H36 j8)) O (JLl Hbf O O O fun a6=>(JLm (I64 0) O (G6 (j7 (Gq ?_)))))
 obtain⟨h7,c6,c7,c1,h⟩:=Je h
 refine Hm (fun o (b:(List Box)×(Ha Int Int))=>each h7 c6 (List.drop o (l.take z)) o b=some r) (fun o b=>[(2,I64 calls),(4,Ee s),(9,.ptr 1044 0),(10,OW 1045 9 Box.av b.1),(11,.mp 1051),(26,Ec (l.take z)),(27,I64 ((l.take z).length:Int)),(28,Em o)]) (fun o b=>[(1045,.spare 103 9 b.1.length b.1.length),(1051,MP 92 Ks I64 b.2),(1044,.box 41 Kf)]) (fun o=>(l.take z).length - o) 0 ([],(Ha.empty:Ha Int Int)) h ⟨(.sm O O),⟨⟨_,rfl,.same⟩,fmQ O,fbQ O (.sm O O),ø⟩,rfl⟩ ?_
 clear h
 intro o b a7 k3 h8
 refine Jr fun c8=>(JLh (BL (decide ((o:Int) < ((l.take z).length:Int)))) (Jn O O O) O (G6 (c8 (Js fun c9=>Gp O (fun hb=>?_) (fun hb=>?_)))))
 ·
  have a3:=Jz hb
  obtain⟨d,j9,d0,d1,h⟩:=Hv a7 a3
  replace h:=Zm c7 h
  refine Gk (c9 (Js fun d2=>Gq (Jr fun d3=>(JLm (Em o) O (JLh (.dptr (H8.cs d)) (Hb (f:=H8.av) (xs:=(l.take z)) (y:=d) O O O Hbf d0 O) O (JLh (.agg (H8.cs d)) (Gm Y3e O O O) O (JLh (.ptr 1046 0) (Hj 1046 6 R63 O O) O (JLm (Em o) O (Hq (u:=.junk) (H7 (u:=.agg (H8.cs d)) (ds:=[U8 d.G3,U8 d.Kilos,U8 d.Load,U8 d.Stay,BL d.Small,BL d.High]) Ra2 O O O O O O O O) (G6 (d3 ?_)))))))))))
  refine fzQ [(2,I64 calls),(4,Ee s),(9,.ptr 1044 0),(10,OW 1045 9 Box.av b.1),(11,.mp 1051),(12,Em o),(13,.dptr (H8.cs d)),(26,Ec (l.take z)),(27,I64 ((l.take z).length:Int)),(28,Em o)] [(1045,.spare 103 9 b.1.length b.1.length),(1051,MP 92 Ks I64 b.2),(1044,.box 41 Kf)] 1046 rfl rfl rfl ⟨⟨_,rfl,.same⟩,fmQ O,⟨_,rfl,.boxEq rfl rfl⟩,ø⟩ rfl (Js fun d4=>?_)
  refine Qn (l':=[(2,I64 calls),(4,Ee s),(9,.ptr 1044 0),(10,OW 1045 9 Box.av b.1),(11,.mp 1051),(12,Em o),(13,.dptr (H8.cs d)),(26,Ec (l.take z)),(27,I64 ((l.take z).length:Int)),(28,Em o)]) (L':=[(1045,.spare 103 9 b.1.length b.1.length),(1051,MP 92 Ks I64 b.2),(1044,.box 41 Kf)]) ⟨(.sm O O),⟨⟨_,rfl,.same⟩,fmQ O,fbQ O (.sm O O),ø⟩,rfl⟩ ?_
  obtain⟨e,a8,h⟩:=Ht h
  obtain⟨h9,a9,h⟩:=Ht h
  obtain⟨i0,b0,h⟩:=Ht h
  obtain⟨k,b1,h⟩:=Ht h
  obtain⟨i1,b2,h⟩:=Ht h
  obtain⟨i2,b3,h⟩:=Ht h
  obtain⟨i,a4,h⟩:=Gd h
  refine Jm [17,18] (.replicate 19 0) [1,1,1,1,1,1,1,1,1,1,1,1,1,1,1,1,1,0,0] [[(1045,.spare 103 9 b.1.length b.1.length),(1051,MP 92 Ks I64 b.2),(1044,.box 41 Kf)],((1047,.box 103 [.junk,.junk,.junk,.junk,.junk,.junk,.junk,.junk,.junk])::[(1045,.spare 103 9 b.1.length b.1.length),(1051,MP 92 Ks I64 b.2),(1044,.box 41 Kf)]),((1047,.box 103 [I64 e,ST M0,U8 40,BL d.High,I64 k,I64 i,I64 0,U8 0,BL false])::((1047,.box 103 [.junk,.junk,.junk,.junk,.junk,.junk,.junk,.junk,.junk])::[(1045,.spare 103 9 b.1.length b.1.length),(1051,MP 92 Ks I64 b.2),(1044,.box 41 Kf)]))] J1 (by kernel_rfl) rfl rfl ?_
  refine Gc (u:=Em o) O O ⟨Gf (G5 O O) O,Gf (G5 O O) O,ø⟩ (Gc (u:=I64 ((o+1:Nat):Int)) O O ⟨Gf (J3 (Hp a3 a6) O O O) O,Gf (J3 (Hp a3 a6) O O O) O,ø⟩ (Gc (u:=I64 e) O O ⟨Gf (Jab a8 O O O) O,Gf (Jab a8 O O O) O,ø⟩ (Gc (u:=.dptr [BL d.High]) O O ⟨Gf (Ga J4a O O O) O,Gf (Ga J4a O O O) O,ø⟩ (Gc (u:=BL d.High) O O ⟨Gf (Gg Qe O O O) O,Gf (Gg Qe O O O) O,ø⟩ (Gc (u:=.dptr ((H8.cs d).drop 1)) O O ⟨Gf (Ga J4c O O O) O,Gf (Ga J4c O O O) O,ø⟩ (Gc (u:=U8 d.Kilos) O O ⟨Gf (Gg Hy O O O) O,Gf (Gg Hy O O O) O,ø⟩ (Gc (u:=I64 h9) O O ⟨Gf (G9c G22 G21 a9 O O) O,Gf (G9c G22 G21 a9 O O) O,ø⟩ (Gc (u:=I64 i0) O O ⟨Gf (Jab b0 O O O) O,Gf (Jab b0 O O O) O,ø⟩ (Gc (u:=I64 k) O O ⟨Gf (J3 b1 O O O) O,Gf (J3 b1 O O O) O,ø⟩ (Gc (u:=.dptr ((H8.cs d).drop 2)) O O ⟨Gf (Ga J4b O O O) O,Gf (Ga J4b O O O) O,ø⟩ (Gc (u:=U8 d.Load) O O ⟨Gf (Gg Hy O O O) O,Gf (Gg Hy O O O) O,ø⟩ (Gc (u:=I64 i1) O O ⟨Gf (G9c G22 G21 b2 O O) O,Gf (G9c G22 G21 b2 O O) O,ø⟩ (Gc (u:=I64 calls) O O ⟨Gf (G5 O O) O,Gf (G5 O O) O,ø⟩ ?_)))))))))))))
  refine Gc (u:=I64 i2) O O ⟨Gf (G62 b3 O O O) O,Gf (G62 b3 O O O) O,ø⟩ (Gc (u:=I64 i) O O ⟨Gf (J74 (R8 a4).1 (R8 a4).2 O O O) O,Gf (J74 (R8 a4).1 (R8 a4).2 O O O) O,ø⟩ (Gc (u:=.agg [I64 e,ST M0,U8 40,BL d.High,I64 k,I64 i,I64 0,U8 0,BL false]) O O ⟨Gf (Hi (cs:=[I64 e,ST M0,U8 40,BL d.High,I64 k,I64 i,I64 0,U8 0,BL false]) [(0,1),(1,1),(2,1),(3,1),(4,1),(5,1),(6,1),(7,1),(8,1)] [I64 0,ST M0,U8 0,BL false,I64 0,I64 0,I64 0,U8 0,BL false] [E0,.string ByteArray.empty,.int .u8 0,.bool false,E0,E0,E0,.int .u8 0,.bool false] G90 G75 (zzQ O) O O) O,Gf (Hi (cs:=[I64 e,ST M0,U8 40,BL d.High,I64 k,I64 i,I64 0,U8 0,BL false]) [(0,1),(1,1),(2,1),(3,1),(4,1),(5,1),(6,1),(7,1),(8,1)] [I64 0,ST M0,U8 0,BL false,I64 0,I64 0,I64 0,U8 0,BL false] [E0,.string ByteArray.empty,.int .u8 0,.bool false,E0,E0,E0,.int .u8 0,.bool false] G90 G75 (zzQ O) O O) O,ø⟩ (D_w (u:=.ptr 1047 0) O O O O (Gf (Hj 1047 9 R0 O O) O) (H22 (u:=.junk) O O O O (Gf (H7 (u:=.agg [I64 e,ST M0,U8 40,BL d.High,I64 k,I64 i,I64 0,U8 0,BL false]) (ds:=[I64 e,ST M0,U8 40,BL d.High,I64 k,I64 i,I64 0,U8 0,BL false]) Rs O O O O O O O O) O) (R4 ?_)))))
  refine d4 (Js fun d5=>Qn (l':=[(2,I64 calls),(4,Ee s),(9,.ptr 1044 0),(10,OW 1045 9 Box.av b.1),(11,.mp 1051),(13,.dptr (H8.cs d)),(14,.ptr 1047 0),(26,Ec (l.take z)),(27,I64 ((l.take z).length:Int)),(28,Em o)]) (L':=[(1045,.spare 103 9 b.1.length b.1.length),(1051,MP 92 Ks I64 b.2),(1044,.box 41 Kf),(1047,.box 103 [I64 e,ST M0,U8 40,BL d.High,I64 k,I64 i,I64 0,U8 0,BL false])]) ⟨(.sm O O),⟨⟨_,rfl,.same⟩,fmQ O,fbQ O (.sm O O),fbQ O (.sm O O),ø⟩,rfl⟩ ?_)
  obtain⟨i3,d6,h⟩:=Ht h
  obtain⟨i4,d7,h⟩:=Ht h
  obtain⟨i5,d8,h⟩:=Ht h
  obtain⟨i6,d9,h⟩:=Ht h
  obtain⟨i7,b4,h⟩:=Gd h
  obtain⟨q,e0,h⟩:=Ht h
  refine Jm [14] (.replicate 15 0) (.replicate 15 0) [[(1045,.spare 103 9 b.1.length b.1.length),(1051,MP 92 Ks I64 b.2),(1044,.box 41 Kf),(1047,.box 103 [I64 e,ST M0,U8 40,BL d.High,I64 k,I64 i,I64 0,U8 0,BL false])],((1047,.box 103 [I64 e,ST M0,U8 40,BL d.High,I64 k,I64 i,I64 q,U8 0,BL false])::[(1045,.spare 103 9 b.1.length b.1.length),(1051,MP 92 Ks I64 b.2),(1044,.box 41 Kf),(1047,.box 103 [I64 e,ST M0,U8 40,BL d.High,I64 k,I64 i,I64 0,U8 0,BL false])])] J1 (by kernel_rfl) rfl rfl ?_
  refine Gc (u:=.ptr 1047 5) O O ⟨Gf (J9 H0c O O) O,ø⟩ (Gc (u:=I64 i) O O ⟨Gf (J2 Gb O O O O) O,ø⟩ (Gc (u:=I64 i3) O O ⟨Gf (J3 d6 O O O) O,ø⟩ (Gc (u:=.dptr ((H8.cs d).drop 3)) O O ⟨Gf (Ga Q9c O O O) O,ø⟩ (Gc (u:=U8 d.Stay) O O ⟨Gf (Gg Hy O O O) O,ø⟩ (Gc (u:=I64 i4) O O ⟨Gf (G9c G22 G21 d7 O O) O,ø⟩ (Gc (u:=I64 calls) O O ⟨Gf (G5 O O) O,ø⟩ (Gc (u:=I64 i5) O O ⟨Gf (G62 d8 O O O) O,ø⟩ (Gc (u:=.ptr 1047 5) O O ⟨Gf (J9 H0c O O) O,ø⟩ (Gc (u:=I64 i) O O ⟨Gf (J2 Gb O O O O) O,ø⟩ (Gc (u:=I64 i6) O O ⟨Gf (G62 d9 O O O) O,ø⟩ (Gc (u:=I64 i7) O O ⟨Gf (J74 (R8 b4).1 (R8 b4).2 O O O) O,ø⟩ (Gc (u:=I64 q) O O ⟨Gf (J3 e0 O O O) O,ø⟩ (Gc (u:=.ptr 1047 6) O O ⟨Gf (J9 H8d O O) O,ø⟩ ?_)))))))))))))
  refine H22 (u:=.junk) O O O O (Gf (H7 (u:=I64 q) (ds:=[I64 e,ST M0,U8 40,BL d.High,I64 k,I64 i,I64 q,U8 0,BL false]) G63 O O O O O O O O) O) (R4 (d5 ?_))
  obtain⟨e1,c2,h⟩:=Rc h
  refine Qk (fun j:Int×Bool=>e1 j=some r) (fun j=>[(2,I64 calls),(4,Ee s),(9,.ptr 1044 0),(10,OW 1045 9 Box.av b.1),(11,.mp 1051),(13,.dptr (H8.cs d)),(14,.ptr 1047 0),(26,Ec (l.take z)),(27,I64 ((l.take z).length:Int)),(28,Em o)]) (fun j=>[(1045,.spare 103 9 b.1.length b.1.length),(1051,MP 92 Ks I64 b.2),(1044,.box 41 Kf),(1047,.box 103 [I64 e,ST M0,U8 j.1,BL j.2,I64 k,I64 i,I64 q,U8 0,BL false])]) (fun Kj139 ej139=>?_) ?_
  ·
   refine Jr fun e2=>(JLh (.dptr [BL d.Small,BL d.High]) (Ga Q9b O O O) O (JLh (BL d.Small) (Gg Qe O O O) O (G6 (e2 (JCc O h (fun h hb=>?_) (fun h hb=>?_))))))
   ·
    refine G2 (JLh (.ptr 1047 2) (J9 G35 O O) O (Hq (u:=.junk) (H7 (u:=U8 20) (ds:=[I64 e,ST M0,U8 20,BL d.High,I64 k,I64 i,I64 q,U8 0,BL false]) Yb3 O O O O O O O O) (JLh (.ptr 1047 3) (J9 H8e O O) O (Hq (u:=.junk) (H7 (u:=BL false) (ds:=[I64 e,ST M0,U8 20,BL false,I64 k,I64 i,I64 q,U8 0,BL false]) R2a O O O O O O O O) (G6 (ej139 _ _ (20,false) h ⟨(.sm O O),⟨⟨_,rfl,.same⟩,fmQ O,fbQ O (.sm O O),fbQ O (.sm O O),ø⟩,rfl⟩))))))
   ·
    refine Gk (ej139 _ _ (40,d.High) h ⟨(.sm O O),⟨⟨_,rfl,.same⟩,fmQ O,fbQ O (.sm O O),fbQ O (.sm O O),ø⟩,rfl⟩)
  ·intro j h
   replace h:=app1 c2 h
   refine Js fun e3=>Qn (l':=[(2,I64 calls),(4,Ee s),(9,.ptr 1044 0),(10,OW 1045 9 Box.av b.1),(11,.mp 1051),(13,.dptr (H8.cs d)),(14,.ptr 1047 0),(26,Ec (l.take z)),(27,I64 ((l.take z).length:Int)),(28,Em o)]) (L':=[(1045,.spare 103 9 b.1.length b.1.length),(1051,MP 92 Ks I64 b.2),(1044,.box 41 Kf),(1047,.box 103 [I64 e,ST M0,U8 j.1,BL j.2,I64 k,I64 i,I64 q,U8 0,BL false])]) ⟨(.sm O O),⟨⟨_,rfl,.same⟩,fmQ O,fbQ O (.sm O O),fbQ O (.sm O O),ø⟩,rfl⟩ ?_
   obtain⟨i8,e4,h⟩:=Ht h
   obtain⟨a5,b5,h⟩:=Gd h
   refine Jm [10] [0,0,0,0,0,0,0,0,0,0,0] [0,0,0,0,0,0,0,0,0,0,0] [[(1045,.spare 103 9 b.1.length b.1.length),(1051,MP 92 Ks I64 b.2),(1044,.box 41 Kf),(1047,.box 103 [I64 e,ST M0,U8 j.1,BL j.2,I64 k,I64 i,I64 q,U8 0,BL false])],((1051,MP 92 Ks I64 (Ha.put b.2 e a5))::[(1045,.spare 103 9 b.1.length b.1.length),(1051,MP 92 Ks I64 b.2),(1044,.box 41 Kf),(1047,.box 103 [I64 e,ST M0,U8 j.1,BL j.2,I64 k,I64 i,I64 q,U8 0,BL false])])] J1 (by kernel_rfl) rfl rfl ?_
   refine Gc (u:=.mp 1051) O O ⟨Gf (G5 O O) O,ø⟩ (Gc (u:=.ptr 1047 0) O O ⟨Gf (J9 Qu O O) O,ø⟩ (Gc (u:=I64 e) O O ⟨Gf (J2 Gb O O O O) O,ø⟩ (Gc (u:=.dptr (H8.cs d)) O O ⟨Gf (Ga Q9d O O O) O,ø⟩ (Gc (u:=U8 d.G3) O O ⟨Gf (Gg Hy O O O) O,ø⟩ (Gc (u:=I64 i8) O O ⟨Gf (G9c G22 G21 e4 O O) O,ø⟩ (Gc (u:=Ee s) O O ⟨Gf (Ga Jc O O O) O,ø⟩ (Gc (u:=E3 s.Columns) O O ⟨Gf (Gg Jv O O O) O,ø⟩ (Gc (u:=Em s.Columns.length) O O ⟨Gf (Gf6 (f:=G3.av) (xs:=s.Columns) Hz O O) O,ø⟩ (Gc (u:=I64 a5) O O ⟨Gf (J74 (R8 b5).1 (R8 b5).2 O O O) O,ø⟩ (H22 (u:=.junk) O O O O (Gf (J2e (m:=b.2) (a:=e) (v:=a5) O O O O O O J92 Gf8) O) (R4 ?_)))))))))))
   refine e3 (fzQ [(2,I64 calls),(4,Ee s),(9,.ptr 1044 0),(10,OW 1045 9 Box.av b.1),(11,.mp 1051),(14,.dptr [I64 e,ST M0,U8 j.1,BL j.2,I64 k,I64 i,I64 q,U8 0,BL false]),(26,Ec (l.take z)),(27,I64 ((l.take z).length:Int)),(28,Em o)] [(1045,.spare 103 9 b.1.length b.1.length),(1051,MP 92 Ks I64 (Ha.put b.2 e a5)),(1044,.box 41 Kf)] 1047 rfl rfl rfl ⟨⟨_,rfl,.same⟩,fmQ O,⟨_,rfl,.boxEq rfl rfl⟩,ø⟩ rfl (G2 ?_))
   refine JLm (OW 1045 9 Box.av b.1) O (JLh (.agg [I64 e,ST M0,U8 j.1,BL j.2,I64 k,I64 i,I64 q,U8 0,BL false]) (Gm Ra O O O) O (JLh (E8 [(Box.mk e ByteArray.empty j.1 j.2 k i q 0 false)]) (He (xs:=[.agg [I64 e,ST M0,U8 j.1,BL j.2,I64 k,I64 i,I64 q,U8 0,BL false]]) O ⟨O,O,ø⟩ Y7 R0 O O O O) O ?_))
   obtain⟨e5,h⟩:=Jf h
   refine JLh (OW 1045 9 Box.av (b.1++[(Box.mk e ByteArray.empty j.1 j.2 k i q 0 false)])) (Yo (f:=Box.av) (xs:=b.1) (ys:=[(Box.mk e ByteArray.empty j.1 j.2 k i q 0 false)]) O O O O Y7 Q42 e5 (fun _=>O) (.inl O) O) O (JLm (OW 1045 9 Box.av (b.1++[(Box.mk e ByteArray.empty j.1 j.2 k i q 0 false)])) O (G6 (d2 (G2 (JLh (I64 ((o+1:Nat):Int)) (J3 (Hp a3 a6) O O O) O (JLm (I64 ((o+1:Nat):Int)) O (G6 (h8 _ _ (o+1) ((b.1++[(Box.mk e ByteArray.empty j.1 j.2 k i q 0 false)]),(Ha.put b.2 e a5)) (app1 d1 h) (by omega) ⟨(.sm O O),⟨⟨_,rfl,.same⟩,fmQ O,fbQ O (.sm O O),ø⟩,rfl⟩))))))))
 ·
  have h:=app1 c1 (Hw a7 (Hf hb))
  refine Hr (j6 (Js fun e6=>Jr fun e7=>(JLm (OW 1045 9 Box.av b.1) O (JLl Y7 O O O fun k4=>?_))))
  obtain⟨a0,e8,h⟩:=Ht h
  refine JLh (I64 a0) (J3 e8 O O O) O (JLm (I64 0) O (G6 (e7 (Gq ?_))))
  obtain⟨e9,h⟩:=Jf h
  obtain⟨i9,f0,f1,c3,h⟩:=J07 h
  refine Hm (fun t (g:(List Box)×(Ha Int Int))=>upto i9 f0 (a0.toNat - t) t g=some r) (fun t g=>[(2,I64 calls),(4,Ee s),(9,.ptr 1044 0),(10,E8 g.1),(11,.mp 1051),(85,I64 a0),(86,Em t)]) (fun t g=>[(1051,MP 92 Ks I64 g.2),(1044,.box 41 Kf)]) (fun t=>a0.toNat - t) 0 (b.1,b.2) h ⟨⟨.same O,.same O,.same O,.list O,.same O,.same O,.same O,ø⟩,⟨⟨_,O,.map⟩,⟨_,O,.boxL O (.sm O O)⟩,ø⟩,O⟩ ?_
  clear h
  intro t g b6 k5 j0
  refine Jr fun f2=>(JLh (BL (decide ((t:Int) < a0))) (Jn O O O) O (G6 (f2 (Js fun f3=>Gp O (fun hb=>?_) (fun hb=>?_)))))
  ·
   have b7:=H9a hb
   obtain⟨k0,f4,h⟩:=H89 b6 b7
   replace h:=Jc7 f1 h
   refine Gk (f3 (Js fun f5=>Gq (Jr fun f6=>(JLh (.agg (Gj.cs s)) (Gm J8 O O O) O (JLm (E8 g.1) O (JLm (.mp 1051) O (JLm (I64 calls) O ?_)))))))
   obtain⟨c,f7,h⟩:=Gd h
   refine JLh (.tup [.agg [LS 1 (E1) c.1.States,LS 1 (E2) c.1.Water],I64 c.2.1]) (Y1 (args:=[.agg (Gj.cs s),E8 g.1,.mp 1051,I64 calls]) (L0:=[(1051,MP 92 Ks I64 g.2)]) (Lr:=[(1051,MP 92 Ks I64 c.2.2)]) O (Gf2 F s g.1 g.2 calls c f7) Y28 ⟨.inl O,O,.inl O,O,.inl O,O,.inl O,O,ø⟩ ⟨O,ø⟩ O O O) O (JLm (.tup [.agg [LS 1 (E1) c.1.States,LS 1 (E2) c.1.Water],I64 c.2.1]) O (JLh (.agg [LS 1 (E1) c.1.States,LS 1 (E2) c.1.Water]) (Gv O O O) O (JLh (I64 c.2.1) (Gv O O O) O (JLh (.ptr 1048 0) (Hj 1048 2 H58 O O) O (Hq (u:=.junk) (H7 (u:=.agg [LS 1 (E1) c.1.States,LS 1 (E2) c.1.Water]) (ds:=[LS 1 (E1) c.1.States,LS 1 (E2) c.1.Water]) G56 O O O O O O O O) (JLm (I64 c.2.1) O (G6 (f6 ?_))))))))
   refine fzQ [(2,I64 calls),(4,Ee s),(9,.ptr 1044 0),(10,E8 g.1),(11,.mp 1051),(15,.dptr [LS 1 (E1) c.1.States,LS 1 (E2) c.1.Water]),(16,I64 c.2.1),(85,I64 a0),(86,Em t)] [(1051,MP 92 Ks I64 c.2.2),(1044,.box 41 Kf)] 1048 rfl rfl rfl ⟨fmQ O,⟨_,rfl,.boxEq rfl rfl⟩,ø⟩ rfl (Js fun f8=>Jr fun f9=>(JLm (I64 c.2.1) O (JLh (BL (decide (c.2.1=0))) (Qg O O O) O (G6 (f9 (JCc O h (fun h hb=>?_) (fun h hb=>?_)))))))
   ·
    refine Js fun g0=>Qn (l':=[(9,.ptr 1044 0),(10,E8 g.1),(15,.dptr [LS 1 (E1) c.1.States,LS 1 (E2) c.1.Water])]) (L':=[(1051,MP 92 Ks I64 c.2.2),(1044,.box 41 Kf)]) ⟨(.sm O O),⟨⟨_,O,.map⟩,⟨_,O,.boxL O (.sm O O)⟩,ø⟩,O⟩ ?_
    refine Jm [3] [0,0,0,0] [0,0,0,0] [[(1051,MP 92 Ks I64 c.2.2),(1044,.box 41 Kf)],((1044,.box 41 [LS 1 (E1) c.1.States,LS 1 (E2) c.1.Water])::[(1051,MP 92 Ks I64 c.2.2),(1044,.box 41 Kf)])] J1 (by kernel_rfl) rfl rfl ?_
    refine Gc (u:=E8 g.1) O O ⟨Gf (G5 O O) O,ø⟩ (Gc (u:=.agg [LS 1 (E1) c.1.States,LS 1 (E2) c.1.Water]) O O ⟨Gf (Gm Gc0 O O O) O,ø⟩ (Gc (u:=E8 g.1) O O ⟨Gf (G7 O O) O,ø⟩ (H22 (u:=.junk) O O O O (Gf (H7 (u:=.agg [LS 1 (E1) c.1.States,LS 1 (E2) c.1.Water]) (ds:=[LS 1 (E1) c.1.States,LS 1 (E2) c.1.Water]) G56 O O O O O O O O) O) (R4 (g0 (Gs (⟨[E8 g.1,.agg [LS 1 (E1) c.1.States,LS 1 (E2) c.1.Water]],[],ø,O,⟨⟨_,O,.conv (.same O)⟩,⟨_,⟨_,_,_,_,O,O,O,.inl ⟨Gc0,O⟩⟩,.conv (.same O)⟩,ø⟩,O,congrArg (fun r:(List Box)×J26=>(.tup [E8 r.1,.agg [LS 1 (E1) r.2.States,LS 1 (E2) r.2.Water]]:AV)) (M8 h)⟩)))))))
   ·
    refine Gk (f8 (Jr fun g1=>(JLh (OW 1049 9 Box.av ([]:List Box)) (H69 1049 103 9 O O O) O (G6 (g1 (Js fun g2=>Jr fun g3=>(JLm (E8 g.1) O (JLl Y7 O O O fun g4=>(JLm (I64 0) O (G6 (g3 (Gq ?_))))))))))))
    obtain⟨j1,g5,g6,c4,h⟩:=Je h
    refine Hm (fun x (p:(List Box))=>each j1 g5 (List.drop x g.1) x p=some r) (fun x p=>[(2,I64 calls),(4,Ee s),(9,.ptr 1044 0),(11,.mp 1051),(16,I64 c.2.1),(17,OW 1049 9 Box.av p),(85,I64 a0),(86,Em t),(100,E8 g.1),(101,Em g.1.length),(102,Em x)]) (fun x p=>[(1051,MP 92 Ks I64 c.2.2),(1049,.spare 103 9 p.length p.length),(1044,.box 41 Kf)]) (fun x=>g.1.length - x) 0 [] h ⟨(.sm O O),⟨fmQ O,⟨_,rfl,.same⟩,fbQ O (.sm O O),ø⟩,rfl⟩ ?_
    clear h
    intro x p b8 k6 j2
    refine Jr fun g7=>(JLh (BL (decide ((x:Int) < (g.1.length:Int)))) (Jn O O O) O (G6 (g7 (Js fun g8=>Gp O (fun hb=>?_) (fun hb=>?_)))))
    ·
     have b9:=Jz hb
     obtain⟨w,k1,g9,h0,h⟩:=Hv b8 b9
     replace h:=Zm g6 h
     refine Gk (g8 ?_)
     obtain⟨h1,c5,h⟩:=Rc h
     refine Qk (fun a1:(List Box)=>h1 a1=some r) (fun a1=>[(2,I64 calls),(4,Ee s),(9,.ptr 1044 0),(11,.mp 1051),(16,I64 c.2.1),(17,OW 1049 9 Box.av a1),(85,I64 a0),(86,Em t),(100,E8 g.1),(101,Em g.1.length),(102,Em x)]) (fun a1=>[(1051,MP 92 Ks I64 c.2.2),(1049,.spare 103 9 a1.length a1.length),(1044,.box 41 Kf)]) (fun Kj177 ej177=>?_) ?_
     ·
      refine Gq (Jr fun h2=>(JLh (Ei w) (Hb (f:=Box.av) (xs:=g.1) (y:=w) O O O Y7 g9 O) O (JLh (.agg (Box.cs w)) (Gm Ra O O O) O (JLh (.ptr 1050 0) (Hj 1050 9 R0 O O) O (Hq (u:=.junk) (H7 (u:=.agg (Box.cs w)) (ds:=(Box.cs w)) Rs O O O O O O O O) (G6 (h2 ?_)))))))
      refine fzQ [(2,I64 calls),(4,Ee s),(9,.ptr 1044 0),(11,.mp 1051),(16,I64 c.2.1),(17,OW 1049 9 Box.av p),(19,Ei w),(85,I64 a0),(86,Em t),(100,E8 g.1),(101,Em g.1.length),(102,Em x)] [(1051,MP 92 Ks I64 c.2.2),(1049,.spare 103 9 p.length p.length),(1044,.box 41 Kf)] 1050 rfl rfl rfl ⟨fmQ O,⟨_,rfl,.same⟩,⟨_,rfl,.boxEq rfl rfl⟩,ø⟩ rfl ?_
      refine Jr fun h3=>(JLh (Ei w) (Ga Qu O O O) O (JLh (I64 w.ID) (Gg Gb O O O) O (JLm (I64 c.2.1) O (JLh (BL (decide (w.ID≠c.2.1))) (G8e O O O) O (G6 (h3 (JCc O h (fun h hb=>?_) (fun h hb=>?_))))))))
      ·
       refine G2 (JLm (OW 1049 9 Box.av p) O (JLh (.agg (Box.cs w)) (Gm Ra O O O) O (JLh (E8 [w]) (He (xs:=[.agg (Box.cs w)]) O ⟨O,O,ø⟩ Y7 R0 O O O O) O ?_)))
       obtain⟨h4,h⟩:=Jf h
       refine JLh (OW 1049 9 Box.av (p++[w])) (Yo (f:=Box.av) (xs:=p) (ys:=[w]) O O O O Y7 Q42 h4 (fun _=>O) (.inl O) O) O (JLm (OW 1049 9 Box.av (p++[w])) O (G6 (ej177 _ _ (p++[w]) h ⟨(.sm O O),⟨fmQ O,⟨_,rfl,.same⟩,fbQ O (.sm O O),ø⟩,rfl⟩)))
      ·
       refine Gk (ej177 _ _ p h ⟨(.sm O O),⟨fmQ O,⟨_,rfl,.same⟩,fbQ O (.sm O O),ø⟩,rfl⟩)
     ·intro a1 h
      replace h:=app1 c5 h
      refine G2 (JLh (I64 ((x+1:Nat):Int)) (J3 (Hp b9 g4) O O O) O (JLm (I64 ((x+1:Nat):Int)) O (G6 (j2 _ _ (x+1) a1 (app1 h0 h) (by omega) ⟨(.sm O O),⟨fmQ O,⟨_,rfl,.same⟩,fbQ O (.sm O O),ø⟩,rfl⟩))))
    ·
     have h:=app1 c4 (Hw b8 (Hf hb))
     refine Hr (g2 (G2 (JLm (OW 1049 9 Box.av p) O (JLm (OW 1049 9 Box.av p) O (G6 (f5 (G2 (JLh (I64 ((t+1:Nat):Int)) (J3 (Hp b7 (H2d e9)) O O O) O (JLm (I64 ((t+1:Nat):Int)) O (G6 (j0 _ _ (t+1) (p,c.2.2) (app1 f4 h) (by omega) ⟨⟨.same rfl,.same rfl,.same rfl,.list rfl,.same rfl,.same rfl,.same rfl,ø⟩,⟨fmQ O,fbQ O (.sm O O),ø⟩,rfl⟩)))))))))))
  ·
   have h:=app1 c3 (H8a b6 (G7d hb))
   refine Hr (e6 (Js fun h5=>Qn (l':=[(2,I64 calls),(9,.ptr 1044 0)]) (L':=[(1051,MP 92 Ks I64 g.2),(1044,.box 41 Kf)]) ⟨(.sm O O),⟨⟨_,O,.map⟩,⟨_,O,.boxL O (.sm O O)⟩,ø⟩,O⟩ ?_))
   obtain⟨a2,c0,h⟩:=Gd h
   obtain⟨h6,h⟩:=Jf h
   refine Jm [4] [0,0,0,0,0] [0,0,0,0,0] [[(1051,MP 92 Ks I64 g.2),(1044,.box 41 Kf)],((1044,.box 41 [LS 1 (E1) (List.replicate a2 ([]:List G1)),LS 1 (E2) ([]:List (List Int))])::[(1051,MP 92 Ks I64 g.2),(1044,.box 41 Kf)])] J1 (by kernel_rfl) rfl rfl ?_
   refine Gc (u:=I64 calls) O O ⟨Gf (G5 O O) O,ø⟩ (Gc (u:=LS 1 (E1) (List.replicate a2 ([]:List G1))) O O ⟨Gf (Z38 (f:=(E1)) (n:=a2) [] [.slice none 0 0] O O O Ju Qa2 Y10 (R3e c0) (R3e c0) h6 ⟨.inr ⟨_,O,O⟩,ø⟩ O) O,ø⟩ (Gc (u:=.agg [LS 1 (E1) (List.replicate a2 ([]:List G1)),LS 1 (E2) ([]:List (List Int))]) O O ⟨Gf (Hi (cs:=[LS 1 (E1) (List.replicate a2 ([]:List G1)),LS 1 (E2) ([]:List (List Int))]) [(0,1),(1,1)] Kf [.slice none 0 0,.slice none 0 0] Jd7 H2e ⟨.inr ⟨_,O,O⟩,.inr ⟨_,O,O⟩,ø⟩ O O) O,ø⟩ (Gc (u:=E8 ([]:List Box)) O O ⟨Gf (Jd 9 O O) O,ø⟩ (H22 (u:=.junk) O O O O (Gf (H7 (u:=.agg [LS 1 (E1) (List.replicate a2 ([]:List G1)),LS 1 (E2) ([]:List (List Int))]) (ds:=[LS 1 (E1) (List.replicate a2 ([]:List G1)),LS 1 (E2) ([]:List (List Int))]) G56 O O O O O O O O) O) (R4 ?_)))))
   refine h5 (Gs (⟨[E8 ([]:List Box),.agg [LS 1 (E1) (List.replicate a2 ([]:List G1)),LS 1 (E2) ([]:List (List Int))]],[],ø,O,⟨⟨_,O,.conv (.same O)⟩,⟨_,⟨_,_,_,_,O,O,O,.inl ⟨Gc0,O⟩⟩,.conv (.same O)⟩,ø⟩,O,congrArg (fun r:(List Box)×J26=>(.tup [E8 r.1,.agg [LS 1 (E1) r.2.States,LS 1 (E2) r.2.Water]]:AV)) (M8 h)⟩))

def Ge2 (x:G1) (a:Int):Option Bool:=
 some (decide (x.Box=a))
theorem Q81 (x:G1) (a:Int) (r:Bool) (h:Ge2 x a=some r):Pure En 118 [.agg (G1.cs x),.dptr [I64 a]] (·=BL r):=by
 unfold Ge2 at h
 refine Gz [.tmp 3] Tryz.func118 O O (Jr fun b=>(JLh (.ptr 1189 0) (Q6 (cs:=[I64 x.Box,I64 x.Slot.G3,I64 x.Slot.Tier,U8 x.Slot.Half]) 1189 O O O O O) O (JLm (BL false) O (G6 (b (Gr [(1,.dptr [I64 a]),(2,Eh x)] [] 1189 rfl rfl rfl ø rfl (by exact⟨.conv (.same rfl),.ptr,ø⟩) (Jr fun c=>(JLh (Eh x) (Ga Ja O O O) O (JLh (I64 x.Box) (Gg Gb O O O) O (JLh (I64 a) (Gg Gb O O O) O (JLh (BL (decide (x.Box=a))) (Qg O O O) O (JLm (BL (decide (x.Box=a))) O (G6 (c (Gs (fin1 BL h))))))))))))))))
end
end Go.Proofs.YtgcpimpnpcdmmaaGreat
