/- Walks of functions. -/
import Derived.Test.YtgcpimpnpcdmmaaGreatSpecU
set_option maxRecDepth 100000
set_option maxHeartbeats 1000000
set_option linter.unusedVariables false
set_option linter.unusedSimpArgs false
namespace Go.Proofs.YtgcpimpnpcdmmaaGreat
open Go.RowKit
noncomputable section
structure Hd where
 Bay:Int
 Row:Int
 Tiers:Int
 Deck:Bool
 deriving DecidableEq,Inhabited
def Hd.cs (x:Hd):List AV:=[U8 x.Bay,U8 x.Row,U8 x.Tiers,BL x.Deck]
def Hd.av (x:Hd):AV:=.agg x.cs
abbrev Ed:=LS 4 Hd.av
structure H9 where
 G3:Int
 Kilos:Int
 Load:Int
 Stay:Int
 Small:Bool
 High:Bool
 deriving DecidableEq,Inhabited
def H9.cs (x:H9):List AV:=[U8 x.G3,U8 x.Kilos,U8 x.Load,U8 x.Stay,BL x.Small,BL x.High]
def H9.av (x:H9):AV:=.agg x.cs
abbrev Ec:=LS 6 H9.av
structure J13 where
 States:List (List G1)
 Water:List (List Int)
 deriving DecidableEq,Inhabited
def J13.cs (x:J13):List AV:=[LS 1 (E1) x.States,LS 1 (E2) x.Water]
def J13.av (x:J13):AV:=.agg x.cs
namespace XVF
open XAF
open XCF
open XSF
open XKF
open XTF
open XUF
theorem Y32:H35 En 120 4=true:=by kernel_rfl
theorem Y31:H35 En 124 6=true:=by kernel_rfl
theorem Gb5:H35 En 41 2=true:=by kernel_rfl
theorem Rb8:H0 En 100=true:=by kernel_rfl
theorem Rb7:H0 En 101=true:=by kernel_rfl
theorem Rad:H0 En 118=true:=by kernel_rfl
theorem Ra6:H0 En 138=true:=by kernel_rfl
theorem R9d:H0 En 162=true:=by kernel_rfl
theorem Y2b:H0 En 28=true:=by kernel_rfl
theorem Y2a:H0 En 29=true:=by kernel_rfl
theorem Y28:H0 En 32=true:=by kernel_rfl
theorem Y1d:H0 En 53=true:=by kernel_rfl
theorem Y1c:H0 En 54=true:=by kernel_rfl
theorem Ja0:H0 En 67=true:=by kernel_rfl
theorem Y18:H0 En 68=true:=by kernel_rfl
theorem J9f:H0 En 69=true:=by kernel_rfl
theorem Y09:H0 En 97=true:=by kernel_rfl
theorem Y08:H0 En 98=true:=by kernel_rfl
theorem Q96:H0 En 99=true:=by kernel_rfl
theorem Q33:Z9 En 103 9 64=true:=by kernel_rfl
theorem Q95:Z9 En 44 1 24=true:=by kernel_rfl
theorem H06:Ju En 103 5 5=true:=by kernel_rfl
theorem H81:Ju En 103 6 6=true:=by kernel_rfl
theorem Q93:Ju En 120 0 0=true:=by kernel_rfl
theorem Q92:Ju En 120 1 1=true:=by kernel_rfl
theorem Q91:Ju En 120 2 2=true:=by kernel_rfl
theorem Q90:Ju En 120 3 3=true:=by kernel_rfl
theorem Q8f:Ju En 124 0 0=true:=by kernel_rfl
theorem J3b:Ju En 124 1 1=true:=by kernel_rfl
theorem J3a:Ju En 124 2 2=true:=by kernel_rfl
theorem Q8e:Ju En 124 3 3=true:=by kernel_rfl
theorem Q8d:Ju En 124 4 4=true:=by kernel_rfl
theorem J39:Ju En 124 5 5=true:=by kernel_rfl
theorem Zc:Ju En 41 0 0=true:=by kernel_rfl
theorem G39:J7f En 3 .i64=true:=by kernel_rfl
theorem G38:J7f En 5 .u8=true:=by kernel_rfl
theorem Q87:Zb En 140 3 182=true:=by kernel_rfl
theorem Q86:Zb En 163 3 57=true:=by kernel_rfl
theorem Hc7:placesOf En 100=some [(0,1),(1,1)]:=by kernel_rfl
theorem R0a:placesOf En 182=some []:=by kernel_rfl
theorem Jc4:placesOf En 41=some [(0,1),(1,1)]:=by kernel_rfl
theorem G6f:placesOf En 97=some [(0,1),(1,1),(2,1),(3,1),(4,1),(5,1),(6,1),(7,1),(8,1),(9,1),(10,1),(11,1)]:=by kernel_rfl
theorem R09:R5 En 140=true:=by kernel_rfl
theorem Hc6:R5 En 141=true:=by kernel_rfl
theorem Ys:R5 En 38=true:=by kernel_rfl
theorem Ze:R5 En 44=true:=by kernel_rfl
theorem R9a:Y7 En 120 4=true:=by kernel_rfl
theorem R99:Y7 En 124 6=true:=by kernel_rfl
theorem R98:Y7 En 140 1=true:=by kernel_rfl
theorem R97:Y7 En 141 1=true:=by kernel_rfl
theorem R96:Y7 En 182 0=true:=by kernel_rfl
theorem Q85:Y7 En 26 1=true:=by kernel_rfl
theorem Q84:Y7 En 27 1=true:=by kernel_rfl
theorem Q83:Y7 En 38 1=true:=by kernel_rfl
theorem G6c:Y7 En 41 2=true:=by kernel_rfl
theorem Ya3:Y7 En 5 1=true:=by kernel_rfl
theorem Hb1:sliceB En 22 120 4=true:=by kernel_rfl
theorem Hb0:sliceB En 24 124 6=true:=by kernel_rfl
theorem Jz:sliceB En 38 44 1=true:=by kernel_rfl
theorem J35:(En.info? 100).bind (fun i=>i.zero.map Value.cells)=some (List.toArray [E0,.slice none 0 0]):=by kernel_rfl
theorem R93:(En.info? 133).bind (fun i=>i.zero.map Value.cells)=some (List.toArray [.slice none 0 0]):=by kernel_rfl
theorem R92:(En.info? 182).bind (fun i=>i.zero.map Value.cells)=some (List.toArray []):=by kernel_rfl
theorem H26:(En.info? 41).bind (fun i=>i.zero.map Value.cells)=some (List.toArray [.slice none 0 0,.slice none 0 0]):=by kernel_rfl
theorem Y04:(En.info? 44).bind (fun i=>i.zero.map Value.cells)=some (List.toArray [.slice none 0 0]):=by kernel_rfl
theorem Y02:(En.info? 49).bind (fun i=>i.zero.map Value.cells)=some (List.toArray [.slice none 0 0]):=by kernel_rfl
theorem Ge2:(En.info? 97).bind (fun i=>i.zero.map Value.cells)=some (List.toArray [E0,E0,.bool false,E0,E0,E0,E0,E0,.slice none 0 0,E0,E0,E0]):=by kernel_rfl
theorem R5a:R1 En 120 4=true:=by kernel_rfl
theorem R59:R1 En 124 6=true:=by kernel_rfl
theorem R58:R1 En 140 1=true:=by kernel_rfl
theorem R57:R1 En 141 1=true:=by kernel_rfl
theorem R56:R1 En 182 0=true:=by kernel_rfl
theorem Haf:R1 En 36 13=true:=by kernel_rfl
theorem R91:R1 En 38 1=true:=by kernel_rfl
theorem Hae:R1 En 41 2=true:=by kernel_rfl
theorem Had:R1 En 44 1=true:=by kernel_rfl
theorem Ya2:(En.info? 182).bind (·.zero)=some (.agg #[]):=by kernel_rfl
theorem Ye2:(En.info? 57).bind (·.zero)=some (.agg #[E0,E0,.int .u8 0]):=by kernel_rfl
end XVF
open XAF
open XCF
open XSF
open XKF
open XTF
open XUF
open XVF

def H48 (c:G3) (a:Int) (b:Int) (d:Bool):Option Bool:=
 some (((decide (c.Bay=a))&&(decide (c.Row=b)))&&(c.Deck==d))
theorem Q6f (c:G3) (a:Int) (b:Int) (d:Bool) (r:Bool) (h:H48 c a b d=some r):Pure En 98 [.agg (G3.cs c),.dptr [I64 a],.dptr [I64 b],.dptr [BL d]] (·=BL r):=by
 unfold H48 at h
 refine Gx [.tmp 5] Tryz.func98 O O (Jr fun e=>(JLh (.ptr 1162 0) (Q4 (cs:=(G3.cs c)) 1162 O O O O O) O (JLm (BL false) O (G5 (e (fzQ [(1,.dptr [I64 a]),(2,.dptr [I64 b]),(3,.dptr [BL d]),(4,Ej c)] [] 1162 rfl rfl rfl ø rfl ?_))))))
 refine Jr fun f=>(JLh (Ej c) (Ga G20 O O O) O (JLh (I64 c.Bay) (Gg Gb O O O) O (JLh (I64 a) (Gg Gb O O O) O (JLh (BL (decide (c.Bay=a))) (Qk O O O) O (JLm (BL (decide (c.Bay=a))) O (JLo (.dptr ((G3.cs c).drop 1)) [] O .sct ø (fun hc=>Ga G87 O O O) O (JLo (I64 c.Row) [11] O .sct ⟨Ua,ø⟩ (fun hc=>Gg Gb O O O) O (JLo (I64 b) [] O .sct ø (fun hc=>Gg Gb O O O) O (JLo (BL (decide (c.Row=b))) [12,13] O .sct ⟨Ua,Ua,ø⟩ (fun hc=>Qk O O O) O (JLh (BL ((decide (c.Bay=a))&&(decide (c.Row=b)))) (Y4 O O O O) O (JLm (BL ((decide (c.Bay=a))&&(decide (c.Row=b)))) O (JLo (.dptr ((G3.cs c).drop 2)) [] O .sct ø (fun hc=>Ga Yj O O O) O (JLo (BL c.Deck) [17] O .sct ⟨Ua,ø⟩ (fun hc=>Gg Qb O O O) O ?_)))))))))))))
 refine JLo (BL d) [] O .sct ø (fun hc=>Gg Qb O O O) O (JLo (BL (c.Deck==d)) [18,19] O .sct ⟨Ua,Ua,ø⟩ (fun hc=>Q00 H7b O O O) O (JLh (BL (((decide (c.Bay=a))&&(decide (c.Row=b)))&&(c.Deck==d))) (Y4 O O O O) O (JLm (BL (((decide (c.Bay=a))&&(decide (c.Row=b)))&&(c.Deck==d))) O (G5 (f (Gs (fin1 BL h)))))))

def Z6 (l:List G3) (wanted:G3→Option Bool):Option (List Int):=
 each (fun e b (a:(List Int)) d=>
  jp (fun c=>
   bnd (wanted e) fun f=>
   bif f then
   (need (decide ((a.length+[(b:Int)].length)*8≤140737488355328∧a.length+[(b:Int)].length≤maxLen)) <|
    c (a++[(b:Int)]))
   else
   (c a)) fun(g:(List Int))=>
  d g)
 (fun(a:(List Int))=>
  some a) l 0 []
theorem Hab (l:List G3) (wanted:G3→Option Bool) (wanted_f:FuncId) (wanted_c:List AV) (wanted_B:H0 En wanted_f=true) (wanted_d:Q9 (fun _=>false) wanted_c=true) (wanted_w:∀ a0 q,wanted a0=some q→Pure En wanted_f ([.agg (G3.cs a0)]++wanted_c) (·=BL q)) (r:(List Int)) (h:Z6 l wanted=some r):Pure En 97 [E3 l,.fn wanted_f wanted_c] (·=E2 r):=by
 unfold Z6 at h
 refine Gx [.tmp 4] Tryz.func97 O O (Jr fun a2=>(JLh (E2 ([]:List Int)) (Jh 1 O O) O (G5 (a2 (Jr fun a3=>(JLh (OW 1160 1 I64 ([]:List Int)) (H5f 1160 3 1 O O O) O (G5 (a3 (Js fun a4=>Jr fun a5=>(JLm (E3 l) O (JLl Hy O O O fun a6=>(JLm (I64 0) O (G5 (a5 (Gq ?_)))))))))))))))
 obtain⟨a7,k,m,i,h⟩:=Jc h
 refine Hn (fun a (b:(List Int))=>each a7 k (List.drop a l) a b=some r) (fun a b=>[(1,.fn wanted_f wanted_c),(5,OW 1160 1 I64 b),(8,E3 l),(9,Em l.length),(10,Em a)]) (fun a b=>[(1160,.spare 3 1 b.length b.length)]) (fun a=>l.length - a) 0 [] h ⟨⟨.same (Hi _ _ wanted_d),.same O,.same O,.same O,.same O,ø⟩,⟨⟨_,O,.same⟩,ø⟩,O⟩ ?_
 clear h
 intro a b e b1 a8
 refine Jr fun n=>(JLh (BL (decide ((a:Int) < (l.length:Int)))) (Jo O O O) O (G5 (n (Js fun o=>Gr O (fun hb=>?_) (fun hb=>?_)))))
 ·
  have g:=Q1 hb
  obtain⟨c,b0,p,s,h⟩:=Ht e g
  replace h:=Zn m h
  refine Gm (o ?_)
  obtain⟨t,j,h⟩:=Rm h
  refine Qi (fun d:(List Int)=>t d=some r) (fun d=>[(1,.fn wanted_f wanted_c),(5,OW 1160 1 I64 d),(8,E3 l),(9,Em l.length),(10,Em a)]) (fun d=>[(1160,.spare 3 1 d.length d.length)]) (fun Kj24 ej24=>?_) ?_
  ·
   refine Gq (Jr fun v=>(JLm (Em a) O (JLh (Ej c) (Hb (f:=G3.av) (xs:=l) (y:=c) O O O Hy p O) O (JLh (.agg (G3.cs c)) (Gk Gb3 O O O) O (JLh (.ptr 1161 0) (Hk 1161 12 G35 O O) O (JLm (Em a) O (Ho (u:=.junk) (H7 (u:=.agg (G3.cs c)) (ds:=(G3.cs c)) H27 O O O O O O O O) (G5 (v ?_)))))))))
   refine Gn [(1,.fn wanted_f wanted_c),(5,OW 1160 1 I64 b),(6,Em a),(7,Ej c),(8,E3 l),(9,Em l.length),(10,Em a)] [(1160,.spare 3 1 b.length b.length)] 1161 rfl rfl rfl ⟨⟨_,rfl,.same⟩,ø⟩ rfl (by exact⟨.conv (.same (Hi _ _ wanted_d)),.conv (.same rfl),.conv (.same rfl),.ptr,.conv (.same rfl),.conv (.same rfl),.conv (.same rfl),ø⟩) (Jr fun w=>(JLm (.fn wanted_f wanted_c) O (JLh (.agg (G3.cs c)) (Gk Gb3 O O O) O ?_)))
   obtain⟨a9,x,h⟩:=Ge h
   refine JLh (BL a9) (G1b (args:=[.agg (G3.cs c)]) (caps:=wanted_c) O O (wanted_w c _ x) wanted_B ⟨O,O,ø⟩ wanted_d) O (G5 (w (JCc O h (fun h hb=>?_) (fun h hb=>?_))))
   ·
    refine G2 (JLm (OW 1160 1 I64 b) O (JLm (Em a) O (JLh (E2 [(a:Int)]) (He (xs:=[Em a]) O ⟨O,O,ø⟩ H1 Y0 O O O O) O ?_)))
    obtain⟨z,h⟩:=Ji h
    refine JLh (OW 1160 1 I64 (b++[(a:Int)])) (Yb (f:=I64) (xs:=b) (ys:=[(a:Int)]) O O O O H1 G89 z (fun _=>O) (.inl O) O) O (JLm (OW 1160 1 I64 (b++[(a:Int)])) O (G5 (ej24 _ _ (b++[(a:Int)]) h ⟨⟨.same (Hi _ _ wanted_d),.same O,.same O,.same O,.same O,ø⟩,⟨⟨_,O,.same⟩,ø⟩,O⟩)))
   ·
    refine Gm (ej24 _ _ b h ⟨⟨.same (Hi _ _ wanted_d),.same O,.same O,.same O,.same O,ø⟩,⟨⟨_,O,.same⟩,ø⟩,O⟩)
  ·intro d h
   replace h:=app1 j h
   refine G2 (JLh (I64 ((a+1:Nat):Int)) (Ja (Hp g a6) O O O) O (JLm (I64 ((a+1:Nat):Int)) O (G5 (a8 _ _ (a+1) d (app1 s h) (by omega) ⟨⟨.same (Hi _ _ wanted_d),.same rfl,.same rfl,.same rfl,.same rfl,ø⟩,⟨⟨_,rfl,.same⟩,ø⟩,rfl⟩))))
 ·
  have h:=app1 i (Hu e (Hh hb))
  refine Hr (a4 (Jr fun a1=>(JLm (OW 1160 1 I64 b) O (JLm (OW 1160 1 I64 b) O (G5 (a1 (Gs (fin1l (fun r:(List Int)=>(E2 r:AV)) h))))))))

def H5c (s:Gi) (bay:Int) (row:Int) (deck:Bool):Option (Int×Bool):=
 bnd (Z6 s.Columns (fun z0=>H48 z0 bay row deck)) fun a=>
 bif decide ((a.length:Int)=0) then
 (some (0,false))
 else
 (Qw a 0 fun b=>
  some (b,true))
theorem R16 (s:Gi) (bay:Int) (row:Int) (deck:Bool) (r:Int×Bool) (h:H5c s bay row deck=some r):Pure En 53 [.agg (Gi.cs s),I64 bay,I64 row,BL deck] (·=.tup [I64 r.1,BL r.2]):=by
 unfold H5c at h
 refine Gx [.tmp 8,.tmp 9] Tryz.func53 O O (Jr fun c=>(JLh (.ptr 1091 0) (Q4 (cs:=(Gi.cs s)) 1091 O O O O O) O (JLh (.ptr 1092 0) (Q4 (cs:=[I64 bay]) 1092 O O O O O) O (JLh (.ptr 1093 0) (Q4 (cs:=[I64 row]) 1093 O O O O O) O (JLh (.ptr 1094 0) (Q4 (cs:=[BL deck]) 1094 O O O O O) O (JLm (I64 0) O (JLm (BL false) O (G5 (c ?_)))))))))
 refine fzQ [(4,Ee s),(5,.ptr 1092 0),(6,.ptr 1093 0),(7,.ptr 1094 0)] [(1092,.box 3 [I64 bay]),(1093,.box 3 [I64 row]),(1094,.box 4 [BL deck])] 1091 rfl rfl rfl ⟨⟨_,rfl,.boxEq rfl rfl⟩,⟨_,rfl,.boxEq rfl rfl⟩,⟨_,rfl,.boxEq rfl rfl⟩,ø⟩ rfl (fzQ [(4,Ee s),(5,.dptr [I64 bay]),(6,.ptr 1093 0),(7,.ptr 1094 0)] [(1093,.box 3 [I64 row]),(1094,.box 4 [BL deck])] 1092 rfl rfl rfl ⟨⟨_,rfl,.boxEq rfl rfl⟩,⟨_,rfl,.boxEq rfl rfl⟩,ø⟩ rfl ?_)
 refine fzQ [(4,Ee s),(5,.dptr [I64 bay]),(6,.dptr [I64 row]),(7,.ptr 1094 0)] [(1094,.box 4 [BL deck])] 1093 rfl rfl rfl ⟨⟨_,rfl,.boxEq rfl rfl⟩,ø⟩ rfl (fzQ [(4,Ee s),(5,.dptr [I64 bay]),(6,.dptr [I64 row]),(7,.dptr [BL deck])] [] 1094 rfl rfl rfl ø rfl (Jr fun d=>(JLh (Ee s) (Ga J8 O O O) O (JLh (E3 s.Columns) (Gg Jp O O O) O (JLh (.fn 98 [.dptr [I64 bay],.dptr [I64 row],.dptr [BL deck]]) (Q2 (cs:=[.dptr [I64 bay],.dptr [I64 row],.dptr [BL deck]]) O O) O ?_)))))
 obtain⟨a,e,h⟩:=Ge h
 refine JLh (E2 a) (Gu O (Hab s.Columns (fun z0=>H48 z0 bay row deck) 98 [.dptr [I64 bay],.dptr [I64 row],.dptr [BL deck]] Y08 O (fun z0 q hq=>Q6f z0 bay row deck q hq) a e) Y09 ⟨O,O,O,O,ø⟩) O (JLm (E2 a) O (G5 (d (Js fun g=>Jr fun i=>(JLm (E2 a) O (JLl H1 O O O fun n=>(JLh (BL (decide ((a.length:Int)=0))) (Qk O O O) O (G5 (i (JCc O h (fun h hb=>?_) (fun h hb=>?_)))))))))))
 ·
  refine Jr fun j=>(JLm (I64 0) O (JLm (BL false) O (G5 (j (Gs (⟨[I64 0,BL false],[],ø,O,⟨⟨_,O,.conv (.same O)⟩,⟨_,O,.conv (.same O)⟩,ø⟩,O,congrArg (fun r:Int×Bool=>(.tup [I64 r.1,BL r.2]:AV)) (M7 h)⟩))))))
 ·
  refine Gm (g (Jr fun k=>(JLm (E2 a) O ?_)))
  obtain⟨o,b,l,m,h⟩:=Yc h
  refine JLh (.dptr [I64 b]) (Hb (f:=I64) (xs:=a) (y:=b) O O O H1 m l) O (JLh (I64 b) (Gg Gb O O O) O (JLm (I64 b) O (JLm (BL true) O (G5 (k (Gs (⟨[I64 b,BL true],[],ø,O,⟨⟨_,O,.conv (.same O)⟩,⟨_,O,.conv (.same O)⟩,ø⟩,O,congrArg (fun r:Int×Bool=>(.tup [I64 r.1,BL r.2]:AV)) (M7 h)⟩)))))))

def Zh (l:List Hd) (covers:Int):Option Gi:=
 bnd (Jd7 (min (l.length:Int) 12) l.length) fun m5=>
 each (fun c a9 (a:(List G3)×(List G9)×Int×Int×Int×Int×(List Row)×(List Frame)×(List H2)×Int×Int×Int×Int) r=>
  jp (fun m=>
   chk (c.Bay) fun t=>
   bnd (J1e t 5) fun e=>
   chk (c.Row) fun u=>
   bnd (J1e u 5) fun f=>
   chk (c.Tiers) fun v=>
   bnd (J1e v 4) fun w=>
   chk (2+w) fun h=>
   chk (13000*e) fun x=>
   chk (x - 26000) fun i=>
   chk (2500*f) fun y=>
   chk (y - 5000) fun j=>
   jp (fun n=>
    bif c.Deck then
    (n 20000)
    else
    (n 2000)) fun(k:Int)=>
   bnd (H5c (Gi.mk a.1 a.2.1 (Light.mk a.2.2.1 a.2.2.2.1 a.2.2.2.2.1 a.2.2.2.2.2.1) a.2.2.2.2.2.2.1 a.2.2.2.2.2.2.2.1 a.2.2.2.2.2.2.2.2.1 (G8.mk a.2.2.2.2.2.2.2.2.2.1 a.2.2.2.2.2.2.2.2.2.2.1 a.2.2.2.2.2.2.2.2.2.2.2.1 a.2.2.2.2.2.2.2.2.2.2.2.2)) e f c.Deck) fun z=>
   bif (!z.2) then
   (need (decide ((a.1.length+[(G3.mk e f c.Deck h 0 500000000 500000000 0 [] i j k)].length)*112≤140737488355328∧a.1.length+[(G3.mk e f c.Deck h 0 500000000 500000000 0 [] i j k)].length≤maxLen)) <|
    m (a.1++[(G3.mk e f c.Deck h 0 500000000 500000000 0 [] i j k)]))
   else
   (m a.1)) fun(a0:(List G3))=>
  r (a0,a.2.1,a.2.2.1,a.2.2.2.1,a.2.2.2.2.1,a.2.2.2.2.2.1,a.2.2.2.2.2.2.1,a.2.2.2.2.2.2.2.1,a.2.2.2.2.2.2.2.2.1,a.2.2.2.2.2.2.2.2.2.1,a.2.2.2.2.2.2.2.2.2.2.1,a.2.2.2.2.2.2.2.2.2.2.2.1,a.2.2.2.2.2.2.2.2.2.2.2.2))
 (fun(a:(List G3)×(List G9)×Int×Int×Int×Int×(List Row)×(List Frame)×(List H2)×Int×Int×Int×Int)=>
  jp (fun o=>
   bif decide ((a.1.length:Int)=0) then
   (o ([(G3.mk 0 0 false 3 0 500000000 500000000 0 [] 0 0 2000)]))
   else
   (o a.1)) fun(a1:(List G3))=>
  need (decide (5≤9223372036854775807)) <|
  upto (fun d (b:(List G3)×(List G9)×Int×Int×Int×Int×(List Row)×(List Frame)×(List H2)×Int×Int×Int×Int) s=>
   jp (fun p=>
    jp (fun q=>
     chk (2*(d:Int)) fun a2=>
     bnd (Jd7 a2 4294967295) fun a3=>
     bif decide ((Re4 .u32 (Ge9 .u32 covers a3) 1)=1) then
     (need (decide ((b.2.1.length+[(G9.mk (d:Int) [0,1])].length)*32≤140737488355328∧b.2.1.length+[(G9.mk (d:Int) [0,1])].length≤maxLen)) <|
      q (b.2.1++[(G9.mk (d:Int) [0,1])]))
     else
     (q b.2.1)) fun(g:(List G9))=>
    chk (2*(d:Int)) fun a4=>
    chk (a4+1) fun a5=>
    bnd (Jd7 a5 4294967295) fun a6=>
    bif decide ((Re4 .u32 (Ge9 .u32 covers a6) 1)=1) then
    (need (decide ((g.length+[(G9.mk (d:Int) [2,3,4])].length)*32≤140737488355328∧g.length+[(G9.mk (d:Int) [2,3,4])].length≤maxLen)) <|
     p (g++[(G9.mk (d:Int) [2,3,4])]))
    else
    (p g)) fun(a7:(List G9))=>
   s (b.1,a7,b.2.2.1,b.2.2.2.1,b.2.2.2.2.1,b.2.2.2.2.2.1,b.2.2.2.2.2.2.1,b.2.2.2.2.2.2.2.1,b.2.2.2.2.2.2.2.2.1,b.2.2.2.2.2.2.2.2.2.1,b.2.2.2.2.2.2.2.2.2.2.1,b.2.2.2.2.2.2.2.2.2.2.2.1,b.2.2.2.2.2.2.2.2.2.2.2.2))
  (fun(b:(List G3)×(List G9)×Int×Int×Int×Int×(List Row)×(List Frame)×(List H2)×Int×Int×Int×Int)=>
   some (Gi.mk b.1 b.2.1 (Light.mk b.2.2.1 b.2.2.2.1 b.2.2.2.2.1 b.2.2.2.2.2.1) b.2.2.2.2.2.2.1 b.2.2.2.2.2.2.2.1 b.2.2.2.2.2.2.2.2.1 (G8.mk b.2.2.2.2.2.2.2.2.2.1 b.2.2.2.2.2.2.2.2.2.2.1 b.2.2.2.2.2.2.2.2.2.2.2.1 b.2.2.2.2.2.2.2.2.2.2.2.2))) (5:Int).toNat 0 (a1,a.2.1,a.2.2.1,a.2.2.2.1,a.2.2.2.2.1,a.2.2.2.2.2.1,a.2.2.2.2.2.2.1,a.2.2.2.2.2.2.2.1,a.2.2.2.2.2.2.2.2.1,a.2.2.2.2.2.2.2.2.2.1,a.2.2.2.2.2.2.2.2.2.2.1,a.2.2.2.2.2.2.2.2.2.2.2.1,a.2.2.2.2.2.2.2.2.2.2.2.2)) (l.take m5) 0 ([],[],0,0,0,0,[],[],[],0,0,0,0)
abbrev Kb:List AV:=[E3 ([]:List G3),E8 ([]:List G9),I64 0,I64 0,I64 0,I64 0,E4 ([]:List Row),E5 ([]:List Frame),E6 ([]:List H2),I64 0,I64 0,I64 0,I64 0]
abbrev Kc (a:(List G3)×(List G9)×Int×Int×Int×Int×(List Row)×(List Frame)×(List H2)×Int×Int×Int×Int):List AV:=[OW 1038 12 G3.av a.1,OW 1039 2 G9.av a.2.1,I64 a.2.2.1,I64 a.2.2.2.1,I64 a.2.2.2.2.1,I64 a.2.2.2.2.2.1,E4 a.2.2.2.2.2.2.1,E5 a.2.2.2.2.2.2.2.1,E6 a.2.2.2.2.2.2.2.2.1,I64 a.2.2.2.2.2.2.2.2.2.1,I64 a.2.2.2.2.2.2.2.2.2.2.1,I64 a.2.2.2.2.2.2.2.2.2.2.2.1,I64 a.2.2.2.2.2.2.2.2.2.2.2.2]
abbrev Kd (a:(List G3)×(List G9)×Int×Int×Int×Int×(List Row)×(List Frame)×(List H2)×Int×Int×Int×Int):List AV:=[E3 a.1,OW 1039 2 G9.av a.2.1,I64 a.2.2.1,I64 a.2.2.2.1,I64 a.2.2.2.2.1,I64 a.2.2.2.2.2.1,E4 a.2.2.2.2.2.2.1,E5 a.2.2.2.2.2.2.2.1,E6 a.2.2.2.2.2.2.2.2.1,I64 a.2.2.2.2.2.2.2.2.2.1,I64 a.2.2.2.2.2.2.2.2.2.2.1,I64 a.2.2.2.2.2.2.2.2.2.2.2.1,I64 a.2.2.2.2.2.2.2.2.2.2.2.2]
theorem Hd2 (l:List Hd) (covers:Int) (r:Gi) (h:Zh l covers=some r):Pure En 28 [Ed l,.sc (.int .u32 covers)] (·=.agg (Gi.cs r)):=by
 unfold Zh at h
 refine Gx [.cell 4 36] Tryz.func28 O O (Jr fun h5=>(JLh (.ptr 1034 0) (G06 1034 Kb [.slice none 0 0,.slice none 0 0,E0,E0,E0,E0,.slice none 0 0,.slice none 0 0,.slice none 0 0,E0,E0,E0,E0] Ge4 ⟨.inr ⟨_,O,O⟩,.inr ⟨_,O,O⟩,.inl O,.inl O,.inl O,.inl O,.inr ⟨_,O,O⟩,.inr ⟨_,O,O⟩,.inr ⟨_,O,O⟩,.inl O,.inl O,.inl O,.inl O,ø⟩ O O) O (G5 (h5 ?_))))
 refine Jr fun h6=>(JLh (.ptr 1035 0) (G06 1035 [.sc (.slice none 0 0),.sc (.slice none 0 0),I64 0,I64 0,I64 0,I64 0,E4 ([]:List Row),E5 ([]:List Frame),E6 ([]:List H2),I64 0,I64 0,I64 0,I64 0] [.slice none 0 0,.slice none 0 0,E0,E0,E0,E0,.slice none 0 0,.slice none 0 0,.slice none 0 0,E0,E0,E0,E0] Ge4 ⟨.inl O,.inl O,.inl O,.inl O,.inl O,.inl O,.inr ⟨_,O,O⟩,.inr ⟨_,O,O⟩,.inr ⟨_,O,O⟩,.inl O,.inl O,.inl O,.inl O,ø⟩ O O) O (Gf0 1035 0 1038 97 12 O O O (cs':=[OW 1038 12 G3.av ([]:List G3),.sc (.slice none 0 0),I64 0,I64 0,I64 0,I64 0,E4 ([]:List Row),E5 ([]:List Frame),E6 ([]:List H2),I64 0,I64 0,I64 0,I64 0]) O ?_))
 refine Gf0 1035 1 1039 100 2 O O O (cs':=[OW 1038 12 G3.av ([]:List G3),OW 1039 2 G9.av ([]:List G9),I64 0,I64 0,I64 0,I64 0,E4 ([]:List Row),E5 ([]:List Frame),E6 ([]:List H2),I64 0,I64 0,I64 0,I64 0]) O (G5 (h6 (Js fun h7=>Jr fun h8=>(JLm (Ed l) O (JLm (Ed l) O (JLl Hb1 O O O fun i2=>(JLh (I64 (min (l.length:Int) 12)) (Z2e O O O) O ?_)))))))
 obtain⟨w,h9,h⟩:=Ge h
 refine JLh (Ed (l.take w)) (Jbc (f:=Hd.av) (xs:=l) O O O Hb1 (Hdc h9)) O (JLl Hb1 O O O fun g1=>(JLm (I64 0) O (G5 (h8 (Gq ?_)))))
 obtain⟨g2,b5,b6,a8,h⟩:=Jc h
 refine Hn (fun k (a:(List G3)×(List G9)×Int×Int×Int×Int×(List Row)×(List Frame)×(List H2)×Int×Int×Int×Int)=>each g2 b5 (List.drop k (l.take w)) k a=some r) (fun k a=>[(1,.sc (.int .u32 covers)),(4,.ptr 1034 0),(5,.ptr 1035 0),(16,Ed (l.take w)),(17,I64 ((l.take w).length:Int)),(18,Em k)]) (fun k a=>[(1038,.spare 97 12 a.1.length a.1.length),(1039,.spare 100 2 a.2.1.length a.2.1.length),(1034,.box 36 Kb),(1035,.box 36 (Kc a))]) (fun k=>(l.take w).length - k) 0 ([],[],0,0,0,0,[],[],[],0,0,0,0) h ⟨(.sm O O),⟨⟨_,rfl,.same⟩,⟨_,rfl,.same⟩,fbQ O (.sm O O),fbQ O (.sm O O),ø⟩,rfl⟩ ?_
 clear h
 intro k a a1 i3 g3
 refine Jr fun b7=>(JLh (BL (decide ((k:Int) < ((l.take w).length:Int)))) (Jo O O O) O (G5 (b7 (Js fun b8=>Gr O (fun hb=>?_) (fun hb=>?_)))))
 ·
  have a2:=Q1 hb
  obtain⟨d,i0,b9,c0,h⟩:=Ht a1 a2
  replace h:=Zn b6 h
  refine Gm (b8 ?_)
  obtain⟨c1,a9,h⟩:=Rm h
  refine Qi (fun t:(List G3)=>c1 t=some r) (fun t=>[(1,.sc (.int .u32 covers)),(4,.ptr 1034 0),(5,.ptr 1035 0),(16,Ed (l.take w)),(17,I64 ((l.take w).length:Int)),(18,Em k)]) (fun t=>[(1038,.spare 97 12 t.length t.length),(1039,.spare 100 2 a.2.1.length a.2.1.length),(1034,.box 36 Kb),(1035,.box 36 [OW 1038 12 G3.av t,OW 1039 2 G9.av a.2.1,I64 a.2.2.1,I64 a.2.2.2.1,I64 a.2.2.2.2.1,I64 a.2.2.2.2.2.1,E4 a.2.2.2.2.2.2.1,E5 a.2.2.2.2.2.2.2.1,E6 a.2.2.2.2.2.2.2.2.1,I64 a.2.2.2.2.2.2.2.2.2.1,I64 a.2.2.2.2.2.2.2.2.2.2.1,I64 a.2.2.2.2.2.2.2.2.2.2.2.1,I64 a.2.2.2.2.2.2.2.2.2.2.2.2])]) (fun Kj109 ej109=>?_) ?_
  ·
   refine Gq (Jr fun c2=>(JLh (.dptr (Hd.cs d)) (Hb (f:=Hd.av) (xs:=(l.take w)) (y:=d) O O O Hb1 b9 O) O (JLh (.agg (Hd.cs d)) (Gk Y32 O O O) O (JLh (.ptr 1036 0) (Hk 1036 4 R5a O O) O (Ho (u:=.junk) (H7 (u:=.agg (Hd.cs d)) (ds:=[U8 d.Bay,U8 d.Row,U8 d.Tiers,BL d.Deck]) R9a O O O O O O O O) (G5 (c2 ?_)))))))
   refine fzQ [(1,.sc (.int .u32 covers)),(4,.ptr 1034 0),(5,.ptr 1035 0),(7,.dptr (Hd.cs d)),(16,Ed (l.take w)),(17,I64 ((l.take w).length:Int)),(18,Em k)] [(1038,.spare 97 12 a.1.length a.1.length),(1039,.spare 100 2 a.2.1.length a.2.1.length),(1034,.box 36 Kb),(1035,.box 36 (Kc a))] 1036 rfl rfl rfl ⟨⟨_,rfl,.same⟩,⟨_,rfl,.same⟩,⟨_,rfl,.boxEq rfl rfl⟩,⟨_,rfl,.boxEq rfl rfl⟩,ø⟩ rfl ?_
   refine Jr fun c3=>(JLh (.dptr (Hd.cs d)) (Ga Q93 O O O) O (JLh (U8 d.Bay) (Gg Hx O O O) O ?_))
   obtain⟨g4,c4,h⟩:=J0 h
   refine JLh (I64 g4) (Gcd G39 G38 c4 O O) O ?_
   obtain⟨g,a3,h⟩:=Ge h
   refine JLh (I64 g) (Jff (Yg a3).1 (Yg a3).2 O O O) O (JLh (.dptr ((Hd.cs d).drop 1)) (Ga Q92 O O O) O (JLh (U8 d.Row) (Gg Hx O O O) O ?_))
   obtain⟨g5,c5,h⟩:=J0 h
   refine JLh (I64 g5) (Gcd G39 G38 c5 O O) O ?_
   obtain⟨i,a4,h⟩:=Ge h
   refine JLh (I64 i) (Jff (Yg a4).1 (Yg a4).2 O O O) O (JLh (.dptr [BL d.Deck]) (Ga Q90 O O O) O (JLh (BL d.Deck) (Gg Qb O O O) O (JLh (.dptr [U8 d.Tiers,BL d.Deck]) (Ga Q91 O O O) O (JLh (U8 d.Tiers) (Gg Hx O O O) O ?_))))
   obtain⟨g6,c6,h⟩:=J0 h
   refine JLh (I64 g6) (Gcd G39 G38 c6 O O) O ?_
   obtain⟨g7,a5,h⟩:=Ge h
   refine JLh (I64 g7) (Jff (Yg a5).1 (Yg a5).2 O O O) O ?_
   obtain⟨j,c7,h⟩:=J0 h
   refine JLh (I64 j) (Ja c7 O O O) O (JLh (.agg [I64 g,I64 i,BL d.Deck,I64 j,I64 0,I64 500000000,I64 500000000,I64 0,E2 ([]:List Int),I64 0,I64 0,I64 0]) (Hg (cs:=[I64 g,I64 i,BL d.Deck,I64 j,I64 0,I64 500000000,I64 500000000,I64 0,E2 ([]:List Int),I64 0,I64 0,I64 0]) [(0,1),(1,1),(2,1),(3,1),(4,1),(5,1),(6,1),(7,1),(8,1),(9,1),(10,1),(11,1)] [I64 0,I64 0,BL false,I64 0,I64 0,I64 0,I64 0,I64 0,E2 ([]:List Int),I64 0,I64 0,I64 0] [E0,E0,.bool false,E0,E0,E0,E0,E0,.slice none 0 0,E0,E0,E0] G6f Ge2 ⟨.inl O,.inl O,.inl O,.inl O,.inl O,.inl O,.inl O,.inl O,.inr ⟨_,O,O⟩,.inl O,.inl O,.inl O,ø⟩ O O) O (JLh (.ptr 1037 0) (Hk 1037 12 G35 O O) O (Ho (u:=.junk) (H7 (u:=.agg [I64 g,I64 i,BL d.Deck,I64 j,I64 0,I64 500000000,I64 500000000,I64 0,E2 ([]:List Int),I64 0,I64 0,I64 0]) (ds:=[I64 g,I64 i,BL d.Deck,I64 j,I64 0,I64 500000000,I64 500000000,I64 0,E2 ([]:List Int),I64 0,I64 0,I64 0]) H27 O O O O O O O O) (G5 (c3 ?_)))))
   refine Jr fun c8=>(JLh (.ptr 1037 0) (J4 G20 O O) O (JLh (I64 g) (J1 Gb O O O O) O ?_))
   obtain⟨g8,c9,h⟩:=J0 h
   refine JLh (I64 g8) (J96 c9 O O O) O ?_
   obtain⟨m,d0,h⟩:=J0 h
   refine JLh (I64 m) (G84 d0 O O O) O (JLh (.ptr 1037 1) (J4 G87 O O) O (JLh (I64 i) (J1 Gb O O O O) O ?_))
   obtain⟨g9,d1,h⟩:=J0 h
   refine JLh (I64 g9) (J96 d1 O O O) O ?_
   obtain⟨n,d2,h⟩:=J0 h
   refine JLh (I64 n) (G84 d2 O O O) O (JLh (.ptr 1037 9) (J4 J86 O O) O (Ho (u:=.junk) (H7 (u:=I64 m) (ds:=[I64 g,I64 i,BL d.Deck,I64 j,I64 0,I64 500000000,I64 500000000,I64 0,E2 ([]:List Int),I64 m,I64 0,I64 0]) G53 O O O O O O O O) (JLh (.ptr 1037 10) (J4 J37 O O) O (Ho (u:=.junk) (H7 (u:=I64 n) (ds:=[I64 g,I64 i,BL d.Deck,I64 j,I64 0,I64 500000000,I64 500000000,I64 0,E2 ([]:List Int),I64 m,I64 n,I64 0]) G53 O O O O O O O O) (JLh (.ptr 1037 11) (J4 H80 O O) O (Ho (u:=.junk) (H7 (u:=I64 2000) (ds:=[I64 g,I64 i,BL d.Deck,I64 j,I64 0,I64 500000000,I64 500000000,I64 0,E2 ([]:List Int),I64 m,I64 n,I64 2000]) G53 O O O O O O O O) (G5 (c8 ?_))))))))
   obtain⟨d3,b0,h⟩:=Rm h
   refine Qi (fun o:Int=>d3 o=some r) (fun o=>[(1,.sc (.int .u32 covers)),(4,.ptr 1034 0),(5,.ptr 1035 0),(8,.ptr 1037 0),(16,Ed (l.take w)),(17,I64 ((l.take w).length:Int)),(18,Em k)]) (fun o=>[(1038,.spare 97 12 a.1.length a.1.length),(1039,.spare 100 2 a.2.1.length a.2.1.length),(1034,.box 36 Kb),(1035,.box 36 (Kc a)),(1037,.box 97 [I64 g,I64 i,BL d.Deck,I64 j,I64 0,I64 500000000,I64 500000000,I64 0,E2 ([]:List Int),I64 m,I64 n,I64 o])]) (fun Kj124 ej124=>?_) ?_
   ·
    refine Jr fun d4=>(JLh (.ptr 1037 2) (J4 Yj O O) O (JLh (BL d.Deck) (J1 Qb O O O O) O (G5 (d4 (JCc O h (fun h hb=>?_) (fun h hb=>?_))))))
    ·
     refine G2 (JLh (.ptr 1037 11) (J4 H80 O O) O (Ho (u:=.junk) (H7 (u:=I64 20000) (ds:=[I64 g,I64 i,BL d.Deck,I64 j,I64 0,I64 500000000,I64 500000000,I64 0,E2 ([]:List Int),I64 m,I64 n,I64 20000]) G53 O O O O O O O O) (G5 (ej124 _ _ 20000 h ⟨(.sm O O),⟨⟨_,rfl,.same⟩,⟨_,rfl,.same⟩,fbQ O (.sm O O),fbQ O (.sm O O),fbQ O (.sm O O),ø⟩,rfl⟩))))
    ·
     refine Gm (ej124 _ _ 2000 h ⟨(.sm O O),⟨⟨_,rfl,.same⟩,⟨_,rfl,.same⟩,fbQ O (.sm O O),fbQ O (.sm O O),fbQ O (.sm O O),ø⟩,rfl⟩)
   ·intro o h
    replace h:=app1 b0 h
    refine Jr fun d5=>(JLh (.agg (Kc a)) (J1d Jd O O O O) O (JLh (.ptr 1037 0) (J4 G20 O O) O (JLh (I64 g) (J1 Gb O O O O) O (JLh (.ptr 1037 1) (J4 G87 O O) O (JLh (I64 i) (J1 Gb O O O O) O (JLh (.ptr 1037 2) (J4 Yj O O) O (JLh (BL d.Deck) (J1 Qb O O O O) O ?_)))))))
    obtain⟨q,d6,h⟩:=Ge h
    refine JLh (.tup [I64 q.1,BL q.2]) (Gu O (R16 (Gi.mk a.1 a.2.1 (Light.mk a.2.2.1 a.2.2.2.1 a.2.2.2.2.1 a.2.2.2.2.2.1) a.2.2.2.2.2.2.1 a.2.2.2.2.2.2.2.1 a.2.2.2.2.2.2.2.2.1 (G8.mk a.2.2.2.2.2.2.2.2.2.1 a.2.2.2.2.2.2.2.2.2.2.1 a.2.2.2.2.2.2.2.2.2.2.2.1 a.2.2.2.2.2.2.2.2.2.2.2.2)) g i d.Deck q d6) Y1d ⟨O,O,O,O,O,O,O,O,ø⟩) O (JLm (.tup [I64 q.1,BL q.2]) O (JLh (I64 q.1) (Gz O O O) O (JLh (BL q.2) (Gz O O O) O (JLm (I64 q.1) O (JLm (BL q.2) O (G5 (d5 ?_)))))))
    refine fzQ [(1,.sc (.int .u32 covers)),(4,.ptr 1034 0),(5,.ptr 1035 0),(8,.dptr [I64 g,I64 i,BL d.Deck,I64 j,I64 0,I64 500000000,I64 500000000,I64 0,E2 ([]:List Int),I64 m,I64 n,I64 o]),(10,BL q.2),(16,Ed (l.take w)),(17,I64 ((l.take w).length:Int)),(18,Em k)] [(1038,.spare 97 12 a.1.length a.1.length),(1039,.spare 100 2 a.2.1.length a.2.1.length),(1034,.box 36 Kb),(1035,.box 36 (Kc a))] 1037 rfl rfl rfl ⟨⟨_,rfl,.same⟩,⟨_,rfl,.same⟩,⟨_,rfl,.boxEq rfl rfl⟩,⟨_,rfl,.boxEq rfl rfl⟩,ø⟩ rfl ?_
    refine Jr fun d7=>(JLm (BL q.2) O (JLh (BL (!q.2)) (Y8 (b:=q.2) O O) O (G5 (d7 (JCc O h (fun h hb=>?_) (fun h hb=>?_))))))
    ·
     refine G2 (JLh (.ptr 1035 0) (J4 J8 O O) O (JLh (OW 1038 12 G3.av a.1) (J1 Jp O O O O) O (JLh (.agg [I64 g,I64 i,BL d.Deck,I64 j,I64 0,I64 500000000,I64 500000000,I64 0,E2 ([]:List Int),I64 m,I64 n,I64 o]) (Gk Gb3 O O O) O (JLh (E3 ([(G3.mk g i d.Deck j 0 500000000 500000000 0 [] m n o)])) (He (xs:=[.agg [I64 g,I64 i,BL d.Deck,I64 j,I64 0,I64 500000000,I64 500000000,I64 0,E2 ([]:List Int),I64 m,I64 n,I64 o]]) O ⟨O,O,ø⟩ Hy G35 O O O O) O ?_))))
     obtain⟨d8,h⟩:=Ji h
     refine JLh (OW 1038 12 G3.av (a.1++[(G3.mk g i d.Deck j 0 500000000 500000000 0 [] m n o)])) (Yb (f:=G3.av) (xs:=a.1) (ys:=[(G3.mk g i d.Deck j 0 500000000 500000000 0 [] m n o)]) O O O O Hy J9a d8 (fun _=>O) (.inl O) O) O (JLh (.ptr 1035 0) (J4 J8 O O) O (Ho (u:=.junk) (H7 (u:=OW 1038 12 G3.av (a.1++[(G3.mk g i d.Deck j 0 500000000 500000000 0 [] m n o)])) (ds:=[OW 1038 12 G3.av (a.1++[(G3.mk g i d.Deck j 0 500000000 500000000 0 [] m n o)]),OW 1039 2 G9.av a.2.1,I64 a.2.2.1,I64 a.2.2.2.1,I64 a.2.2.2.2.1,I64 a.2.2.2.2.2.1,E4 a.2.2.2.2.2.2.1,E5 a.2.2.2.2.2.2.2.1,E6 a.2.2.2.2.2.2.2.2.1,I64 a.2.2.2.2.2.2.2.2.2.1,I64 a.2.2.2.2.2.2.2.2.2.2.1,I64 a.2.2.2.2.2.2.2.2.2.2.2.1,I64 a.2.2.2.2.2.2.2.2.2.2.2.2]) Q85 O O O O O O O O) (G5 ?_)))
     exact ej109 _ _ (a.1++[(G3.mk g i d.Deck j 0 500000000 500000000 0 [] m n o)]) h ⟨(.sm O O),⟨⟨_,rfl,.same⟩,⟨_,rfl,.same⟩,fbQ O (.sm O O),fbQ O (.sm O O),ø⟩,rfl⟩
    ·
     refine Gm (ej109 _ _ a.1 h ⟨(.sm O O),⟨⟨_,rfl,.same⟩,⟨_,rfl,.same⟩,fbQ O (.sm O O),fbQ O (.sm O O),ø⟩,rfl⟩)
  ·intro t h
   replace h:=app1 a9 h
   refine G2 (JLh (I64 ((k+1:Nat):Int)) (Ja (Hp a2 g1) O O O) O (JLm (I64 ((k+1:Nat):Int)) O (G5 (g3 _ _ (k+1) (t,a.2.1,a.2.2.1,a.2.2.2.1,a.2.2.2.2.1,a.2.2.2.2.2.1,a.2.2.2.2.2.2.1,a.2.2.2.2.2.2.2.1,a.2.2.2.2.2.2.2.2.1,a.2.2.2.2.2.2.2.2.2.1,a.2.2.2.2.2.2.2.2.2.2.1,a.2.2.2.2.2.2.2.2.2.2.2.1,a.2.2.2.2.2.2.2.2.2.2.2.2) (app1 c0 h) (by omega) ⟨(.sm O O),⟨⟨_,rfl,.same⟩,⟨_,rfl,.same⟩,fbQ O (.sm O O),fbQ O (.sm O O),ø⟩,rfl⟩))))
 ·
  have h:=app1 a8 (Hu a1 (Hh hb))
  refine Hr (h7 ?_)
  obtain⟨d9,b1,h⟩:=Rm h
  refine Qi (fun x:(List G3)=>d9 x=some r) (fun x=>[(1,.sc (.int .u32 covers)),(4,.ptr 1034 0),(5,.ptr 1035 0)]) (fun x=>[(1039,.spare 100 2 a.2.1.length a.2.1.length),(1034,.box 36 Kb),(1035,.box 36 [E3 x,OW 1039 2 G9.av a.2.1,I64 a.2.2.1,I64 a.2.2.2.1,I64 a.2.2.2.2.1,I64 a.2.2.2.2.2.1,E4 a.2.2.2.2.2.2.1,E5 a.2.2.2.2.2.2.2.1,E6 a.2.2.2.2.2.2.2.2.1,I64 a.2.2.2.2.2.2.2.2.2.1,I64 a.2.2.2.2.2.2.2.2.2.2.1,I64 a.2.2.2.2.2.2.2.2.2.2.2.1,I64 a.2.2.2.2.2.2.2.2.2.2.2.2])]) (fun Kj130 ej130=>?_) ?_
  ·
   refine Jr fun e0=>(JLh (.ptr 1035 0) (J4 J8 O O) O (JLh (OW 1038 12 G3.av a.1) (J1 Jp O O O O) O (JLl Hy O O O fun i4=>(JLh (BL (decide ((a.1.length:Int)=0))) (Qk O O O) O (G5 (e0 (JCc O h (fun h hb=>?_) (fun h hb=>?_))))))))
   ·
    refine G2 ?_
    refine JLh (.agg [I64 0,I64 0,BL false,I64 3,I64 0,I64 500000000,I64 500000000,I64 0,E2 ([]:List Int),I64 0,I64 0,I64 2000]) (Hg (cs:=[I64 0,I64 0,BL false,I64 3,I64 0,I64 500000000,I64 500000000,I64 0,E2 ([]:List Int),I64 0,I64 0,I64 2000]) [(0,1),(1,1),(2,1),(3,1),(4,1),(5,1),(6,1),(7,1),(8,1),(9,1),(10,1),(11,1)] [I64 0,I64 0,BL false,I64 0,I64 0,I64 0,I64 0,I64 0,E2 ([]:List Int),I64 0,I64 0,I64 0] [E0,E0,.bool false,E0,E0,E0,E0,E0,.slice none 0 0,E0,E0,E0] G6f Ge2 ⟨.inl O,.inl O,.inl O,.inl O,.inl O,.inl O,.inl O,.inl O,.inr ⟨_,O,O⟩,.inl O,.inl O,.inl O,ø⟩ O O) O (JLh (E3 ([(G3.mk 0 0 false 3 0 500000000 500000000 0 [] 0 0 2000)])) (He (xs:=[.agg [I64 0,I64 0,BL false,I64 3,I64 0,I64 500000000,I64 500000000,I64 0,E2 ([]:List Int),I64 0,I64 0,I64 2000]]) O ⟨O,O,ø⟩ Hy G35 O O O O) O (JLh (.ptr 1035 0) (J4 J8 O O) O (Ho (u:=.junk) (H7 (u:=E3 ([(G3.mk 0 0 false 3 0 500000000 500000000 0 [] 0 0 2000)])) (ds:=[E3 ([(G3.mk 0 0 false 3 0 500000000 500000000 0 [] 0 0 2000)]),OW 1039 2 G9.av a.2.1,I64 a.2.2.1,I64 a.2.2.2.1,I64 a.2.2.2.2.1,I64 a.2.2.2.2.2.1,E4 a.2.2.2.2.2.2.1,E5 a.2.2.2.2.2.2.2.1,E6 a.2.2.2.2.2.2.2.2.1,I64 a.2.2.2.2.2.2.2.2.2.1,I64 a.2.2.2.2.2.2.2.2.2.2.1,I64 a.2.2.2.2.2.2.2.2.2.2.2.1,I64 a.2.2.2.2.2.2.2.2.2.2.2.2]) Q85 O O O O O O O O) (G5 ?_))))
    exact ej130 _ _ ([(G3.mk 0 0 false 3 0 500000000 500000000 0 [] 0 0 2000)]) h ⟨(.sm O O),⟨⟨_,rfl,.same⟩,fbQ O (.sm O O),fbQ O (.sm O O),ø⟩,rfl⟩
   ·
    refine Gm (ej130 _ _ a.1 h ⟨(.sm O O),⟨⟨_,rfl,.same⟩,fbQ O (.sm O O),fbQ O ⟨.list rfl,.same rfl,.same rfl,.same rfl,.same rfl,.same rfl,.same rfl,.same rfl,.same rfl,.same rfl,.same rfl,.same rfl,.same rfl,ø⟩,ø⟩,rfl⟩)
  ·intro x h
   replace h:=app1 b1 h
   refine Js fun e1=>Jr fun e2=>(JLm (I64 0) O (G5 (e2 (Gq ?_))))
   obtain⟨e3,h⟩:=Ji h
   obtain⟨h0,e4,e5,b2,h⟩:=Hf5 h
   refine Hn (fun e (c:(List G3)×(List G9)×Int×Int×Int×Int×(List Row)×(List Frame)×(List H2)×Int×Int×Int×Int)=>upto h0 e4 ((5:Int).toNat - e) e c=some r) (fun e c=>[(1,.sc (.int .u32 covers)),(4,.ptr 1034 0),(5,.ptr 1035 0),(11,Em e)]) (fun e c=>[(1039,.spare 100 2 c.2.1.length c.2.1.length),(1034,.box 36 Kb),(1035,.box 36 (Kd c))]) (fun e=>(5:Int).toNat - e) 0 (x,a.2.1,a.2.2.1,a.2.2.2.1,a.2.2.2.2.1,a.2.2.2.2.2.1,a.2.2.2.2.2.2.1,a.2.2.2.2.2.2.2.1,a.2.2.2.2.2.2.2.2.1,a.2.2.2.2.2.2.2.2.2.1,a.2.2.2.2.2.2.2.2.2.2.1,a.2.2.2.2.2.2.2.2.2.2.2.1,a.2.2.2.2.2.2.2.2.2.2.2.2) h ⟨(.sm O O),⟨⟨_,rfl,.same⟩,fbQ O (.sm O O),fbQ O (.sm O O),ø⟩,rfl⟩ ?_
   clear h
   intro e c a6 i5 h1
   refine Js fun e6=>Jr fun e7=>(JLm (Em e) O (JLh (BL (decide ((e:Int) < 5))) (Jo O O O) O (G5 (e7 (Gr O (fun hb=>?_) (fun hb=>?_))))))
   ·
    have a7:=H8b hb
    obtain⟨i1,e8,h⟩:=H7e a6 a7
    replace h:=Jb4 e5 h
    refine Gm (e6 ?_)
    obtain⟨e9,b3,h⟩:=Rm h
    refine Qi (fun v:(List G9)=>e9 v=some r) (fun v=>[(1,.sc (.int .u32 covers)),(4,.ptr 1034 0),(5,.ptr 1035 0),(11,Em e)]) (fun v=>[(1039,.spare 100 2 v.length v.length),(1034,.box 36 Kb),(1035,.box 36 [E3 c.1,OW 1039 2 G9.av v,I64 c.2.2.1,I64 c.2.2.2.1,I64 c.2.2.2.2.1,I64 c.2.2.2.2.2.1,E4 c.2.2.2.2.2.2.1,E5 c.2.2.2.2.2.2.2.1,E6 c.2.2.2.2.2.2.2.2.1,I64 c.2.2.2.2.2.2.2.2.2.1,I64 c.2.2.2.2.2.2.2.2.2.2.1,I64 c.2.2.2.2.2.2.2.2.2.2.2.1,I64 c.2.2.2.2.2.2.2.2.2.2.2.2])]) (fun Kj203 ej203=>?_) ?_
    ·
     refine Gq ?_
     obtain⟨f0,b4,h⟩:=Rm h
     refine Qi (fun p:(List G9)=>f0 p=some r) (fun p=>[(1,.sc (.int .u32 covers)),(4,.ptr 1034 0),(5,.ptr 1035 0),(11,Em e)]) (fun p=>[(1039,.spare 100 2 p.length p.length),(1034,.box 36 Kb),(1035,.box 36 [E3 c.1,OW 1039 2 G9.av p,I64 c.2.2.1,I64 c.2.2.2.1,I64 c.2.2.2.2.1,I64 c.2.2.2.2.2.1,E4 c.2.2.2.2.2.2.1,E5 c.2.2.2.2.2.2.2.1,E6 c.2.2.2.2.2.2.2.2.1,I64 c.2.2.2.2.2.2.2.2.2.1,I64 c.2.2.2.2.2.2.2.2.2.2.1,I64 c.2.2.2.2.2.2.2.2.2.2.2.1,I64 c.2.2.2.2.2.2.2.2.2.2.2.2])]) (fun Kj204 ej204=>?_) ?_
     ·
      refine Jr fun f1=>(JLm (.sc (.int .u32 covers)) O (JLm (Em e) O ?_))
      obtain⟨h2,f2,h⟩:=J0 h
      refine JLh (I64 h2) (J96 f2 O O O) O ?_
      obtain⟨z,f3,h⟩:=Ge h
      refine JLh (.sc (.int .u32 (Ge9 .u32 covers z))) (Jbd (s:=z) (Hdc f3).1 O O O) O (JLh (.sc (.int .u32 (Re4 .u32 (Ge9 .u32 covers z) 1))) (Z38 O O O) O (JLh (BL (decide ((Re4 .u32 (Ge9 .u32 covers z) 1)=1))) (Qk O O O) O (G5 (f1 (JCc O h (fun h hb=>?_) (fun h hb=>?_))))))
      ·
       refine G2 (JLh (.ptr 1035 1) (J4 Y5 O O) O (JLh (OW 1039 2 G9.av c.2.1) (J1 Zt O O O O) O (JLm (Em e) O (JLh (E2 [0,1]) (He (xs:=[I64 0,I64 1]) O ⟨O,O,O,O,ø⟩ H1 Y0 O O O O) O (JLh (.agg [Em e,E2 [0,1]]) (Hg (cs:=[Em e,E2 [0,1]]) [(0,1),(1,1)] [I64 0,E2 ([]:List Int)] [E0,.slice none 0 0] Hc7 J35 ⟨.inl O,.inr ⟨_,O,O⟩,ø⟩ O O) O (JLh (E8 ([(G9.mk (e:Int) [0,1])])) (He (xs:=[.agg [Em e,E2 [0,1]]]) O ⟨O,O,ø⟩ Qj H03 O O O O) O ?_))))))
       obtain⟨f4,h⟩:=Ji h
       refine JLh (OW 1039 2 G9.av (c.2.1++[(G9.mk (e:Int) [0,1])])) (Yb (f:=G9.av) (xs:=c.2.1) (ys:=[(G9.mk (e:Int) [0,1])]) O O O O Qj Hb2 f4 (fun _=>O) (.inl O) O) O (JLh (.ptr 1035 1) (J4 Y5 O O) O (Ho (u:=.junk) (H7 (u:=OW 1039 2 G9.av (c.2.1++[(G9.mk (e:Int) [0,1])])) (ds:=[E3 c.1,OW 1039 2 G9.av (c.2.1++[(G9.mk (e:Int) [0,1])]),I64 c.2.2.1,I64 c.2.2.2.1,I64 c.2.2.2.2.1,I64 c.2.2.2.2.2.1,E4 c.2.2.2.2.2.2.1,E5 c.2.2.2.2.2.2.2.1,E6 c.2.2.2.2.2.2.2.2.1,I64 c.2.2.2.2.2.2.2.2.2.1,I64 c.2.2.2.2.2.2.2.2.2.2.1,I64 c.2.2.2.2.2.2.2.2.2.2.2.1,I64 c.2.2.2.2.2.2.2.2.2.2.2.2]) Q84 O O O O O O O O) (G5 ?_)))
       exact ej204 _ _ (c.2.1++[(G9.mk (e:Int) [0,1])]) h ⟨(.sm O O),⟨⟨_,rfl,.same⟩,fbQ O (.sm O O),fbQ O (.sm O O),ø⟩,rfl⟩
      ·
       refine Gm (ej204 _ _ c.2.1 h ⟨(.sm O O),⟨⟨_,rfl,.same⟩,fbQ O (.sm O O),fbQ O (.sm O O),ø⟩,rfl⟩)
     ·intro p h
      replace h:=app1 b4 h
      refine Jr fun f5=>(JLm (.sc (.int .u32 covers)) O (JLm (Em e) O ?_))
      obtain⟨h3,f6,h⟩:=J0 h
      refine JLh (I64 h3) (J96 f6 O O O) O ?_
      obtain⟨h4,f7,h⟩:=J0 h
      refine JLh (I64 h4) (Ja f7 O O O) O ?_
      obtain⟨a0,f8,h⟩:=Ge h
      refine JLh (.sc (.int .u32 (Ge9 .u32 covers a0))) (Jbd (s:=a0) (Hdc f8).1 O O O) O (JLh (.sc (.int .u32 (Re4 .u32 (Ge9 .u32 covers a0) 1))) (Z38 O O O) O (JLh (BL (decide ((Re4 .u32 (Ge9 .u32 covers a0) 1)=1))) (Qk O O O) O (G5 (f5 (JCc O h (fun h hb=>?_) (fun h hb=>?_))))))
      ·
       refine G2 (JLh (.ptr 1035 1) (J4 Y5 O O) O (JLh (OW 1039 2 G9.av p) (J1 Zt O O O O) O (JLm (Em e) O (JLh (E2 [2,3,4]) (He (xs:=[I64 2,I64 3,I64 4]) O ⟨O,O,O,O,O,O,ø⟩ H1 Y0 O O O O) O (JLh (.agg [Em e,E2 [2,3,4]]) (Hg (cs:=[Em e,E2 [2,3,4]]) [(0,1),(1,1)] [I64 0,E2 ([]:List Int)] [E0,.slice none 0 0] Hc7 J35 ⟨.inl O,.inr ⟨_,O,O⟩,ø⟩ O O) O (JLh (E8 ([(G9.mk (e:Int) [2,3,4])])) (He (xs:=[.agg [Em e,E2 [2,3,4]]]) O ⟨O,O,ø⟩ Qj H03 O O O O) O ?_))))))
       obtain⟨f9,h⟩:=Ji h
       refine JLh (OW 1039 2 G9.av (p++[(G9.mk (e:Int) [2,3,4])])) (Yb (f:=G9.av) (xs:=p) (ys:=[(G9.mk (e:Int) [2,3,4])]) O O O O Qj Hb2 f9 (fun _=>O) (.inl O) O) O (JLh (.ptr 1035 1) (J4 Y5 O O) O (Ho (u:=.junk) (H7 (u:=OW 1039 2 G9.av (p++[(G9.mk (e:Int) [2,3,4])])) (ds:=[E3 c.1,OW 1039 2 G9.av (p++[(G9.mk (e:Int) [2,3,4])]),I64 c.2.2.1,I64 c.2.2.2.1,I64 c.2.2.2.2.1,I64 c.2.2.2.2.2.1,E4 c.2.2.2.2.2.2.1,E5 c.2.2.2.2.2.2.2.1,E6 c.2.2.2.2.2.2.2.2.1,I64 c.2.2.2.2.2.2.2.2.2.1,I64 c.2.2.2.2.2.2.2.2.2.2.1,I64 c.2.2.2.2.2.2.2.2.2.2.2.1,I64 c.2.2.2.2.2.2.2.2.2.2.2.2]) Q84 O O O O O O O O) (G5 ?_)))
       exact ej203 _ _ (p++[(G9.mk (e:Int) [2,3,4])]) h ⟨(.sm O O),⟨⟨_,rfl,.same⟩,fbQ O (.sm O O),fbQ O (.sm O O),ø⟩,rfl⟩
      ·
       refine Gm (ej203 _ _ p h ⟨(.sm O O),⟨⟨_,rfl,.same⟩,fbQ O (.sm O O),fbQ O (.sm O O),ø⟩,rfl⟩)
    ·intro v h
     replace h:=app1 b3 h
     refine G2 (JLm (Em e) O (JLh (I64 ((e+1:Nat):Int)) (Ja (Hp a7 (H25 e3)) O O O) O (JLm (I64 ((e+1:Nat):Int)) O (G5 (h1 _ _ (e+1) (c.1,v,c.2.2.1,c.2.2.2.1,c.2.2.2.2.1,c.2.2.2.2.2.1,c.2.2.2.2.2.2.1,c.2.2.2.2.2.2.2.1,c.2.2.2.2.2.2.2.2.1,c.2.2.2.2.2.2.2.2.2.1,c.2.2.2.2.2.2.2.2.2.2.1,c.2.2.2.2.2.2.2.2.2.2.2.1,c.2.2.2.2.2.2.2.2.2.2.2.2) (app1 e8 h) (by omega) ⟨(.sm O O),⟨⟨_,rfl,.same⟩,fbQ O (.sm O O),fbQ O (.sm O O),ø⟩,rfl⟩)))))
   ·
    have h:=app1 b2 (H7f a6 (G72 hb))
    refine Hr (e1 ?_)
    refine Jr fun g0=>(JLh (.agg (Kd c)) (J1d Jd O O O O) O (Ho (u:=.junk) (H7 (u:=.agg (Kd c)) (ds:=(Kd c)) G6d O O O O O O O O) (G5 (g0 ?_))))
    refine Gs (⟨[.agg [E3 c.1,E8 c.2.1,I64 c.2.2.1,I64 c.2.2.2.1,I64 c.2.2.2.2.1,I64 c.2.2.2.2.2.1,E4 c.2.2.2.2.2.2.1,E5 c.2.2.2.2.2.2.2.1,E6 c.2.2.2.2.2.2.2.2.1,I64 c.2.2.2.2.2.2.2.2.2.1,I64 c.2.2.2.2.2.2.2.2.2.2.1,I64 c.2.2.2.2.2.2.2.2.2.2.2.1,I64 c.2.2.2.2.2.2.2.2.2.2.2.2]],[],ø,O,⟨⟨_,⟨_,_,_,_,O,O,O,.inl ⟨Jd,O⟩⟩,.agg ⟨.same O,.list O,.same O,.same O,.same O,.same O,.same O,.same O,.same O,.same O,.same O,.same O,.same O,ø⟩⟩,ø⟩,O,congrArg (fun r:Gi=>(.agg (Gi.cs r):AV)) (M7 h)⟩)

def Yh (l:List G1) (x:G1):Option (List G1):=
 each (fun c k (a:(List G1)) g=>
  jp (fun e=>
   bif decide (c.Box < x.Box) then
   (need (decide ((a.length+[c].length)*32≤140737488355328∧a.length+[c].length≤maxLen)) <|
    e (a++[c]))
   else
   (e a)) fun(i:(List G1))=>
  g i)
 (fun(a:(List G1))=>
  need (decide ((a.length+[x].length)*32≤140737488355328∧a.length+[x].length≤maxLen)) <|
  each (fun d m (b:(List G1)) h=>
   jp (fun f=>
    bif decide (x.Box < d.Box) then
    (need (decide ((b.length+[d].length)*32≤140737488355328∧b.length+[d].length≤maxLen)) <|
     f (b++[d]))
    else
    (f b)) fun(j:(List G1))=>
   h j)
  (fun(b:(List G1))=>
   some b) l 0 (a++[x])) l 0 []
theorem Gfc (l:List G1) (x:G1) (r:(List G1)) (h:Yh l x=some r):Pure En 99 [E1 l,.agg (G1.cs x)] (·=E1 r):=by
 unfold Yh at h
 refine Gx [.tmp 4] Tryz.func99 O O (Jr fun c4=>(JLh (.ptr 1163 0) (Q4 (cs:=[I64 x.Box,I64 x.Slot.G3,I64 x.Slot.Tier,U8 x.Slot.Half]) 1163 O O O O O) O (JLh (E1 ([]:List G1)) (Jh 4 O O) O (G5 (c4 (Gn [(0,E1 l),(3,Eh x)] [] 1163 rfl rfl rfl ø rfl (by exact⟨.conv (.same rfl),.ptr,ø⟩) (Jr fun c5=>(JLh (OW 1164 4 G1.av ([]:List G1)) (H5f 1164 64 4 O O O) O (G5 (c5 (Js fun c6=>Jr fun c7=>(JLm (E1 l) O (JLl H3 O O O fun v=>(JLm (I64 0) O (G5 (c7 (Gq ?_)))))))))))))))))
 obtain⟨c8,w,z,p,h⟩:=Jc h
 refine Hn (fun e (a:(List G1))=>each c8 w (List.drop e l) e a=some r) (fun e a=>[(0,E1 l),(3,Eh x),(5,OW 1164 4 G1.av a),(10,E1 l),(11,Em l.length),(12,Em e)]) (fun e a=>[(1164,.spare 64 4 a.length a.length)]) (fun e=>l.length - e) 0 [] h ⟨(.sm O O),⟨⟨_,rfl,.same⟩,ø⟩,rfl⟩ ?_
 clear h
 intro e a k d4 c9
 refine Jr fun a0=>(JLh (BL (decide ((e:Int) < (l.length:Int)))) (Jo O O O) O (G5 (a0 (Js fun a1=>Gr O (fun hb=>?_) (fun hb=>?_)))))
 ·
  have m:=Q1 hb
  obtain⟨b,d2,a2,a3,h⟩:=Ht k m
  replace h:=Zn z h
  refine Gm (a1 ?_)
  obtain⟨a4,q,h⟩:=Rm h
  refine Qi (fun i:(List G1)=>a4 i=some r) (fun i=>[(0,E1 l),(3,Eh x),(5,OW 1164 4 G1.av i),(10,E1 l),(11,Em l.length),(12,Em e)]) (fun i=>[(1164,.spare 64 4 i.length i.length)]) (fun Kj22 ej22=>?_) ?_
  ·
   refine Gq (Jr fun a5=>(JLh (Eh b) (Hb (f:=G1.av) (xs:=l) (y:=b) O O O H3 a2 O) O (JLh (.agg (G1.cs b)) (Gk Qd O O O) O (JLh (.ptr 1165 0) (Hk 1165 4 Jy O O) O (Ho (u:=.junk) (H7 (u:=.agg (G1.cs b)) (ds:=[I64 b.Box,I64 b.Slot.G3,I64 b.Slot.Tier,U8 b.Slot.Half]) Rk O O O O O O O O) (G5 (a5 (fzQ [(0,E1 l),(3,Eh x),(5,OW 1164 4 G1.av a),(7,Eh b),(10,E1 l),(11,Em l.length),(12,Em e)] [(1164,.spare 64 4 a.length a.length)] 1165 rfl rfl rfl ⟨⟨_,rfl,.same⟩,ø⟩ rfl ?_))))))))
   refine Jr fun a6=>(JLh (Eh b) (Ga J6 O O O) O (JLh (I64 b.Box) (Gg Gb O O O) O (JLh (Eh x) (Ga J6 O O O) O (JLh (I64 x.Box) (Gg Gb O O O) O (JLh (BL (decide (b.Box < x.Box))) (Jo O O O) O (G5 (a6 (JCc O h (fun h hb=>?_) (fun h hb=>?_)))))))))
   ·
    refine G2 (JLm (OW 1164 4 G1.av a) O (JLh (.agg (G1.cs b)) (Gk Qd O O O) O (JLh (E1 [b]) (He (xs:=[.agg (G1.cs b)]) O ⟨O,O,ø⟩ H3 Jy O O O O) O ?_)))
    obtain⟨a7,h⟩:=Ji h
    refine JLh (OW 1164 4 G1.av (a++[b])) (Yb (f:=G1.av) (xs:=a) (ys:=[b]) O O O O H3 Ge6 a7 (fun _=>O) (.inl O) O) O (JLm (OW 1164 4 G1.av (a++[b])) O (G5 (ej22 _ _ (a++[b]) h ⟨(.sm O O),⟨⟨_,rfl,.same⟩,ø⟩,rfl⟩)))
   ·
    refine Gm (ej22 _ _ a h ⟨(.sm O O),⟨⟨_,rfl,.same⟩,ø⟩,rfl⟩)
  ·intro i h
   replace h:=app1 q h
   refine G2 (JLh (I64 ((e+1:Nat):Int)) (Ja (Hp m v) O O O) O (JLm (I64 ((e+1:Nat):Int)) O (G5 (c9 _ _ (e+1) i (app1 a3 h) (by omega) ⟨(.sm O O),⟨⟨_,rfl,.same⟩,ø⟩,rfl⟩))))
 ·
  have h:=app1 p (Hu k (Hh hb))
  refine Hr (c6 (Jr fun a8=>(JLm (OW 1164 4 G1.av a) O (JLh (.agg (G1.cs x)) (Gk Qd O O O) O (JLh (E1 [x]) (He (xs:=[.agg (G1.cs x)]) O ⟨O,O,ø⟩ H3 Jy O O O O) O ?_)))))
  obtain⟨a9,h⟩:=Ji h
  refine JLh (OW 1164 4 G1.av (a++[x])) (Yb (f:=G1.av) (xs:=a) (ys:=[x]) O O O O H3 Ge6 a9 (fun _=>O) (.inl O) O) O (JLm (OW 1164 4 G1.av (a++[x])) O (G5 (a8 (Js fun b0=>Jr fun b1=>(JLm (E1 l) O (JLl H3 O O O fun b2=>(JLm (I64 0) O (G5 (b1 (Gq ?_))))))))))
  obtain⟨d0,b3,b4,s,h⟩:=Jc h
  refine Hn (fun g (d:(List G1))=>each d0 b3 (List.drop g l) g d=some r) (fun g d=>[(3,Eh x),(5,OW 1164 4 G1.av d),(30,E1 l),(31,Em l.length),(32,Em g)]) (fun g d=>[(1164,.spare 64 4 d.length d.length)]) (fun g=>l.length - g) 0 (a++[x]) h ⟨(.sm O O),⟨⟨_,rfl,.same⟩,ø⟩,rfl⟩ ?_
  clear h
  intro g d n d5 d1
  refine Jr fun b5=>(JLh (BL (decide ((g:Int) < (l.length:Int)))) (Jo O O O) O (G5 (b5 (Js fun b6=>Gr O (fun hb=>?_) (fun hb=>?_)))))
  ·
   have o:=Q1 hb
   obtain⟨c,d3,b7,b8,h⟩:=Ht n o
   replace h:=Zn b4 h
   refine Gm (b6 ?_)
   obtain⟨b9,t,h⟩:=Rm h
   refine Qi (fun j:(List G1)=>b9 j=some r) (fun j=>[(3,Eh x),(5,OW 1164 4 G1.av j),(30,E1 l),(31,Em l.length),(32,Em g)]) (fun j=>[(1164,.spare 64 4 j.length j.length)]) (fun Kj47 ej47=>?_) ?_
   ·
    refine Gq (Jr fun c0=>(JLh (Eh c) (Hb (f:=G1.av) (xs:=l) (y:=c) O O O H3 b7 O) O (JLh (.agg (G1.cs c)) (Gk Qd O O O) O (JLh (.ptr 1166 0) (Hk 1166 4 Jy O O) O (Ho (u:=.junk) (H7 (u:=.agg (G1.cs c)) (ds:=[I64 c.Box,I64 c.Slot.G3,I64 c.Slot.Tier,U8 c.Slot.Half]) Rk O O O O O O O O) (G5 (c0 (fzQ [(3,Eh x),(5,OW 1164 4 G1.av d),(9,Eh c),(30,E1 l),(31,Em l.length),(32,Em g)] [(1164,.spare 64 4 d.length d.length)] 1166 rfl rfl rfl ⟨⟨_,rfl,.same⟩,ø⟩ rfl ?_))))))))
    refine Jr fun c1=>(JLh (Eh c) (Ga J6 O O O) O (JLh (I64 c.Box) (Gg Gb O O O) O (JLh (Eh x) (Ga J6 O O O) O (JLh (I64 x.Box) (Gg Gb O O O) O (JLh (BL (decide (x.Box < c.Box))) (H01 O O O) O (G5 (c1 (JCc O h (fun h hb=>?_) (fun h hb=>?_)))))))))
    ·
     refine G2 (JLm (OW 1164 4 G1.av d) O (JLh (.agg (G1.cs c)) (Gk Qd O O O) O (JLh (E1 [c]) (He (xs:=[.agg (G1.cs c)]) O ⟨O,O,ø⟩ H3 Jy O O O O) O ?_)))
     obtain⟨c2,h⟩:=Ji h
     refine JLh (OW 1164 4 G1.av (d++[c])) (Yb (f:=G1.av) (xs:=d) (ys:=[c]) O O O O H3 Ge6 c2 (fun _=>O) (.inl O) O) O (JLm (OW 1164 4 G1.av (d++[c])) O (G5 (ej47 _ _ (d++[c]) h ⟨(.sm O O),⟨⟨_,rfl,.same⟩,ø⟩,rfl⟩)))
    ·
     refine Gm (ej47 _ _ d h ⟨(.sm O O),⟨⟨_,rfl,.same⟩,ø⟩,rfl⟩)
   ·intro j h
    replace h:=app1 t h
    refine G2 (JLh (I64 ((g+1:Nat):Int)) (Ja (Hp o b2) O O O) O (JLm (I64 ((g+1:Nat):Int)) O (G5 (d1 _ _ (g+1) j (app1 b8 h) (by omega) ⟨(.sm O O),⟨⟨_,rfl,.same⟩,ø⟩,rfl⟩))))
  ·
   have h:=app1 s (Hu n (Hh hb))
   refine Hr (b0 (Jr fun c3=>(JLm (OW 1164 4 G1.av d) O (JLm (OW 1164 4 G1.av d) O (G5 (c3 (Gs (fin1l (fun r:(List G1)=>(E1 r:AV)) h))))))))

def M_twistlocklaw23_holds (l : List G1) (id_ : Int) : Option Bool :=
 each (fun b d (c:Unit) a=>
  bif decide (b.Box=id_) then
  (some true)
  else
  (a ()))
 (fun(c:Unit)=>
  some false) l 0 ()
theorem Hd1 (l : List G1) (id_ : Int) (r : Bool) (h : M_twistlocklaw23_holds l id_ = some r) : Pure En 100 [E1 l, I64 id_] (· = BL r) := by
 unfold M_twistlocklaw23_holds at h
 refine Gx [.tmp 4] Tryz.func100 O O (Jr fun w=>(JLm (BL false) O (G5 (w (Js fun x=>Jr fun z=>(JLm (E1 l) O (JLl H3 O O O fun a0=>(JLm (I64 0) O (G5 (z (Gq ?_)))))))))))
 obtain⟨a1,i,j,g,h⟩:=Jc h
 refine Hn (fun a (c:Unit)=>each a1 i (List.drop a l) a c=some r) (fun a c=>[(1,I64 id_),(7,E1 l),(8,Em l.length),(9,Em a)]) (fun a c=>[]) (fun a=>l.length - a) 0 () h ⟨(.sm O O),ø,rfl⟩ ?_
 clear h
 intro a c d a4 a2
 refine Jr fun k=>(JLh (BL (decide ((a:Int) < (l.length:Int)))) (Jo O O O) O (G5 (k (Js fun m=>Gr O (fun hb=>?_) (fun hb=>?_)))))
 ·
  have e:=Q1 hb
  obtain⟨b,a3,n,o,h⟩:=Ht d e
  replace h:=Zn j h
  refine Gm (m (Js fun p=>Gq (Jr fun q=>(JLh (Eh b) (Hb (f:=G1.av) (xs:=l) (y:=b) O O O H3 n O) O (JLh (.agg (G1.cs b)) (Gk Qd O O O) O (JLh (.ptr 1167 0) (Hk 1167 4 Jy O O) O (Ho (u:=.junk) (H7 (u:=.agg (G1.cs b)) (ds:=[I64 b.Box,I64 b.Slot.G3,I64 b.Slot.Tier,U8 b.Slot.Half]) Rk O O O O O O O O) (G5 (q (fzQ [(1,I64 id_),(6,Eh b),(7,E1 l),(8,Em l.length),(9,Em a)] [] 1167 rfl rfl rfl ø rfl ?_))))))))))
  refine Jr fun s=>(JLh (Eh b) (Ga J6 O O O) O (JLh (I64 b.Box) (Gg Gb O O O) O (JLm (I64 id_) O (JLh (BL (decide (b.Box=id_))) (Qk O O O) O (G5 (s (JCc O h (fun h hb=>?_) (fun h hb=>?_))))))))
  ·
   refine Jr fun t=>(JLm (BL true) O (G5 (t (Gs (fin1 BL h)))))
  ·
   refine Gm (p (G2 (JLh (I64 ((a+1:Nat):Int)) (Ja (Hp e a0) O O O) O (JLm (I64 ((a+1:Nat):Int)) O (G5 (a2 _ _ (a+1) () (app1 o h) (by omega) ⟨(.sm O O),ø,rfl⟩))))))
 ·
  have h:=app1 g (Hu d (Hh hb))
  refine Hr (x (Jr fun v=>(JLm (BL false) O (G5 (v (Gs (fin1 BL h)))))))

def H76 (s:Gi) (size:Int):Option Unit:=
 some ()
theorem Qf0 (s:Gi) (size:Int) (r:Unit) (h:H76 s size=some r):Pure En 138 [.agg (Gi.cs s),U8 size] (·=.fn 162 [.dptr (Gi.cs s),.dptr [U8 size]]):=by
 unfold H76 at h
 refine Gx [.tmp 4] Tryz.func138 O O (Jr fun a=>(JLh (.ptr 1200 0) (Q4 (cs:=(Gi.cs s)) 1200 O O O O O) O (JLh (.ptr 1201 0) (Q4 (cs:=[U8 size]) 1201 O O O O O) O (JLm (.sc .nilFunc) O (G5 (a (Gn [(2,Ee s),(3,.ptr 1201 0)] [(1201,.box 5 [U8 size])] 1200 rfl rfl rfl ⟨⟨_,rfl,.boxEq rfl rfl⟩,ø⟩ rfl (by exact⟨.ptr,.conv (.same rfl),ø⟩) (Gn [(2,Ee s),(3,.dptr [U8 size])] [] 1201 rfl rfl rfl ø rfl (by exact⟨.conv (.same rfl),.ptr,ø⟩) ?_))))))))
 refine Jr fun b=>(JLh (.fn 162 [.dptr (Gi.cs s),.dptr [U8 size]]) (Q2 (cs:=[.dptr (Gi.cs s),.dptr [U8 size]]) O O) O (JLm (.fn 162 [.dptr (Gi.cs s),.dptr [U8 size]]) O (G5 (b (Gs (⟨[.fn 162 [.dptr (Gi.cs s),.dptr [U8 size]]],[],ø,O,⟨⟨_,O,.conv (.same O)⟩,ø⟩,O,congrArg (fun _:Unit=>(.fn 162 [.dptr (Gi.cs s),.dptr [U8 size]]:AV)) (M7 h)⟩))))))

def H99 (s:Gi) (size:Int):Option (List Slot):=
 bnd (H76 s size) fun e=>
 bnd (H12 s size) fun c=>
 each (fun b f (a:(List Slot)) d=>
  need (decide ((a.length+[b].length)*24≤140737488355328∧a.length+[b].length≤maxLen)) <|
  d (a++[b]))
 (fun(a:(List Slot))=>
  some a) c 0 []
theorem R80 (s:Gi) (size:Int) (r:(List Slot)) (h:H99 s size=some r):Pure En 101 [.agg (Gi.cs s),U8 size] (·=E9 r):=by
 unfold H99 at h
 refine Gx [.tmp 4] Tryz.func101 O O (Jr fun i=>(JLh (.ptr 1168 0) (Q4 (cs:=(Gi.cs s)) 1168 O O O O O) O (JLh (E9 ([]:List Slot)) (Jh 3 O O) O (G5 (i (Gn [(1,U8 size),(2,Ee s)] [] 1168 rfl rfl rfl ø rfl (by exact⟨.conv (.same rfl),.ptr,ø⟩) (Jr fun j=>(JLh (.ptr 1169 0) (G06 1169 [.sc (.slice none 0 0)] [.slice none 0 0] R93 ⟨.inl O,ø⟩ O O) O (Gf0 1169 0 1171 57 3 O O O (cs':=[OW 1171 3 Slot.av ([]:List Slot)]) O (G5 (j (Js fun k=>?_))))))))))))
 refine Jr fun l=>(JLh (.agg (Gi.cs s)) (Gk Jd O O O) O (JLm (U8 size) O ?_))
 obtain⟨x,m,h⟩:=Ge h
 refine JLh (.fn 162 [.dptr (Gi.cs s),.dptr [U8 size]]) (Gu O (Qf0 s size x m) Ra6 ⟨O,O,O,O,ø⟩) O (G5 (l (Gq ?_)))
 obtain⟨c,hy_8,h⟩:=Ge h
 obtain⟨z,n,o,e,h⟩:=Jc h
 refine R82 (ps:=[10]) [(5,.ptr 1169 0),(9,.fn 162 [.dptr (Gi.cs s),.dptr [U8 size]])] (c.map (fun y:Slot=>[.agg [I64 y.G3,I64 y.Tier,U8 y.Half]])) (fun d (b:(List Slot))=>each z n (List.drop d c) d b=some r) (fun b=>[(1171,.spare 57 3 b.length b.length),(1169,.box 133 [OW 1171 3 Slot.av b])]) [] rfl rfl rfl R9d (Q1c.down s size c hy_8) h ⟨(.sm O O),⟨⟨_,rfl,.same⟩,fbQ O ⟨.same rfl,trivial⟩,trivial⟩,rfl⟩ rfl (fun us_ hus_=>by obtain⟨_,_,rfl⟩:=Mo.1 hus_; rfl) (fun p_ hp_=>Nat.blt_eq.mp (by revert p_; decide)) (fun _=>(.sm O O)) (fun _=>rfl) ?_ ?_
 ·
  intro d us_ b hu_ p lr_ K8 e8
  obtain⟨q,rfl⟩:=Z4f hu_
  obtain⟨a,a1,t,v,h⟩:=Ht p q
  replace h:=Zn o h
  obtain⟨_,rfl⟩:=M5 t
  generalize c[d]=a at h ⊢
  change JC _ _ _ _ [(10,.agg [I64 a.G3,I64 a.Tier,U8 a.Half]),(5,.ptr 1169 0),(9,.fn 162 [.dptr (Gi.cs s),.dptr [U8 size]])] [(1171,.spare 57 3 b.length b.length),(1169,.box 133 [OW 1171 3 Slot.av b])]
  refine G2 (JLh (.ptr 1170 0) (Hk 1170 3 Rg O O) O (Ho (u:=.junk) (H7 (u:=.agg [I64 a.G3,I64 a.Tier,U8 a.Half]) (ds:=[I64 a.G3,I64 a.Tier,U8 a.Half]) Yd O O O O O O O O) (G5 (Qee [(5,.ptr 1169 0),(6,.dptr [I64 a.G3,I64 a.Tier,U8 a.Half])] [(1171,.spare 57 3 b.length b.length),(1169,.box 133 [OW 1171 3 Slot.av b])] 1170 rfl rfl rfl ⟨⟨_,rfl,.same⟩,⟨_,rfl,.boxEq rfl rfl⟩,ø⟩ rfl (by exact⟨.conv (.same rfl),.ptr,ø⟩) (R7e (Gq (G2 ?_)))))))
  refine JLh (OW 1171 3 Slot.av b) (J1 Gce O O O O) O (JLh (.agg [I64 a.G3,I64 a.Tier,U8 a.Half]) (Gk J2 O O O) O (JLh (E9 [a]) (He (xs:=[.agg [I64 a.G3,I64 a.Tier,U8 a.Half]]) O ⟨O,O,ø⟩ Y9 Rg O O O O) O ?_))
  obtain⟨w,h⟩:=Ji h
  refine JLh (OW 1171 3 Slot.av (b++[a])) (Yb (f:=Slot.av) (xs:=b) (ys:=[a]) O O O O Y9 J9b w (fun _=>O) (.inl O) O) O (Ho (u:=.junk) (H7 (u:=OW 1171 3 Slot.av (b++[a])) (ds:=[OW 1171 3 Slot.av (b++[a])]) Q31 O O O O O O O O) (G5 (e8 _ _ (b++[a]) (app1 v h) ⟨ø,⟨⟨_,O,.same⟩,⟨_,O,.boxL O ⟨.same O,ø⟩⟩,ø⟩,O⟩)))
 ·
  intro b h
  rw [Mm] at h
  replace h:=app1 e (Hu h (Nat.lt_irrefl _))
  refine k (Jr fun g=>(JLh (OW 1171 3 Slot.av b) (J1 Gce O O O O) O (JLm (OW 1171 3 Slot.av b) O (G5 (g (Qs (l':=[(4,E9 b)]) (L':=[(1169,.box 133 [E9 b])]) ⟨⟨.list O,ø⟩,⟨⟨_,O,.boxL O ⟨.list O,ø⟩⟩,ø⟩,O⟩ (Gn [(4,E9 b)] [] 1169 rfl rfl rfl ø rfl (by exact⟨.conv (.same rfl),ø⟩) (Gs (fin1 (fun r:(List Slot)=>(E9 r:AV)) h)))))))))

def Z2 (F:Nat) (s:Gi) (boxes:List Box) (home:H8 Int Int) (calls:Int):Option (J13×Int×(H8 Int Int)):=
 need (decide (calls≤9223372036854775807)) <|
 upto (fun j (e:(List (List G1))×(List (List Int))×(H8 Int Slot)) a5=>
  need (decide (10≤9223372036854775807)) <|
  upto (fun a6 (k:(List G1)) w=>
   each (fun f b3 (g:(List G1)) x=>
    jp (fun h=>
     bnd (some (H8.get e.2.2 f.ID (Slot.mk 0 0 0))) fun t=>
     bif ((((H8.has e.2.2 f.ID)&&(decide (t.Tier=(a6:Int))))&&(decide (f.Load < (j:Int))))&&(decide ((j:Int) < f.Discharge))) then
     (bnd (Yh g (G1.mk f.ID t)) fun u=>
      bnd (Yu s boxes u) fun a7=>
      bif a7 then
      (h u)
      else
      (h g))
     else
     (h g)) fun(a8:(List G1))=>
    x a8)
   (fun(g:(List G1))=>
    w g) boxes 0 k)
  (fun(k:(List G1))=>
   each (fun a b4 (b:(List G1)) y=>
    jp (fun l=>
     bnd (bif (!((decide ((j : Int) < a.Load)) || (decide (a.Discharge ≤ (j : Int))))) then M_twistlocklaw23_holds b a.ID else some default) fun a9 =>
     bif (((decide ((j:Int) < a.Load))||(decide (a.Discharge≤(j:Int))))||a9) then
     (l b)
     else
     (loop (fun z (c:(List G1)×Bool×Int)=>
       bif ((decide (c.2.2 < (s.Columns.length:Int)))&&(!c.2.1)) then
       (jp (fun m=>
         bnd (H99 s a.Size) fun b0=>
         each (fun n b5 (d:(List G1)×Bool) a0=>
          bnd (Yh d.1 (G1.mk a.ID n)) fun o=>
          bnd (some (H8.get home a.ID 0)) fun a1=>
          chk (a1+c.2.2) fun a2=>
          bnd (J1e a2 (s.Columns.length:Int)) fun p=>
          bnd (bif decide (n.G3=p) then Yu s boxes o else some default) fun a3=>
          bif ((decide (n.G3=p))&&a3) then
          (m (o,true))
          else
          (a0 (d.1,d.2)))
         (fun(d:(List G1)×Bool)=>
          m (d.1,d.2)) b0 0 (c.1,c.2.1)) fun(v:(List G1)×Bool)=>
        chk (c.2.2+1) fun a4=>
        z (v.1,v.2,a4))
       else
       (bif (!c.2.1) then
        (some ((J13.mk [] []),a.ID,home))
        else
        (l c.1))) F (b,false,0))) fun(b1:(List G1))=>
    y b1)
   (fun(b:(List G1))=>
    each (fun q b2 (i:(H8 Int Slot)) r=>
     r (H8.put i q.Box q.Slot))
    (fun(i:(H8 Int Slot))=>
     need (decide ((e.1.length+[b].length)*24≤140737488355328∧e.1.length+[b].length≤maxLen)) <|
     a5 ((e.1++[b]),e.2.1,i)) b 0 (H8.empty:H8 Int Slot)) boxes 0 k) (10:Int).toNat 0 [])
 (fun(e:(List (List G1))×(List (List Int))×(H8 Int Slot))=>
  some ((J13.mk e.1 e.2.1),0,home)) calls.toNat 0 ([],[],(H8.empty:H8 Int Slot))
abbrev Ke:List AV:=[LS 1 (E1) ([]:List (List G1)),LS 1 (E2) ([]:List (List Int))]
theorem Ged (F:Nat) (s:Gi) (boxes:List Box) (home:H8 Int Int) (calls:Int) (r:J13×Int×(H8 Int Int)) (h:Z2 F s boxes home calls=some r):J5 En 54 [.agg (Gi.cs s),E7 boxes,.mp 1048,I64 calls] [(1048,MP 92 Ks I64 home)] (fun av L'=>av=.tup [.agg [LS 1 (E1) r.1.States,LS 1 (E2) r.1.Water],I64 r.2.1]∧L'=[(1048,MP 92 Ks I64 r.2.2)]):=by
 unfold Z2 at h
 refine Jk [1048] [.cell 8 41,.tmp 9] Tryz.func54 O O (G18 O) (Jr fun m8=>(JLh (.ptr 1095 0) (Q4 (cs:=(Gi.cs s)) 1095 O O O O O) O (JLh (.ptr 1096 0) (G06 1096 Ke [.slice none 0 0,.slice none 0 0] H26 ⟨.inr ⟨_,O,O⟩,.inr ⟨_,O,O⟩,ø⟩ O O) O (JLm (I64 0) O (G5 (m8 ?_))))))
 refine fzQ [(1,E7 boxes),(2,.mp 1048),(3,I64 calls),(4,Ee s),(8,.ptr 1096 0)] [(1048,MP 92 Ks I64 home),(1096,.box 41 Ke)] 1095 rfl rfl rfl ⟨fmQ O,⟨_,rfl,.boxEq rfl rfl⟩,ø⟩ rfl (Jr fun m9=>(JLh (.ptr 1097 0) (G06 1097 [.sc (.slice none 0 0),LS 1 (E2) ([]:List (List Int))] [.slice none 0 0,.slice none 0 0] H26 ⟨.inl O,.inr ⟨_,O,O⟩,ø⟩ O O) O (Gf0 1097 0 1105 44 1 O O O (cs':=[OW 1105 1 (E1) ([]:List (List G1)),LS 1 (E2) ([]:List (List Int))]) O (G5 (m9 ?_)))))
 refine Jr fun n0=>(JLh (.mp 1103) (Ha4 1103 Ks Slot.av O O) O (JLm (.mp 1103) O (G5 (n0 (Js fun n1=>Jr fun n2=>(JLm (I64 0) O (G5 (n2 (Gq ?_)))))))))
 obtain⟨n3,h⟩:=Ji h
 obtain⟨b6,n4,n5,g6,h⟩:=Hf5 h
 refine Hn (fun g (c:(List (List G1))×(List (List Int))×(H8 Int Slot))=>upto b6 n4 (calls.toNat - g) g c=some r) (fun g c=>[(1,E7 boxes),(2,.mp 1048),(3,I64 calls),(4,Ee s),(8,.ptr 1096 0),(10,.ptr 1097 0),(11,.mp 1103),(12,Em g)]) (fun g c=>[(1048,MP 92 Ks I64 home),(1105,.spare 44 1 c.1.length c.1.length),(1103,MP 163 Ks Slot.av c.2.2),(1096,.box 41 Ke),(1097,.box 41 [OW 1105 1 (E1) c.1,LS 1 (E2) c.2.1])]) (fun g=>calls.toNat - g) 0 ([],[],(H8.empty:H8 Int Slot)) h ⟨(.sm O O),⟨fmQ O,⟨_,rfl,.same⟩,fmQ O,fbQ O (.sm O O),fbQ O (.sm O O),ø⟩,rfl⟩ ?_
 clear h
 intro g c g3 K6 e6
 refine Js fun n6=>Jr fun n7=>(JLm (Em g) O (JLm (I64 calls) O (JLh (BL (decide ((g:Int) < calls))) (Jo O O O) O (G5 (n7 (Gr O (fun hb=>?_) (fun hb=>?_)))))))
 ·
  have g4:=H8b hb
  obtain⟨q1,n8,h⟩:=H7e g3 g4
  replace h:=Jb4 n5 h
  refine Gm (n6 (Js fun n9=>Gq (Jr fun g7=>(JLh (E1 ([]:List G1)) (Jh 4 O O) O (G5 (g7 (Js fun g8=>Jr fun g9=>(JLm (I64 0) O (G5 (g9 (Gq ?_)))))))))))
  obtain⟨h0,h⟩:=Ji h
  obtain⟨o0,h1,h2,c6,h⟩:=Hf5 h
  refine Hn (fun k (a5:(List G1))=>upto o0 h1 ((10:Int).toNat - k) k a5=some r) (fun k a5=>[(1,E7 boxes),(2,.mp 1048),(3,I64 calls),(4,Ee s),(8,.ptr 1096 0),(10,.ptr 1097 0),(11,.mp 1103),(12,Em g),(13,E1 a5),(14,Em k)]) (fun k a5=>[(1048,MP 92 Ks I64 home),(1105,.spare 44 1 c.1.length c.1.length),(1103,MP 163 Ks Slot.av c.2.2),(1096,.box 41 Ke),(1097,.box 41 [OW 1105 1 (E1) c.1,LS 1 (E2) c.2.1])]) (fun k=>(10:Int).toNat - k) 0 [] h ⟨(.sm O O),⟨fmQ O,⟨_,rfl,.same⟩,fmQ O,fbQ O (.sm O O),fbQ O (.sm O O),ø⟩,rfl⟩ ?_
  clear h
  intro k a5 b5 q2 o1
  refine Js fun h3=>Jr fun h4=>(JLm (Em k) O (JLh (BL (decide ((k:Int) < 10))) (Jo O O O) O (G5 (h4 (Gr O (fun hb=>?_) (fun hb=>?_))))))
  ·
   have b7:=H8b hb
   obtain⟨p5,h5,h⟩:=H7e b5 b7
   replace h:=Jb4 h2 h
   refine Gm (h3 (Js fun h6=>Gq (Jr fun h7=>(JLm (E7 boxes) O (JLl Y1 O O O fun h8=>(JLm (I64 0) O (G5 (h7 (Gq ?_)))))))))
   obtain⟨o2,h9,i0,c7,h⟩:=Jc h
   refine Hn (fun w (a1:(List G1))=>each o2 h9 (List.drop w boxes) w a1=some r) (fun w a1=>[(1,E7 boxes),(2,.mp 1048),(3,I64 calls),(4,Ee s),(8,.ptr 1096 0),(10,.ptr 1097 0),(11,.mp 1103),(12,Em g),(13,E1 a1),(14,Em k),(39,E7 boxes),(40,Em boxes.length),(41,Em w)]) (fun w a1=>[(1048,MP 92 Ks I64 home),(1105,.spare 44 1 c.1.length c.1.length),(1103,MP 163 Ks Slot.av c.2.2),(1096,.box 41 Ke),(1097,.box 41 [OW 1105 1 (E1) c.1,LS 1 (E2) c.2.1])]) (fun w=>boxes.length - w) 0 a5 h ⟨(.sm O O),⟨fmQ O,⟨_,rfl,.same⟩,fmQ O,fbQ O (.sm O O),fbQ O (.sm O O),ø⟩,rfl⟩ ?_
   clear h
   intro w a1 b8 q3 o3
   refine Jr fun i1=>(JLh (BL (decide ((w:Int) < (boxes.length:Int)))) (Jo O O O) O (G5 (i1 (Js fun i2=>Gr O (fun hb=>?_) (fun hb=>?_)))))
   ·
    have b9:=Q1 hb
    obtain⟨e,p6,i3,i4,h⟩:=Ht b8 b9
    replace h:=Zn i0 h
    refine Gm (i2 ?_)
    obtain⟨i5,c8,h⟩:=Rm h
    refine Qi (fun a6:(List G1)=>i5 a6=some r) (fun a6=>[(1,E7 boxes),(2,.mp 1048),(3,I64 calls),(4,Ee s),(8,.ptr 1096 0),(10,.ptr 1097 0),(11,.mp 1103),(12,Em g),(13,E1 a6),(14,Em k),(39,E7 boxes),(40,Em boxes.length),(41,Em w)]) (fun a6=>[(1048,MP 92 Ks I64 home),(1105,.spare 44 1 c.1.length c.1.length),(1103,MP 163 Ks Slot.av c.2.2),(1096,.box 41 Ke),(1097,.box 41 [OW 1105 1 (E1) c.1,LS 1 (E2) c.2.1])]) (fun Kj45 ej45=>?_) ?_
    ·
     refine Gq (Jr fun i7=>(JLh (Ei e) (Hb (f:=Box.av) (xs:=boxes) (y:=e) O O O Y1 i3 O) O (JLh (.agg (Box.cs e)) (Gk R4 O O O) O (JLh (.ptr 1098 0) (Hk 1098 9 Qx O O) O (Ho (u:=.junk) (H7 (u:=.agg (Box.cs e)) (ds:=(Box.cs e)) Rh O O O O O O O O) (G5 (i7 ?_)))))))
     refine fzQ [(1,E7 boxes),(2,.mp 1048),(3,I64 calls),(4,Ee s),(8,.ptr 1096 0),(10,.ptr 1097 0),(11,.mp 1103),(12,Em g),(13,E1 a1),(14,Em k),(16,Ei e),(39,E7 boxes),(40,Em boxes.length),(41,Em w)] [(1048,MP 92 Ks I64 home),(1105,.spare 44 1 c.1.length c.1.length),(1103,MP 163 Ks Slot.av c.2.2),(1096,.box 41 Ke),(1097,.box 41 [OW 1105 1 (E1) c.1,LS 1 (E2) c.2.1])] 1098 rfl rfl rfl ⟨fmQ O,⟨_,rfl,.same⟩,fmQ O,⟨_,rfl,.boxEq rfl rfl⟩,⟨_,rfl,.boxEq rfl rfl⟩,ø⟩ rfl ?_
     refine Jr fun i8=>(JLm (.mp 1103) O (JLh (Ei e) (Ga Qp O O O) O (JLh (I64 e.ID) (Gg Gb O O O) O ?_)))
     obtain⟨l,i9,h⟩:=Ge h
     refine JLh (.tup [.agg (Slot.cs l),BL (H8.has c.2.2 e.ID)]) (((M7 i9) ▸ R04 (av:=Slot.av) (m:=c.2.2) (a:=e.ID) (Slot.mk 0 0 0) (.agg #[E0,E0,.int .u8 0]) O O O O J7c Q86 Ye2 O)) O (JLm (.tup [.agg (Slot.cs l),BL (H8.has c.2.2 e.ID)]) O (JLh (.agg (Slot.cs l)) (Gz O O O) O (JLh (BL (H8.has c.2.2 e.ID)) (Gz O O O) O (JLh (.ptr 1099 0) (Hk 1099 3 Rg O O) O (Ho (u:=.junk) (H7 (u:=.agg (Slot.cs l)) (ds:=[I64 l.G3,I64 l.Tier,U8 l.Half]) Yd O O O O O O O O) (JLm (BL (H8.has c.2.2 e.ID)) O (G5 (i8 ?_))))))))
     refine fzQ [(1,E7 boxes),(2,.mp 1048),(3,I64 calls),(4,Ee s),(8,.ptr 1096 0),(10,.ptr 1097 0),(11,.mp 1103),(12,Em g),(13,E1 a1),(14,Em k),(16,Ei e),(17,Ek l),(18,BL (H8.has c.2.2 e.ID)),(39,E7 boxes),(40,Em boxes.length),(41,Em w)] [(1048,MP 92 Ks I64 home),(1105,.spare 44 1 c.1.length c.1.length),(1103,MP 163 Ks Slot.av c.2.2),(1096,.box 41 Ke),(1097,.box 41 [OW 1105 1 (E1) c.1,LS 1 (E2) c.2.1])] 1099 rfl rfl rfl ⟨fmQ O,⟨_,rfl,.same⟩,fmQ O,⟨_,rfl,.boxEq rfl rfl⟩,⟨_,rfl,.boxEq rfl rfl⟩,ø⟩ rfl ?_
     refine Jr fun j0=>(JLm (BL (H8.has c.2.2 e.ID)) O (JLm (BL (H8.has c.2.2 e.ID)) O (JLo (.dptr [I64 l.Tier,U8 l.Half]) [] O .sct ø (fun hc=>Ga Qv O O O) O (JLo (I64 l.Tier) [54] O .sct ⟨Ua,ø⟩ (fun hc=>Gg Gb O O O) O (JLo (Em k) [] O .sct ø (fun hc=>G6 O O) O (JLo (BL (decide (l.Tier=(k:Int)))) [55,56] O .sct ⟨Ua,Ua,ø⟩ (fun hc=>Qk O O O) O (JLh (BL ((H8.has c.2.2 e.ID)&&(decide (l.Tier=(k:Int))))) (Y4 O O O O) O (JLm (BL ((H8.has c.2.2 e.ID)&&(decide (l.Tier=(k:Int))))) O (JLo (.dptr ((Box.cs e).drop 5)) [] O .sct ø (fun hc=>Ga H06 O O O) O (JLo (I64 e.Load) [60] O .sct ⟨Ua,ø⟩ (fun hc=>Gg Gb O O O) O (JLo (Em g) [] O .sct ø (fun hc=>G6 O O) O (JLo (BL (decide (e.Load < (g:Int)))) [61,62] O .sct ⟨Ua,Ua,ø⟩ (fun hc=>Jo O O O) O (JLh (BL (((H8.has c.2.2 e.ID)&&(decide (l.Tier=(k:Int))))&&(decide (e.Load < (g:Int))))) (Y4 O O O O) O ?_)))))))))))))
     refine JLm (BL (((H8.has c.2.2 e.ID)&&(decide (l.Tier=(k:Int))))&&(decide (e.Load < (g:Int))))) O (JLo (Em g) [] O .sct ø (fun hc=>G6 O O) O (JLo (.dptr ((Box.cs e).drop 6)) [] O .sct ø (fun hc=>Ga H81 O O O) O (JLo (I64 e.Discharge) [67] O .sct ⟨Ua,ø⟩ (fun hc=>Gg Gb O O O) O (JLo (BL (decide ((g:Int) < e.Discharge))) [66,68] O .sct ⟨Ua,Ua,ø⟩ (fun hc=>Jo O O O) O (JLh (BL ((((H8.has c.2.2 e.ID)&&(decide (l.Tier=(k:Int))))&&(decide (e.Load < (g:Int))))&&(decide ((g:Int) < e.Discharge)))) (Y4 O O O O) O (G5 (j0 (JCc O h (fun h hb=>?_) (fun h hb=>?_)))))))))
     ·
      refine Jr fun j1=>(JLm (E1 a1) O (JLh (Ei e) (Ga Qp O O O) O (JLh (I64 e.ID) (Gg Gb O O O) O (JLh (.agg (Slot.cs l)) (Gk J2 O O O) O (JLh (.agg [I64 e.ID,I64 l.G3,I64 l.Tier,U8 l.Half]) (Hg (cs:=[I64 e.ID,I64 l.G3,I64 l.Tier,U8 l.Half]) [(0,1),(1,3)] [I64 0,I64 0,I64 0,U8 0] [E0,E0,E0,.int .u8 0] G37 G99 (zzQ O) O O) O ?_)))))
      obtain⟨a3,j2,h⟩:=Ge h
      refine JLh (E1 a3) (Gu O (Gfc a1 (G1.mk e.ID l) a3 j2) Q96 ⟨O,O,O,O,ø⟩) O (JLm (E1 a3) O (G5 (j1 (Jr fun j3=>(JLh (.agg (Gi.cs s)) (Gk Jd O O O) O (JLm (E7 boxes) O (JLm (E1 a3) O ?_)))))))
      obtain⟨g5,j4,h⟩:=Ge h
      refine JLh (BL g5) (Gu O (Ga1 s boxes a3 g5 j4) H85 ⟨O,O,O,O,O,O,ø⟩) O (G5 (j3 (JCc O h (fun h hb=>?_) (fun h hb=>?_))))
      ·
       refine G2 (JLm (E1 a3) O (JLm (E1 a3) O (G5 (ej45 _ _ a3 h ⟨(.sm O O),⟨fmQ O,⟨_,rfl,.same⟩,fmQ O,fbQ O (.sm O O),fbQ O (.sm O O),ø⟩,rfl⟩))))
      ·
       refine Gm (ej45 _ _ a1 h ⟨(.sm O O),⟨fmQ O,⟨_,rfl,.same⟩,fmQ O,fbQ O (.sm O O),fbQ O (.sm O O),ø⟩,rfl⟩)
     ·
      refine Gm (ej45 _ _ a1 h ⟨(.sm O O),⟨fmQ O,⟨_,rfl,.same⟩,fmQ O,fbQ O (.sm O O),fbQ O (.sm O O),ø⟩,rfl⟩)
    ·intro a6 h
     replace h:=app1 c8 h
     refine G2 (JLh (I64 ((w+1:Nat):Int)) (Ja (Hp b9 h8) O O O) O (JLm (I64 ((w+1:Nat):Int)) O (G5 (o3 _ _ (w+1) a6 (app1 i4 h) (by omega) ⟨(.sm O O),⟨fmQ O,⟨_,rfl,.same⟩,fmQ O,fbQ O (.sm O O),fbQ O (.sm O O),ø⟩,rfl⟩))))
   ·
    have h:=app1 c7 (Hu b8 (Hh hb))
    refine Hr (h6 (G2 (JLm (Em k) O (JLh (I64 ((k+1:Nat):Int)) (Ja (Hp b7 (H25 h0)) O O O) O (JLm (I64 ((k+1:Nat):Int)) O (G5 (o1 _ _ (k+1) a1 (app1 h5 h) (by omega) ⟨(.sm O O),⟨fmQ O,⟨_,rfl,.same⟩,fmQ O,fbQ O (.sm O O),fbQ O (.sm O O),ø⟩,rfl⟩)))))))
  ·
   have h:=app1 c6 (H7f b5 (G72 hb))
   refine Hr (g8 (Js fun j5=>Jr fun j6=>(JLm (E7 boxes) O (JLl Y1 O O O fun j7=>(JLm (I64 0) O (G5 (j6 (Gq ?_))))))))
   obtain⟨o4,j8,j9,c9,h⟩:=Jc h
   refine Hn (fun n (i:(List G1))=>each o4 j8 (List.drop n boxes) n i=some r) (fun n i=>[(1,E7 boxes),(2,.mp 1048),(3,I64 calls),(4,Ee s),(8,.ptr 1096 0),(10,.ptr 1097 0),(12,Em g),(13,E1 i),(83,E7 boxes),(84,Em boxes.length),(85,Em n)]) (fun n i=>[(1048,MP 92 Ks I64 home),(1105,.spare 44 1 c.1.length c.1.length),(1103,MP 163 Ks Slot.av c.2.2),(1096,.box 41 Ke),(1097,.box 41 [OW 1105 1 (E1) c.1,LS 1 (E2) c.2.1])]) (fun n=>boxes.length - n) 0 a5 h ⟨(.sm O O),⟨fmQ O,⟨_,rfl,.same⟩,fmQ O,fbQ O (.sm O O),fbQ O (.sm O O),ø⟩,rfl⟩ ?_
   clear h
   intro n i c0 q4 o5
   refine Jr fun k0=>(JLh (BL (decide ((n:Int) < (boxes.length:Int)))) (Jo O O O) O (G5 (k0 (Js fun k1=>Gr O (fun hb=>?_) (fun hb=>?_)))))
   ·
    have c1:=Q1 hb
    obtain⟨d,p7,k2,k3,h⟩:=Ht c0 c1
    replace h:=Zn j9 h
    refine Gm (k1 ?_)
    obtain⟨k4,d0,h⟩:=Rm h
    refine Qi (fun a7:(List G1)=>k4 a7=some r) (fun a7=>[(1,E7 boxes),(2,.mp 1048),(3,I64 calls),(4,Ee s),(8,.ptr 1096 0),(10,.ptr 1097 0),(12,Em g),(13,E1 a7),(83,E7 boxes),(84,Em boxes.length),(85,Em n)]) (fun a7=>[(1048,MP 92 Ks I64 home),(1105,.spare 44 1 c.1.length c.1.length),(1103,MP 163 Ks Slot.av c.2.2),(1096,.box 41 Ke),(1097,.box 41 [OW 1105 1 (E1) c.1,LS 1 (E2) c.2.1])]) (fun Kj59 ej59=>?_) ?_
    ·
     refine Gq (Jr fun k5=>(JLh (Ei d) (Hb (f:=Box.av) (xs:=boxes) (y:=d) O O O Y1 k2 O) O (JLh (.agg (Box.cs d)) (Gk R4 O O O) O (JLh (.ptr 1100 0) (Hk 1100 9 Qx O O) O (Ho (u:=.junk) (H7 (u:=.agg (Box.cs d)) (ds:=(Box.cs d)) Rh O O O O O O O O) (G5 (k5 ?_)))))))
     refine fzQ [(1,E7 boxes),(2,.mp 1048),(3,I64 calls),(4,Ee s),(8,.ptr 1096 0),(10,.ptr 1097 0),(12,Em g),(13,E1 i),(21,Ei d),(83,E7 boxes),(84,Em boxes.length),(85,Em n)] [(1048,MP 92 Ks I64 home),(1105,.spare 44 1 c.1.length c.1.length),(1103,MP 163 Ks Slot.av c.2.2),(1096,.box 41 Ke),(1097,.box 41 [OW 1105 1 (E1) c.1,LS 1 (E2) c.2.1])] 1100 rfl rfl rfl ⟨fmQ O,⟨_,rfl,.same⟩,fmQ O,⟨_,rfl,.boxEq rfl rfl⟩,⟨_,rfl,.boxEq rfl rfl⟩,ø⟩ rfl (Js fun k6=>?_)
     refine Jr fun k7=>(JLh (.dptr ((Box.cs d).drop 5)) (Ga H06 O O O) O (JLh (I64 d.Load) (Gg Gb O O O) O (JLm (Em g) O (JLh (BL (decide ((g:Int) < d.Load))) (H01 O O O) O (JLm (BL (decide ((g:Int) < d.Load))) O (JLo (Em g) [] O .scf ø (fun hc=>G6 O O) O (JLo (.dptr ((Box.cs d).drop 6)) [] O .scf ø (fun hc=>Ga H81 O O O) O (JLo (I64 d.Discharge) [95] O .scf ⟨Ua,ø⟩ (fun hc=>Gg Gb O O O) O (JLo (BL (decide (d.Discharge≤(g:Int)))) [94,96] O .scf ⟨Ua,Ua,ø⟩ (fun hc=>H24 O O O) O (JLh (BL ((decide ((g:Int) < d.Load))||(decide (d.Discharge≤(g:Int))))) (G94 O O O O) O (JLm (BL ((decide ((g:Int) < d.Load))||(decide (d.Discharge≤(g:Int))))) O (JLo (E1 i) [] O .scf ø (fun hc=>G6 O O) O (JLo (Ei d) [] O .scf ø (fun hc=>Ga Qp O O O) O ?_)))))))))))))
     refine JLo (I64 d.ID) [101] O .scf ⟨Ua,ø⟩ (fun hc=>Gg Gb O O O) O ?_
     obtain⟨c2,k8,h⟩:=Ge h
     refine JLo (BL c2) [100,102] O .scf ⟨Ua,Ua,ø⟩ (fun hc=>Gu (args:=[E1 i,I64 d.ID]) O (Hd1 i d.ID c2 (H4 hc k8)) Rb8 ⟨O,O,O,O,ø⟩) O (JLh (BL (((decide ((g:Int) < d.Load))||(decide (d.Discharge≤(g:Int))))||c2)) (G94 O O O O) O (G5 (k7 (JCc O h (fun h hb=>?_) (fun h hb=>?_)))))
     ·
      refine Hr (ej59 _ _ i h ⟨(.sm O O),⟨fmQ O,⟨_,rfl,.same⟩,fmQ O,fbQ O (.sm O O),fbQ O (.sm O O),ø⟩,rfl⟩)
     ·
      refine Gm (k6 (Jr fun k9=>(JLm (BL false) O (G5 (k9 (Js fun l0=>Jr fun l1=>(JLm (I64 0) O (G5 (l1 (Gq ?_))))))))))
      obtain⟨o6,l2,h⟩:=H41 h
      refine Hn (fun a8 (j:(List G1)×Bool×Int)=>loop o6 a8 j=some r) (fun a8 j=>[(1,E7 boxes),(2,.mp 1048),(3,I64 calls),(4,Ee s),(8,.ptr 1096 0),(10,.ptr 1097 0),(12,Em g),(13,E1 j.1),(21,Ei d),(22,BL j.2.1),(23,I64 j.2.2),(83,E7 boxes),(84,Em boxes.length),(85,Em n)]) (fun a8 j=>[(1048,MP 92 Ks I64 home),(1105,.spare 44 1 c.1.length c.1.length),(1103,MP 163 Ks Slot.av c.2.2),(1096,.box 41 Ke),(1097,.box 41 [OW 1105 1 (E1) c.1,LS 1 (E2) c.2.1])]) (fun a8=>a8) F (i,false,0) h ⟨(.sm O O),⟨fmQ O,⟨_,rfl,.same⟩,fmQ O,fbQ O (.sm O O),fbQ O (.sm O O),ø⟩,rfl⟩ ?_
      clear h
      intro a8 j l3 q5 o7
      obtain⟨o8,p8,hm_67,l4,h⟩:=Gd3 l3
      replace h:=R11 l2 h
      refine Js fun l5=>Jr fun l6=>(JLm (I64 j.2.2) O (JLh (Ee s) (Ga J8 O O O) O (JLh (E3 s.Columns) (Gg Jp O O O) O (JLl Hy O O O fun p1=>(JLh (BL (decide (j.2.2 < (s.Columns.length:Int)))) (Jo O O O) O (JLm (BL (decide (j.2.2 < (s.Columns.length:Int)))) O (JLo (BL j.2.1) [] O .sct ø (fun hc=>G6 O O) O (JLo (BL (!j.2.1)) [111] O .sct ⟨Ua,ø⟩ (fun hc=>Y8 (b:=j.2.1) O O) O (JLh (BL ((decide (j.2.2 < (s.Columns.length:Int)))&&(!j.2.1))) (Y4 O O O O) O (G5 (l6 (JCc O h (fun h hb=>?_) (fun h hb=>?_)))))))))))))
      ·
       refine Gm (l5 ?_)
       obtain⟨l7,d1,h⟩:=Rm h
       refine Qi (fun a4:(List G1)×Bool=>l7 a4=some r) (fun a4=>[(1,E7 boxes),(2,.mp 1048),(3,I64 calls),(4,Ee s),(8,.ptr 1096 0),(10,.ptr 1097 0),(12,Em g),(13,E1 a4.1),(21,Ei d),(22,BL a4.2),(23,I64 j.2.2),(83,E7 boxes),(84,Em boxes.length),(85,Em n)]) (fun a4=>[(1048,MP 92 Ks I64 home),(1105,.spare 44 1 c.1.length c.1.length),(1103,MP 163 Ks Slot.av c.2.2),(1096,.box 41 Ke),(1097,.box 41 [OW 1105 1 (E1) c.1,LS 1 (E2) c.2.1])]) (fun Kj70 ej70=>?_) ?_
       ·
        refine Gq (Jr fun l8=>(JLh (.agg (Gi.cs s)) (Gk Jd O O O) O (JLh (.dptr ((Box.cs d).drop 2)) (Ga G28 O O O) O (JLh (U8 d.Size) (Gg Hx O O O) O ?_))))
        obtain⟨a2,l9,h⟩:=Ge h
        refine JLh (E9 a2) (Gu O (R80 s d.Size a2 l9) Rb7 ⟨O,O,O,O,ø⟩) O (JLl Y9 O O O fun d2=>(JLm (I64 0) O (G5 (l8 (Gq ?_)))))
        obtain⟨o9,m0,m1,d3,h⟩:=Jc h
        refine Hn (fun x (t:(List G1)×Bool)=>each o9 m0 (List.drop x a2) x t=some r) (fun x t=>[(1,E7 boxes),(2,.mp 1048),(3,I64 calls),(4,Ee s),(8,.ptr 1096 0),(10,.ptr 1097 0),(12,Em g),(13,E1 t.1),(21,Ei d),(22,BL t.2),(23,I64 j.2.2),(83,E7 boxes),(84,Em boxes.length),(85,Em n),(119,E9 a2),(120,Em a2.length),(121,Em x)]) (fun x t=>[(1048,MP 92 Ks I64 home),(1105,.spare 44 1 c.1.length c.1.length),(1103,MP 163 Ks Slot.av c.2.2),(1096,.box 41 Ke),(1097,.box 41 [OW 1105 1 (E1) c.1,LS 1 (E2) c.2.1])]) (fun x=>a2.length - x) 0 (j.1,j.2.1) h ⟨(.sm O O),⟨fmQ O,⟨_,rfl,.same⟩,fmQ O,fbQ O (.sm O O),fbQ O (.sm O O),ø⟩,rfl⟩ ?_
        clear h
        intro x t c3 q6 p0
        refine Jr fun d4=>(JLh (BL (decide ((x:Int) < (a2.length:Int)))) (Jo O O O) O (G5 (d4 (Js fun d5=>Gr O (fun hb=>?_) (fun hb=>?_)))))
        ·
         have c4:=Q1 hb
         obtain⟨p,p9,m2,m3,h⟩:=Ht c3 c4
         replace h:=Zn m1 h
         refine Gm (d5 (Js fun d6=>Gq (Jr fun d7=>(JLh (Ek p) (Hb (f:=Slot.av) (xs:=a2) (y:=p) O O O Y9 m2 O) O (JLh (.agg (Slot.cs p)) (Gk J2 O O O) O (JLh (.ptr 1101 0) (Hk 1101 3 Rg O O) O (Ho (u:=.junk) (H7 (u:=.agg (Slot.cs p)) (ds:=[I64 p.G3,I64 p.Tier,U8 p.Half]) Yd O O O O O O O O) (G5 (d7 ?_)))))))))
         refine fzQ [(1,E7 boxes),(2,.mp 1048),(3,I64 calls),(4,Ee s),(8,.ptr 1096 0),(10,.ptr 1097 0),(12,Em g),(13,E1 t.1),(21,Ei d),(22,BL t.2),(23,I64 j.2.2),(25,Ek p),(83,E7 boxes),(84,Em boxes.length),(85,Em n),(119,E9 a2),(120,Em a2.length),(121,Em x)] [(1048,MP 92 Ks I64 home),(1105,.spare 44 1 c.1.length c.1.length),(1103,MP 163 Ks Slot.av c.2.2),(1096,.box 41 Ke),(1097,.box 41 [OW 1105 1 (E1) c.1,LS 1 (E2) c.2.1])] 1101 rfl rfl rfl ⟨fmQ O,⟨_,rfl,.same⟩,fmQ O,⟨_,rfl,.boxEq rfl rfl⟩,⟨_,rfl,.boxEq rfl rfl⟩,ø⟩ rfl ?_
         refine Jr fun d8=>(JLm (E1 t.1) O (JLh (Ei d) (Ga Qp O O O) O (JLh (I64 d.ID) (Gg Gb O O O) O (JLh (.agg (Slot.cs p)) (Gk J2 O O O) O (JLh (.agg [I64 d.ID,I64 p.G3,I64 p.Tier,U8 p.Half]) (Hg (cs:=[I64 d.ID,I64 p.G3,I64 p.Tier,U8 p.Half]) [(0,1),(1,3)] [I64 0,I64 0,I64 0,U8 0] [E0,E0,E0,.int .u8 0] G37 G99 (zzQ O) O O) O ?_)))))
         obtain⟨z,d9,h⟩:=Ge h
         refine JLh (E1 z) (Gu O (Gfc t.1 (G1.mk d.ID p) z d9) Q96 ⟨O,O,O,O,ø⟩) O (JLm (E1 z) O (G5 (d8 (Js fun e0=>?_))))
         refine Qs (l':=[(1,E7 boxes),(2,.mp 1048),(3,I64 calls),(4,Ee s),(8,.ptr 1096 0),(10,.ptr 1097 0),(12,Em g),(13,E1 t.1),(21,Ei d),(22,BL t.2),(23,I64 j.2.2),(25,Ek p),(26,E1 z),(83,E7 boxes),(84,Em boxes.length),(85,Em n),(119,E9 a2),(120,Em a2.length),(121,Em x)]) (L':=[(1048,MP 92 Ks I64 home),(1105,.spare 44 1 c.1.length c.1.length),(1103,MP 163 Ks Slot.av c.2.2),(1096,.box 41 Ke),(1097,.box 41 [OW 1105 1 (E1) c.1,LS 1 (E2) c.2.1])]) ⟨(.sm O O),⟨fmQ O,⟨_,rfl,.same⟩,fmQ O,fbQ O (.sm O O),fbQ O (.sm O O),ø⟩,rfl⟩ ?_
         obtain⟨m4,e1,h⟩:=Ge h
         obtain⟨m5,e2,h⟩:=J0 h
         obtain⟨a9,b2,h⟩:=Ge h
         obtain⟨b0,e3,h⟩:=Ge h
         refine JC_d0 J9 (by kernel_rfl) (Dq (Ek p) (Ga J7 O O O) O (Dq (I64 p.G3) (Gg Gb O O O) O (Dq (.mp 1048) (G6 O O) O (Dq (Ei d) (Ga Qp O O O) O (Dq (I64 d.ID) (Gg Gb O O O) O (Dq (I64 m4) (((M7 e1) ▸ Jc0 (av:=I64) (m:=home) (a:=d.ID) 0 E0 O O O O J7c Gf2 H3c O)) O (Dq (I64 j.2.2) (G6 O O) O (Dq (I64 m5) (Ja e2 O O O) O (Dq (Ee s) (Ga J8 O O O) O (Dq (E3 s.Columns) (Gg Jp O O O) O (Dq (Em s.Columns.length) (H69 (f:=G3.av) (xs:=s.Columns) Hy O O) O (Dq (I64 a9) (Jff (Yg b2).1 (Yg b2).2 O O O) O (Dq (BL (decide (p.G3=a9))) (Qk O O O) O ?_)))))))))))))
         refine Dq (BL (decide (p.G3=a9))) (G6 O O) O (Do (.agg (Gi.cs s)) [] O .sct ø (fun hc=>Gk Jd O O O) O (Do (E7 boxes) [] O .sct ø (fun hc=>G6 O O) O (Do (E1 z) [] O .sct ø (fun hc=>G6 O O) O (Do (BL b0) [145,146,147] O .sct ⟨Ua,Ua,Ua,ø⟩ (fun hc=>Gu (args:=[.agg (Gi.cs s),E7 boxes,E1 z]) O (Ga1 s boxes z b0 (H4 hc e3)) H85 ⟨O,O,O,O,O,O,ø⟩) O (Dq (BL ((decide (p.G3=a9))&&b0)) (Y4 O O O O) O (Dnil (e0 (JCc O h (fun h hb=>?_) (fun h hb=>?_)))))))))
         ·
          refine Jr fun e4=>(JLm (E1 z) O (JLm (E1 z) O (JLm (BL true) O (G5 (e4 (Hr (ej70 _ _ (z,true) h ⟨(.sm O O),⟨fmQ O,⟨_,rfl,.same⟩,fmQ O,fbQ O (.sm O O),fbQ O (.sm O O),ø⟩,rfl⟩)))))))
         ·
          refine Gm (d6 (G2 (JLh (I64 ((x+1:Nat):Int)) (Ja (Hp c4 d2) O O O) O (JLm (I64 ((x+1:Nat):Int)) O (G5 (p0 _ _ (x+1) (t.1,t.2) (app1 m3 h) (by omega) ⟨(.sm O O),⟨fmQ O,⟨_,rfl,.same⟩,fmQ O,fbQ O (.sm O O),fbQ O (.sm O O),ø⟩,rfl⟩))))))
        ·
         have h:=app1 d3 (Hu c3 (Hh hb))
         refine Hr (ej70 _ _ (t.1,t.2) h ⟨(.sm O O),⟨fmQ O,⟨_,rfl,.same⟩,fmQ O,fbQ O (.sm O O),fbQ O (.sm O O),ø⟩,rfl⟩)
       ·intro a4 h
        replace h:=app1 d1 h
        refine G2 (JLm (I64 j.2.2) O ?_)
        obtain⟨b1,e5,h⟩:=J0 h
        refine JLh (I64 b1) (Ja e5 O O O) O (JLm (I64 b1) O (G5 (o7 _ _ o8 (a4.1,a4.2,b1) (app1 l4 h) (by omega) ⟨(.sm O O),⟨fmQ O,⟨_,rfl,.same⟩,fmQ O,fbQ O (.sm O O),fbQ O (.sm O O),ø⟩,rfl⟩)))
      ·
       refine Hr (l0 (Jr fun e7=>(JLm (BL j.2.1) O (JLh (BL (!j.2.1)) (Y8 (b:=j.2.1) O O) O (G5 (e7 (JCc O h (fun h hb=>?_) (fun h hb=>?_))))))))
       ·
        refine Js fun e8=>Qs (l':=[(8,.ptr 1096 0),(21,Ei d)]) (L':=[(1048,MP 92 Ks I64 home),(1105,.spare 44 1 c.1.length c.1.length),(1103,MP 163 Ks Slot.av c.2.2),(1096,.box 41 Ke),(1097,.box 41 [OW 1105 1 (E1) c.1,LS 1 (E2) c.2.1])]) ⟨(.sm O O),⟨⟨_,O,.map⟩,⟨_,O,.same⟩,⟨_,O,.map⟩,⟨_,O,.boxL O (.sm O O)⟩,⟨_,O,.boxL O (.sm O O)⟩,ø⟩,O⟩ ?_
        refine Jq [3] [0,0,0,0,1] [0,1,1,0,1] [[(1048,MP 92 Ks I64 home),(1105,.spare 44 1 c.1.length c.1.length),(1103,MP 163 Ks Slot.av c.2.2),(1096,.box 41 Ke),(1097,.box 41 [OW 1105 1 (E1) c.1,LS 1 (E2) c.2.1])],((1096,.box 41 Ke)::[(1048,MP 92 Ks I64 home),(1105,.spare 44 1 c.1.length c.1.length),(1103,MP 163 Ks Slot.av c.2.2),(1096,.box 41 Ke),(1097,.box 41 [OW 1105 1 (E1) c.1,LS 1 (E2) c.2.1])])] J9 (by kernel_rfl) rfl rfl ?_
        refine Gd (u:=.agg Ke) O O ⟨Gh (Hg (cs:=Ke) [(0,1),(1,1)] Ke [.slice none 0 0,.slice none 0 0] Jc4 H26 ⟨.inr ⟨_,O,O⟩,.inr ⟨_,O,O⟩,ø⟩ O O) O,ø⟩ (Gd (u:=Ei d) O O ⟨Gh (Ga Qp O O O) O,Gh (Ga Qp O O O) O,ø⟩ (Gd (u:=I64 d.ID) O O ⟨Gh (Gg Gb O O O) O,Gh (Gg Gb O O O) O,ø⟩ (H3a (u:=.junk) O O O O (Gh (H7 (u:=.agg Ke) (ds:=Ke) G6c O O O O O O O O) O) (Gd (u:=I64 d.ID) O O ⟨Gh (G7 O O) O,ø⟩ (Rj ?_)))))
        refine e8 (Qs (l':=[(8,.ptr 1096 0),(9,I64 d.ID)]) (L':=[(1048,MP 92 Ks I64 home),(1103,MP 163 Ks Slot.av c.2.2),(1096,.box 41 Ke),(1097,.box 41 [LS 1 (E1) c.1,LS 1 (E2) c.2.1])]) ⟨(.sm O O),⟨⟨_,O,.map⟩,⟨_,O,.map⟩,⟨_,O,.boxL O (.sm O O)⟩,⟨_,O,.boxL O ⟨.list O,.same O,ø⟩⟩,ø⟩,O⟩ ?_)
        refine Gn [(8,.ptr 1096 0),(9,I64 d.ID)] [(1048,MP 92 Ks I64 home),(1103,MP 163 Ks Slot.av c.2.2),(1096,.box 41 Ke)] 1097 rfl rfl rfl ⟨fmQ O,fmQ O,⟨_,rfl,.boxEq rfl rfl⟩,ø⟩ rfl (by exact⟨.conv (.same rfl),.conv (.same rfl),ø⟩) (Gs ?_)
        obtain rfl:=M7 h
        exact⟨[.agg Ke,I64 d.ID],[(1048,MP 92 Ks I64 home)],⟨⟨_,O,.map⟩,ø⟩,O,⟨⟨_,⟨_,_,_,_,O,O,O,.inl ⟨Gb5,O⟩⟩,.conv (.same O)⟩,⟨_,O,.conv (.same O)⟩,ø⟩,O,O⟩
       ·
        refine Gm (ej59 _ _ j.1 h ⟨(.sm O O),⟨fmQ O,⟨_,rfl,.same⟩,fmQ O,fbQ O (.sm O O),fbQ O (.sm O O),ø⟩,rfl⟩)
    ·intro a7 h
     replace h:=app1 d0 h
     refine G2 (JLh (I64 ((n+1:Nat):Int)) (Ja (Hp c1 j7) O O O) O (JLm (I64 ((n+1:Nat):Int)) O (G5 (o5 _ _ (n+1) a7 (app1 k3 h) (by omega) ⟨(.sm O O),⟨fmQ O,⟨_,rfl,.same⟩,fmQ O,fbQ O (.sm O O),fbQ O (.sm O O),ø⟩,rfl⟩))))
   ·
    have h:=app1 c9 (Hu c0 (Hh hb))
    refine Hr (j5 (Jr fun e9=>(JLh (.mp 1104) (Ha4 1104 Ks Slot.av O O) O (JLm (.mp 1104) O ?_))))
    refine Yd1 1103 1104 (MP 163 Ks Slot.av (H8.empty:H8 Int Slot)) [(1,E7 boxes),(2,.mp 1048),(3,I64 calls),(4,Ee s),(8,.ptr 1096 0),(10,.ptr 1097 0),(12,Em g),(13,E1 i),(83,E7 boxes),(84,Em boxes.length),(85,Em n),(86,BL (decide ((n:Int) < (boxes.length:Int)))),(158,.mp 1104),(11,.mp 1104)] [(1,E7 boxes),(2,.mp 1048),(3,I64 calls),(4,Ee s),(8,.ptr 1096 0),(10,.ptr 1097 0),(12,Em g),(13,E1 i),(83,E7 boxes),(84,Em boxes.length),(85,Em n),(86,BL (decide ((n:Int) < (boxes.length:Int)))),(158,.mp 1103),(11,.mp 1103)] [(1048,MP 92 Ks I64 home),(1105,.spare 44 1 c.1.length c.1.length),(1096,.box 41 Ke),(1097,.box 41 [OW 1105 1 (E1) c.1,LS 1 (E2) c.2.1])] ⟨_,_,rfl⟩ ⟨(.sm O O),⟨fmQ O,fmQ O,⟨_,rfl,.same⟩,fbQ O (.sm O O),fbQ O (.sm O O),ø⟩,rfl⟩ rfl rfl rfl rfl rfl ⟨fmQ O,⟨_,rfl,.same⟩,⟨_,rfl,.boxEq rfl rfl⟩,⟨_,rfl,.boxEq rfl rfl⟩,ø⟩ ⟨.inr ⟨rfl,rfl⟩,⟨.inr ⟨rfl,rfl⟩,⟨.inr ⟨rfl,rfl⟩,⟨.inr ⟨rfl,rfl⟩,⟨.inr ⟨rfl,rfl⟩,⟨.inr ⟨rfl,rfl⟩,⟨.inr ⟨rfl,rfl⟩,⟨.inr ⟨rfl,rfl⟩,⟨.inr ⟨rfl,rfl⟩,⟨.inr ⟨rfl,rfl⟩,⟨.inr ⟨rfl,rfl⟩,⟨.inr ⟨rfl,rfl⟩,⟨.inl ⟨rfl,rfl⟩,⟨.inl ⟨rfl,rfl⟩,ø⟩⟩⟩⟩⟩⟩⟩⟩⟩⟩⟩⟩⟩⟩ ?_
    refine G5 (e9 (Js fun f0=>Jr fun f1=>(JLm (E1 i) O (JLl H3 O O O fun f2=>(JLm (I64 0) O (G5 (f1 (Gq ?_))))))))
    obtain⟨m6,f3,f4,c5,h⟩:=Jc h
    refine Hn (fun q (a0:(H8 Int Slot))=>each m6 f3 (List.drop q i) q a0=some r) (fun q a0=>[(1,E7 boxes),(2,.mp 1048),(3,I64 calls),(4,Ee s),(8,.ptr 1096 0),(10,.ptr 1097 0),(11,.mp 1103),(12,Em g),(13,E1 i),(159,E1 i),(160,Em i.length),(161,Em q)]) (fun q a0=>[(1103,MP 163 Ks Slot.av a0),(1048,MP 92 Ks I64 home),(1105,.spare 44 1 c.1.length c.1.length),(1096,.box 41 Ke),(1097,.box 41 [OW 1105 1 (E1) c.1,LS 1 (E2) c.2.1])]) (fun q=>i.length - q) 0 (H8.empty:H8 Int Slot) h ⟨(.sm O O),⟨fmQ O,fmQ O,⟨_,rfl,.same⟩,fbQ O (.sm O O),fbQ O (.sm O O),ø⟩,rfl⟩ ?_
    clear h
    intro q a0 b3 q0 m7
    refine Jr fun f5=>(JLh (BL (decide ((q:Int) < (i.length:Int)))) (Jo O O O) O (G5 (f5 (Js fun f6=>Gr O (fun hb=>?_) (fun hb=>?_)))))
    ·
     have b4:=Q1 hb
     obtain⟨o,p2,f7,f8,h⟩:=Ht b3 b4
     replace h:=Zn f4 h
     refine Gm (f6 (Js fun f9=>Gq (Jr fun g0=>(JLh (Eh o) (Hb (f:=G1.av) (xs:=i) (y:=o) O O O H3 f7 O) O (JLh (.agg (G1.cs o)) (Gk Qd O O O) O (JLh (.ptr 1102 0) (Hk 1102 4 Jy O O) O (Ho (u:=.junk) (H7 (u:=.agg (G1.cs o)) (ds:=[I64 o.Box,I64 o.Slot.G3,I64 o.Slot.Tier,U8 o.Slot.Half]) Rk O O O O O O O O) (G5 (g0 ?_)))))))))
     refine fzQ [(1,E7 boxes),(2,.mp 1048),(3,I64 calls),(4,Ee s),(8,.ptr 1096 0),(10,.ptr 1097 0),(11,.mp 1103),(12,Em g),(13,E1 i),(28,Eh o),(159,E1 i),(160,Em i.length),(161,Em q)] [(1103,MP 163 Ks Slot.av a0),(1048,MP 92 Ks I64 home),(1105,.spare 44 1 c.1.length c.1.length),(1096,.box 41 Ke),(1097,.box 41 [OW 1105 1 (E1) c.1,LS 1 (E2) c.2.1])] 1102 rfl rfl rfl ⟨fmQ O,fmQ O,⟨_,rfl,.same⟩,⟨_,rfl,.boxEq rfl rfl⟩,⟨_,rfl,.boxEq rfl rfl⟩,ø⟩ rfl ?_
     refine G2 (JLm (.mp 1103) O (JLh (Eh o) (Ga J6 O O O) O (JLh (I64 o.Box) (Gg Gb O O O) O (JLh (.dptr ((G1.cs o).drop 1)) (Ga Jn O O O) O (JLh (.agg ((G1.cs o).drop 1)) (Gk J2 O O O) O (Ho (u:=.junk) (J1a (m:=a0) (a:=o.Box) (v:=o.Slot) O O O O O O J7c Q86) (G5 (f9 (G2 (JLh (I64 ((q+1:Nat):Int)) (Ja (Hp b4 f2) O O O) O (JLm (I64 ((q+1:Nat):Int)) O (G5 (m7 _ _ (q+1) (H8.put a0 o.Box o.Slot) (app1 f8 h) (by omega) ⟨(.sm O O),⟨fmQ O,fmQ O,⟨_,rfl,.same⟩,fbQ O (.sm O O),fbQ O (.sm O O),ø⟩,rfl⟩)))))))))))))
    ·
     have h:=app1 c5 (Hu b3 (Hh hb))
     refine Hr (f0 (G2 (JLh (.ptr 1097 0) (J4 Zc O O) O (JLh (OW 1105 1 (E1) c.1) (J1 Ys O O O O) O (JLm (E1 i) O (JLh (LS 1 (E1) [i]) (He (xs:=[E1 i]) O ⟨O,O,ø⟩ Jz Had O O O O) O ?_))))))
     obtain⟨g1,h⟩:=Ji h
     refine JLh (OW 1105 1 (E1) (c.1++[i])) (Yb (f:=(E1)) (xs:=c.1) (ys:=[i]) O O O O Jz Q95 g1 (fun _=>O) (.inl O) O) O (JLh (.ptr 1097 0) (J4 Zc O O) O (Ho (u:=.junk) (H7 (u:=OW 1105 1 (E1) (c.1++[i])) (ds:=[OW 1105 1 (E1) (c.1++[i]),LS 1 (E2) c.2.1]) Q83 O O O O O O O O) (G5 (n9 (G2 (JLm (Em g) O (JLh (I64 ((g+1:Nat):Int)) (Ja (Hp g4 (H25 n3)) O O O) O (JLm (I64 ((g+1:Nat):Int)) O (G5 (e6 _ _ (g+1) ((c.1++[i]),c.2.1,a0) (app1 n8 h) (by omega) ⟨(.sm O O),⟨fmQ O,⟨_,rfl,.same⟩,fmQ O,fbQ O (.sm O O),fbQ O (.sm O O),ø⟩,rfl⟩))))))))))
 ·
  have h:=app1 g6 (H7f g3 (G72 hb))
  refine Hr (n1 (Jr fun g2=>(JLh (.agg [OW 1105 1 (E1) c.1,LS 1 (E2) c.2.1]) (J1d Gb5 O O O O) O (Ho (u:=.junk) (H7 (u:=.agg [OW 1105 1 (E1) c.1,LS 1 (E2) c.2.1]) (ds:=[OW 1105 1 (E1) c.1,LS 1 (E2) c.2.1]) G6c O O O O O O O O) (JLm (I64 0) O (G5 (g2 (Gs ?_))))))))
  obtain rfl:=M7 h
  exact⟨[.agg [LS 1 (E1) c.1,LS 1 (E2) c.2.1],I64 0],[(1048,MP 92 Ks I64 home)],⟨⟨_,O,.map⟩,ø⟩,O,⟨⟨_,⟨_,_,_,_,O,O,O,.inl ⟨Gb5,O⟩⟩,.agg ⟨.list O,.same O,ø⟩⟩,⟨_,O,.conv (.same O)⟩,ø⟩,O,O⟩

def Z3 (F:Nat) (s:Gi) (l:List H9) (calls:Int) (most:Int):Option ((List Box)×J13):=
 bnd (Jd7 (min (l.length:Int) most) l.length) fun m6=>
 each (fun b u (a:(List Box)×(H8 Int Int)) q=>
  chk (5*((u+1:Nat):Int)) fun g=>
  chk (b.Kilos) fun v=>
  chk (100*v) fun w=>
  chk (1000+w) fun k=>
  chk (b.Load) fun x=>
  chk (calls - 1) fun y=>
  bnd (J1e x y) fun e=>
  chk (e+1) fun z=>
  chk (b.Stay) fun a0=>
  chk (calls - 1) fun a1=>
  chk (a1 - e) fun a2=>
  bnd (J1e a0 a2) fun a3=>
  chk (z+a3) fun m=>
  jp (fun n=>
   bif b.Small then
   (n (20,false))
   else
   (n (40,b.High))) fun(c:Int×Bool)=>
  chk (b.G3) fun a4=>
  bnd (J1e a4 (s.Columns.length:Int)) fun a5=>
  need (decide ((a.1.length+[(Box.mk g ByteArray.empty c.1 c.2 k e m 0 false)].length)*64≤140737488355328∧a.1.length+[(Box.mk g ByteArray.empty c.1 c.2 k e m 0 false)].length≤maxLen)) <|
  q ((a.1++[(Box.mk g ByteArray.empty c.1 c.2 k e m 0 false)]),(H8.put a.2 g a5)))
 (fun(a:(List Box)×(H8 Int Int))=>
  chk ((a.1.length:Int)+1) fun p=>
  need (decide (p≤9223372036854775807)) <|
  upto (fun a8 (f:(List Box)×(H8 Int Int)) r=>
   bnd (Z2 F s f.1 f.2 calls) fun h=>
   bif decide (h.2.1=0) then
   (some (f.1,h.1))
   else
   (each (fun i a9 (d:(List Box)) t=>
     jp (fun o=>
      bif decide (i.ID≠h.2.1) then
      (need (decide ((d.length+[i].length)*64≤140737488355328∧d.length+[i].length≤maxLen)) <|
       o (d++[i]))
      else
      (o d)) fun(a6:(List Box))=>
     t a6)
    (fun(d:(List Box))=>
     r (d,h.2.2)) f.1 0 []))
  (fun(f:(List Box)×(H8 Int Int))=>
   bnd (Rc9 calls) fun j=>
   need (decide (24*j≤281474976710656∧j≤maxLen∧j*1≤16777216)) <|
   some ([],(J13.mk (List.replicate j ([]:List G1)) []))) p.toNat 0 (a.1,a.2)) (l.take m6) 0 ([],(H8.empty:H8 Int Int))
abbrev Kf:List AV:=[LS 1 (E1) ([]:List (List G1)),LS 1 (E2) ([]:List (List Int))]
theorem Ha8 (F:Nat) (s:Gi) (l:List H9) (calls:Int) (most:Int) (r:(List Box)×J13) (h:Z3 F s l calls most=some r):Pure En 29 [.agg (Gi.cs s),Ec l,I64 calls,I64 most] (·=.tup [E7 r.1,.agg [LS 1 (E1) r.2.States,LS 1 (E2) r.2.Water]]):=by
 unfold Z3 at h
 refine Gx [.tmp 8,.cell 9 41] Tryz.func29 O O (Jr fun j3=>(JLh (.ptr 1040 0) (Q4 (cs:=(Gi.cs s)) 1040 O O O O O) O (JLh (E7 ([]:List Box)) (Jh 9 O O) O (JLh (.ptr 1041 0) (G06 1041 Kf [.slice none 0 0,.slice none 0 0] H26 ⟨.inr ⟨_,O,O⟩,.inr ⟨_,O,O⟩,ø⟩ O O) O (G5 (j3 ?_))))))
 refine fzQ [(1,Ec l),(2,I64 calls),(3,I64 most),(4,Ee s),(9,.ptr 1041 0)] [(1041,.box 41 Kf)] 1040 rfl rfl rfl ⟨⟨_,rfl,.boxEq rfl rfl⟩,ø⟩ rfl (Jr fun j4=>(JLh (OW 1042 9 Box.av ([]:List Box)) (H5f 1042 103 9 O O O) O (G5 (j4 (Jr fun j5=>(JLh (.mp 1048) (Ha4 1048 Ks I64 O O) O (JLm (.mp 1048) O (G5 (j5 (Js fun j6=>Jr fun j7=>(JLm (Ec l) O (JLm (Ec l) O (JLl Hb0 O O O fun k2=>(JLm (I64 most) O (JLh (I64 (min (l.length:Int) most)) (Z2e O O O) O ?_)))))))))))))))
 obtain⟨z,j8,h⟩:=Ge h
 refine JLh (Ec (l.take z)) (Jbc (f:=H9.av) (xs:=l) O O O Hb0 (Hdc j8)) O (JLl Hb0 O O O fun a6=>(JLm (I64 0) O (G5 (j7 (Gq ?_)))))
 obtain⟨h7,c6,c7,c1,h⟩:=Jc h
 refine Hn (fun o (b:(List Box)×(H8 Int Int))=>each h7 c6 (List.drop o (l.take z)) o b=some r) (fun o b=>[(2,I64 calls),(4,Ee s),(9,.ptr 1041 0),(10,OW 1042 9 Box.av b.1),(11,.mp 1048),(26,Ec (l.take z)),(27,I64 ((l.take z).length:Int)),(28,Em o)]) (fun o b=>[(1042,.spare 103 9 b.1.length b.1.length),(1048,MP 92 Ks I64 b.2),(1041,.box 41 Kf)]) (fun o=>(l.take z).length - o) 0 ([],(H8.empty:H8 Int Int)) h ⟨(.sm O O),⟨⟨_,rfl,.same⟩,fmQ O,fbQ O (.sm O O),ø⟩,rfl⟩ ?_
 clear h
 intro o b a7 k3 h8
 refine Jr fun c8=>(JLh (BL (decide ((o:Int) < ((l.take z).length:Int)))) (Jo O O O) O (G5 (c8 (Js fun c9=>Gr O (fun hb=>?_) (fun hb=>?_)))))
 ·
  have a3:=Q1 hb
  obtain⟨d,j9,d0,d1,h⟩:=Ht a7 a3
  replace h:=Zn c7 h
  refine Gm (c9 (Js fun d2=>Gq (Jr fun d3=>(JLm (Em o) O (JLh (.dptr (H9.cs d)) (Hb (f:=H9.av) (xs:=(l.take z)) (y:=d) O O O Hb0 d0 O) O (JLh (.agg (H9.cs d)) (Gk Y31 O O O) O (JLh (.ptr 1043 0) (Hk 1043 6 R59 O O) O (JLm (Em o) O (Ho (u:=.junk) (H7 (u:=.agg (H9.cs d)) (ds:=[U8 d.G3,U8 d.Kilos,U8 d.Load,U8 d.Stay,BL d.Small,BL d.High]) R99 O O O O O O O O) (G5 (d3 ?_)))))))))))
  refine fzQ [(2,I64 calls),(4,Ee s),(9,.ptr 1041 0),(10,OW 1042 9 Box.av b.1),(11,.mp 1048),(12,Em o),(13,.dptr (H9.cs d)),(26,Ec (l.take z)),(27,I64 ((l.take z).length:Int)),(28,Em o)] [(1042,.spare 103 9 b.1.length b.1.length),(1048,MP 92 Ks I64 b.2),(1041,.box 41 Kf)] 1043 rfl rfl rfl ⟨⟨_,rfl,.same⟩,fmQ O,⟨_,rfl,.boxEq rfl rfl⟩,ø⟩ rfl (Js fun d4=>?_)
  refine Qs (l':=[(2,I64 calls),(4,Ee s),(9,.ptr 1041 0),(10,OW 1042 9 Box.av b.1),(11,.mp 1048),(12,Em o),(13,.dptr (H9.cs d)),(26,Ec (l.take z)),(27,I64 ((l.take z).length:Int)),(28,Em o)]) (L':=[(1042,.spare 103 9 b.1.length b.1.length),(1048,MP 92 Ks I64 b.2),(1041,.box 41 Kf)]) ⟨(.sm O O),⟨⟨_,rfl,.same⟩,fmQ O,fbQ O (.sm O O),ø⟩,rfl⟩ ?_
  obtain⟨e,a8,h⟩:=J0 h
  obtain⟨h9,a9,h⟩:=J0 h
  obtain⟨i0,b0,h⟩:=J0 h
  obtain⟨k,b1,h⟩:=J0 h
  obtain⟨i1,b2,h⟩:=J0 h
  obtain⟨i2,b3,h⟩:=J0 h
  obtain⟨i,a4,h⟩:=Ge h
  refine Jq [17,18] (.replicate 19 0) [1,1,1,1,1,1,1,1,1,1,1,1,1,1,1,1,1,0,0] [[(1042,.spare 103 9 b.1.length b.1.length),(1048,MP 92 Ks I64 b.2),(1041,.box 41 Kf)],((1044,.box 103 [.junk,.junk,.junk,.junk,.junk,.junk,.junk,.junk,.junk])::[(1042,.spare 103 9 b.1.length b.1.length),(1048,MP 92 Ks I64 b.2),(1041,.box 41 Kf)]),((1044,.box 103 [I64 e,ST M0,U8 40,BL d.High,I64 k,I64 i,I64 0,U8 0,BL false])::((1044,.box 103 [.junk,.junk,.junk,.junk,.junk,.junk,.junk,.junk,.junk])::[(1042,.spare 103 9 b.1.length b.1.length),(1048,MP 92 Ks I64 b.2),(1041,.box 41 Kf)]))] J9 (by kernel_rfl) rfl rfl ?_
  refine Gd (u:=Em o) O O ⟨Gh (G6 O O) O,Gh (G6 O O) O,ø⟩ (Gd (u:=I64 ((o+1:Nat):Int)) O O ⟨Gh (Ja (Hp a3 a6) O O O) O,Gh (Ja (Hp a3 a6) O O O) O,ø⟩ (Gd (u:=I64 e) O O ⟨Gh (J96 a8 O O O) O,Gh (J96 a8 O O O) O,ø⟩ (Gd (u:=.dptr [BL d.High]) O O ⟨Gh (Ga J39 O O O) O,Gh (Ga J39 O O O) O,ø⟩ (Gd (u:=BL d.High) O O ⟨Gh (Gg Qb O O O) O,Gh (Gg Qb O O O) O,ø⟩ (Gd (u:=.dptr ((H9.cs d).drop 1)) O O ⟨Gh (Ga J3b O O O) O,Gh (Ga J3b O O O) O,ø⟩ (Gd (u:=U8 d.Kilos) O O ⟨Gh (Gg Hx O O O) O,Gh (Gg Hx O O O) O,ø⟩ (Gd (u:=I64 h9) O O ⟨Gh (Gcd G39 G38 a9 O O) O,Gh (Gcd G39 G38 a9 O O) O,ø⟩ (Gd (u:=I64 i0) O O ⟨Gh (J96 b0 O O O) O,Gh (J96 b0 O O O) O,ø⟩ (Gd (u:=I64 k) O O ⟨Gh (Ja b1 O O O) O,Gh (Ja b1 O O O) O,ø⟩ (Gd (u:=.dptr ((H9.cs d).drop 2)) O O ⟨Gh (Ga J3a O O O) O,Gh (Ga J3a O O O) O,ø⟩ (Gd (u:=U8 d.Load) O O ⟨Gh (Gg Hx O O O) O,Gh (Gg Hx O O O) O,ø⟩ (Gd (u:=I64 i1) O O ⟨Gh (Gcd G39 G38 b2 O O) O,Gh (Gcd G39 G38 b2 O O) O,ø⟩ (Gd (u:=I64 calls) O O ⟨Gh (G6 O O) O,Gh (G6 O O) O,ø⟩ ?_)))))))))))))
  refine Gd (u:=I64 i2) O O ⟨Gh (G84 b3 O O O) O,Gh (G84 b3 O O O) O,ø⟩ (Gd (u:=I64 i) O O ⟨Gh (Jff (Yg a4).1 (Yg a4).2 O O O) O,Gh (Jff (Yg a4).1 (Yg a4).2 O O O) O,ø⟩ (Gd (u:=.agg [I64 e,ST M0,U8 40,BL d.High,I64 k,I64 i,I64 0,U8 0,BL false]) O O ⟨Gh (Hg (cs:=[I64 e,ST M0,U8 40,BL d.High,I64 k,I64 i,I64 0,U8 0,BL false]) [(0,1),(1,1),(2,1),(3,1),(4,1),(5,1),(6,1),(7,1),(8,1)] [I64 0,ST M0,U8 0,BL false,I64 0,I64 0,I64 0,U8 0,BL false] [E0,.string ByteArray.empty,.int .u8 0,.bool false,E0,E0,E0,.int .u8 0,.bool false] G85 G63 (zzQ O) O O) O,Gh (Hg (cs:=[I64 e,ST M0,U8 40,BL d.High,I64 k,I64 i,I64 0,U8 0,BL false]) [(0,1),(1,1),(2,1),(3,1),(4,1),(5,1),(6,1),(7,1),(8,1)] [I64 0,ST M0,U8 0,BL false,I64 0,I64 0,I64 0,U8 0,BL false] [E0,.string ByteArray.empty,.int .u8 0,.bool false,E0,E0,E0,.int .u8 0,.bool false] G85 G63 (zzQ O) O O) O,ø⟩ (D_w (u:=.ptr 1044 0) O O O O (Gh (Hk 1044 9 Qx O O) O) (H3a (u:=.junk) O O O O (Gh (H7 (u:=.agg [I64 e,ST M0,U8 40,BL d.High,I64 k,I64 i,I64 0,U8 0,BL false]) (ds:=[I64 e,ST M0,U8 40,BL d.High,I64 k,I64 i,I64 0,U8 0,BL false]) Rh O O O O O O O O) O) (Rj ?_)))))
  refine d4 (Js fun d5=>Qs (l':=[(2,I64 calls),(4,Ee s),(9,.ptr 1041 0),(10,OW 1042 9 Box.av b.1),(11,.mp 1048),(13,.dptr (H9.cs d)),(14,.ptr 1044 0),(26,Ec (l.take z)),(27,I64 ((l.take z).length:Int)),(28,Em o)]) (L':=[(1042,.spare 103 9 b.1.length b.1.length),(1048,MP 92 Ks I64 b.2),(1041,.box 41 Kf),(1044,.box 103 [I64 e,ST M0,U8 40,BL d.High,I64 k,I64 i,I64 0,U8 0,BL false])]) ⟨(.sm O O),⟨⟨_,rfl,.same⟩,fmQ O,fbQ O (.sm O O),fbQ O (.sm O O),ø⟩,rfl⟩ ?_)
  obtain⟨i3,d6,h⟩:=J0 h
  obtain⟨i4,d7,h⟩:=J0 h
  obtain⟨i5,d8,h⟩:=J0 h
  obtain⟨i6,d9,h⟩:=J0 h
  obtain⟨i7,b4,h⟩:=Ge h
  obtain⟨q,e0,h⟩:=J0 h
  refine Jq [14] (.replicate 15 0) (.replicate 15 0) [[(1042,.spare 103 9 b.1.length b.1.length),(1048,MP 92 Ks I64 b.2),(1041,.box 41 Kf),(1044,.box 103 [I64 e,ST M0,U8 40,BL d.High,I64 k,I64 i,I64 0,U8 0,BL false])],((1044,.box 103 [I64 e,ST M0,U8 40,BL d.High,I64 k,I64 i,I64 q,U8 0,BL false])::[(1042,.spare 103 9 b.1.length b.1.length),(1048,MP 92 Ks I64 b.2),(1041,.box 41 Kf),(1044,.box 103 [I64 e,ST M0,U8 40,BL d.High,I64 k,I64 i,I64 0,U8 0,BL false])])] J9 (by kernel_rfl) rfl rfl ?_
  refine Gd (u:=.ptr 1044 5) O O ⟨Gh (J4 H06 O O) O,ø⟩ (Gd (u:=I64 i) O O ⟨Gh (J1 Gb O O O O) O,ø⟩ (Gd (u:=I64 i3) O O ⟨Gh (Ja d6 O O O) O,ø⟩ (Gd (u:=.dptr ((H9.cs d).drop 3)) O O ⟨Gh (Ga Q8e O O O) O,ø⟩ (Gd (u:=U8 d.Stay) O O ⟨Gh (Gg Hx O O O) O,ø⟩ (Gd (u:=I64 i4) O O ⟨Gh (Gcd G39 G38 d7 O O) O,ø⟩ (Gd (u:=I64 calls) O O ⟨Gh (G6 O O) O,ø⟩ (Gd (u:=I64 i5) O O ⟨Gh (G84 d8 O O O) O,ø⟩ (Gd (u:=.ptr 1044 5) O O ⟨Gh (J4 H06 O O) O,ø⟩ (Gd (u:=I64 i) O O ⟨Gh (J1 Gb O O O O) O,ø⟩ (Gd (u:=I64 i6) O O ⟨Gh (G84 d9 O O O) O,ø⟩ (Gd (u:=I64 i7) O O ⟨Gh (Jff (Yg b4).1 (Yg b4).2 O O O) O,ø⟩ (Gd (u:=I64 q) O O ⟨Gh (Ja e0 O O O) O,ø⟩ (Gd (u:=.ptr 1044 6) O O ⟨Gh (J4 H81 O O) O,ø⟩ ?_)))))))))))))
  refine H3a (u:=.junk) O O O O (Gh (H7 (u:=I64 q) (ds:=[I64 e,ST M0,U8 40,BL d.High,I64 k,I64 i,I64 q,U8 0,BL false]) G53 O O O O O O O O) O) (Rj (d5 ?_))
  obtain⟨e1,c2,h⟩:=Rm h
  refine Qi (fun j:Int×Bool=>e1 j=some r) (fun j=>[(2,I64 calls),(4,Ee s),(9,.ptr 1041 0),(10,OW 1042 9 Box.av b.1),(11,.mp 1048),(13,.dptr (H9.cs d)),(14,.ptr 1044 0),(26,Ec (l.take z)),(27,I64 ((l.take z).length:Int)),(28,Em o)]) (fun j=>[(1042,.spare 103 9 b.1.length b.1.length),(1048,MP 92 Ks I64 b.2),(1041,.box 41 Kf),(1044,.box 103 [I64 e,ST M0,U8 j.1,BL j.2,I64 k,I64 i,I64 q,U8 0,BL false])]) (fun Kj139 ej139=>?_) ?_
  ·
   refine Jr fun e2=>(JLh (.dptr [BL d.Small,BL d.High]) (Ga Q8d O O O) O (JLh (BL d.Small) (Gg Qb O O O) O (G5 (e2 (JCc O h (fun h hb=>?_) (fun h hb=>?_))))))
   ·
    refine G2 (JLh (.ptr 1044 2) (J4 G28 O O) O (Ho (u:=.junk) (H7 (u:=U8 20) (ds:=[I64 e,ST M0,U8 20,BL d.High,I64 k,I64 i,I64 q,U8 0,BL false]) Ya3 O O O O O O O O) (JLh (.ptr 1044 3) (J4 H82 O O) O (Ho (u:=.junk) (H7 (u:=BL false) (ds:=[I64 e,ST M0,U8 20,BL false,I64 k,I64 i,I64 q,U8 0,BL false]) R1b O O O O O O O O) (G5 (ej139 _ _ (20,false) h ⟨(.sm O O),⟨⟨_,rfl,.same⟩,fmQ O,fbQ O (.sm O O),fbQ O (.sm O O),ø⟩,rfl⟩))))))
   ·
    refine Gm (ej139 _ _ (40,d.High) h ⟨(.sm O O),⟨⟨_,rfl,.same⟩,fmQ O,fbQ O (.sm O O),fbQ O (.sm O O),ø⟩,rfl⟩)
  ·intro j h
   replace h:=app1 c2 h
   refine Js fun e3=>Qs (l':=[(2,I64 calls),(4,Ee s),(9,.ptr 1041 0),(10,OW 1042 9 Box.av b.1),(11,.mp 1048),(13,.dptr (H9.cs d)),(14,.ptr 1044 0),(26,Ec (l.take z)),(27,I64 ((l.take z).length:Int)),(28,Em o)]) (L':=[(1042,.spare 103 9 b.1.length b.1.length),(1048,MP 92 Ks I64 b.2),(1041,.box 41 Kf),(1044,.box 103 [I64 e,ST M0,U8 j.1,BL j.2,I64 k,I64 i,I64 q,U8 0,BL false])]) ⟨(.sm O O),⟨⟨_,rfl,.same⟩,fmQ O,fbQ O (.sm O O),fbQ O (.sm O O),ø⟩,rfl⟩ ?_
   obtain⟨i8,e4,h⟩:=J0 h
   obtain⟨a5,b5,h⟩:=Ge h
   refine Jq [10] [0,0,0,0,0,0,0,0,0,0,0] [0,0,0,0,0,0,0,0,0,0,0] [[(1042,.spare 103 9 b.1.length b.1.length),(1048,MP 92 Ks I64 b.2),(1041,.box 41 Kf),(1044,.box 103 [I64 e,ST M0,U8 j.1,BL j.2,I64 k,I64 i,I64 q,U8 0,BL false])],((1048,MP 92 Ks I64 (H8.put b.2 e a5))::[(1042,.spare 103 9 b.1.length b.1.length),(1048,MP 92 Ks I64 b.2),(1041,.box 41 Kf),(1044,.box 103 [I64 e,ST M0,U8 j.1,BL j.2,I64 k,I64 i,I64 q,U8 0,BL false])])] J9 (by kernel_rfl) rfl rfl ?_
   refine Gd (u:=.mp 1048) O O ⟨Gh (G6 O O) O,ø⟩ (Gd (u:=.ptr 1044 0) O O ⟨Gh (J4 Qp O O) O,ø⟩ (Gd (u:=I64 e) O O ⟨Gh (J1 Gb O O O O) O,ø⟩ (Gd (u:=.dptr (H9.cs d)) O O ⟨Gh (Ga Q8f O O O) O,ø⟩ (Gd (u:=U8 d.G3) O O ⟨Gh (Gg Hx O O O) O,ø⟩ (Gd (u:=I64 i8) O O ⟨Gh (Gcd G39 G38 e4 O O) O,ø⟩ (Gd (u:=Ee s) O O ⟨Gh (Ga J8 O O O) O,ø⟩ (Gd (u:=E3 s.Columns) O O ⟨Gh (Gg Jp O O O) O,ø⟩ (Gd (u:=Em s.Columns.length) O O ⟨Gh (H69 (f:=G3.av) (xs:=s.Columns) Hy O O) O,ø⟩ (Gd (u:=I64 a5) O O ⟨Gh (Jff (Yg b5).1 (Yg b5).2 O O O) O,ø⟩ (H3a (u:=.junk) O O O O (Gh (J1a (m:=b.2) (a:=e) (v:=a5) O O O O O O J7c Gf2) O) (Rj ?_)))))))))))
   refine e3 (fzQ [(2,I64 calls),(4,Ee s),(9,.ptr 1041 0),(10,OW 1042 9 Box.av b.1),(11,.mp 1048),(14,.dptr [I64 e,ST M0,U8 j.1,BL j.2,I64 k,I64 i,I64 q,U8 0,BL false]),(26,Ec (l.take z)),(27,I64 ((l.take z).length:Int)),(28,Em o)] [(1042,.spare 103 9 b.1.length b.1.length),(1048,MP 92 Ks I64 (H8.put b.2 e a5)),(1041,.box 41 Kf)] 1044 rfl rfl rfl ⟨⟨_,rfl,.same⟩,fmQ O,⟨_,rfl,.boxEq rfl rfl⟩,ø⟩ rfl (G2 ?_))
   refine JLm (OW 1042 9 Box.av b.1) O (JLh (.agg [I64 e,ST M0,U8 j.1,BL j.2,I64 k,I64 i,I64 q,U8 0,BL false]) (Gk R4 O O O) O (JLh (E7 [(Box.mk e ByteArray.empty j.1 j.2 k i q 0 false)]) (He (xs:=[.agg [I64 e,ST M0,U8 j.1,BL j.2,I64 k,I64 i,I64 q,U8 0,BL false]]) O ⟨O,O,ø⟩ Y1 Qx O O O O) O ?_))
   obtain⟨e5,h⟩:=Ji h
   refine JLh (OW 1042 9 Box.av (b.1++[(Box.mk e ByteArray.empty j.1 j.2 k i q 0 false)])) (Yb (f:=Box.av) (xs:=b.1) (ys:=[(Box.mk e ByteArray.empty j.1 j.2 k i q 0 false)]) O O O O Y1 Q33 e5 (fun _=>O) (.inl O) O) O (JLm (OW 1042 9 Box.av (b.1++[(Box.mk e ByteArray.empty j.1 j.2 k i q 0 false)])) O (G5 (d2 (G2 (JLh (I64 ((o+1:Nat):Int)) (Ja (Hp a3 a6) O O O) O (JLm (I64 ((o+1:Nat):Int)) O (G5 (h8 _ _ (o+1) ((b.1++[(Box.mk e ByteArray.empty j.1 j.2 k i q 0 false)]),(H8.put b.2 e a5)) (app1 d1 h) (by omega) ⟨(.sm O O),⟨⟨_,rfl,.same⟩,fmQ O,fbQ O (.sm O O),ø⟩,rfl⟩))))))))
 ·
  have h:=app1 c1 (Hu a7 (Hh hb))
  refine Hr (j6 (Js fun e6=>Jr fun e7=>(JLm (OW 1042 9 Box.av b.1) O (JLl Y1 O O O fun k4=>?_))))
  obtain⟨a0,e8,h⟩:=J0 h
  refine JLh (I64 a0) (Ja e8 O O O) O (JLm (I64 0) O (G5 (e7 (Gq ?_))))
  obtain⟨e9,h⟩:=Ji h
  obtain⟨i9,f0,f1,c3,h⟩:=Hf5 h
  refine Hn (fun t (g:(List Box)×(H8 Int Int))=>upto i9 f0 (a0.toNat - t) t g=some r) (fun t g=>[(2,I64 calls),(4,Ee s),(9,.ptr 1041 0),(10,E7 g.1),(11,.mp 1048),(85,I64 a0),(86,Em t)]) (fun t g=>[(1048,MP 92 Ks I64 g.2),(1041,.box 41 Kf)]) (fun t=>a0.toNat - t) 0 (b.1,b.2) h ⟨⟨.same O,.same O,.same O,.list O,.same O,.same O,.same O,ø⟩,⟨⟨_,O,.map⟩,⟨_,O,.boxL O (.sm O O)⟩,ø⟩,O⟩ ?_
  clear h
  intro t g b6 k5 j0
  refine Jr fun f2=>(JLh (BL (decide ((t:Int) < a0))) (Jo O O O) O (G5 (f2 (Js fun f3=>Gr O (fun hb=>?_) (fun hb=>?_)))))
  ·
   have b7:=H8b hb
   obtain⟨k0,f4,h⟩:=H7e b6 b7
   replace h:=Jb4 f1 h
   refine Gm (f3 (Js fun f5=>Gq (Jr fun f6=>(JLh (.agg (Gi.cs s)) (Gk Jd O O O) O (JLm (E7 g.1) O (JLm (.mp 1048) O (JLm (I64 calls) O ?_)))))))
   obtain⟨c,f7,h⟩:=Ge h
   refine JLh (.tup [.agg [LS 1 (E1) c.1.States,LS 1 (E2) c.1.Water],I64 c.2.1]) (Yv (args:=[.agg (Gi.cs s),E7 g.1,.mp 1048,I64 calls]) (L0:=[(1048,MP 92 Ks I64 g.2)]) (Lr:=[(1048,MP 92 Ks I64 c.2.2)]) O (Ged F s g.1 g.2 calls c f7) Y1c ⟨.inl O,O,.inl O,O,.inl O,O,.inl O,O,ø⟩ ⟨O,ø⟩ O O O) O (JLm (.tup [.agg [LS 1 (E1) c.1.States,LS 1 (E2) c.1.Water],I64 c.2.1]) O (JLh (.agg [LS 1 (E1) c.1.States,LS 1 (E2) c.1.Water]) (Gz O O O) O (JLh (I64 c.2.1) (Gz O O O) O (JLh (.ptr 1045 0) (Hk 1045 2 Hae O O) O (Ho (u:=.junk) (H7 (u:=.agg [LS 1 (E1) c.1.States,LS 1 (E2) c.1.Water]) (ds:=[LS 1 (E1) c.1.States,LS 1 (E2) c.1.Water]) G6c O O O O O O O O) (JLm (I64 c.2.1) O (G5 (f6 ?_))))))))
   refine fzQ [(2,I64 calls),(4,Ee s),(9,.ptr 1041 0),(10,E7 g.1),(11,.mp 1048),(15,.dptr [LS 1 (E1) c.1.States,LS 1 (E2) c.1.Water]),(16,I64 c.2.1),(85,I64 a0),(86,Em t)] [(1048,MP 92 Ks I64 c.2.2),(1041,.box 41 Kf)] 1045 rfl rfl rfl ⟨fmQ O,⟨_,rfl,.boxEq rfl rfl⟩,ø⟩ rfl (Js fun f8=>Jr fun f9=>(JLm (I64 c.2.1) O (JLh (BL (decide (c.2.1=0))) (Qk O O O) O (G5 (f9 (JCc O h (fun h hb=>?_) (fun h hb=>?_)))))))
   ·
    refine Js fun g0=>Qs (l':=[(9,.ptr 1041 0),(10,E7 g.1),(15,.dptr [LS 1 (E1) c.1.States,LS 1 (E2) c.1.Water])]) (L':=[(1048,MP 92 Ks I64 c.2.2),(1041,.box 41 Kf)]) ⟨(.sm O O),⟨⟨_,O,.map⟩,⟨_,O,.boxL O (.sm O O)⟩,ø⟩,O⟩ ?_
    refine Jq [3] [0,0,0,0] [0,0,0,0] [[(1048,MP 92 Ks I64 c.2.2),(1041,.box 41 Kf)],((1041,.box 41 [LS 1 (E1) c.1.States,LS 1 (E2) c.1.Water])::[(1048,MP 92 Ks I64 c.2.2),(1041,.box 41 Kf)])] J9 (by kernel_rfl) rfl rfl ?_
    refine Gd (u:=E7 g.1) O O ⟨Gh (G6 O O) O,ø⟩ (Gd (u:=.agg [LS 1 (E1) c.1.States,LS 1 (E2) c.1.Water]) O O ⟨Gh (Gk Gb5 O O O) O,ø⟩ (Gd (u:=E7 g.1) O O ⟨Gh (G7 O O) O,ø⟩ (H3a (u:=.junk) O O O O (Gh (H7 (u:=.agg [LS 1 (E1) c.1.States,LS 1 (E2) c.1.Water]) (ds:=[LS 1 (E1) c.1.States,LS 1 (E2) c.1.Water]) G6c O O O O O O O O) O) (Rj (g0 (Gs (⟨[E7 g.1,.agg [LS 1 (E1) c.1.States,LS 1 (E2) c.1.Water]],[],ø,O,⟨⟨_,O,.conv (.same O)⟩,⟨_,⟨_,_,_,_,O,O,O,.inl ⟨Gb5,O⟩⟩,.conv (.same O)⟩,ø⟩,O,congrArg (fun r:(List Box)×J13=>(.tup [E7 r.1,.agg [LS 1 (E1) r.2.States,LS 1 (E2) r.2.Water]]:AV)) (M7 h)⟩)))))))
   ·
    refine Gm (f8 (Jr fun g1=>(JLh (OW 1046 9 Box.av ([]:List Box)) (H5f 1046 103 9 O O O) O (G5 (g1 (Js fun g2=>Jr fun g3=>(JLm (E7 g.1) O (JLl Y1 O O O fun g4=>(JLm (I64 0) O (G5 (g3 (Gq ?_))))))))))))
    obtain⟨j1,g5,g6,c4,h⟩:=Jc h
    refine Hn (fun x (p:(List Box))=>each j1 g5 (List.drop x g.1) x p=some r) (fun x p=>[(2,I64 calls),(4,Ee s),(9,.ptr 1041 0),(11,.mp 1048),(16,I64 c.2.1),(17,OW 1046 9 Box.av p),(85,I64 a0),(86,Em t),(100,E7 g.1),(101,Em g.1.length),(102,Em x)]) (fun x p=>[(1048,MP 92 Ks I64 c.2.2),(1046,.spare 103 9 p.length p.length),(1041,.box 41 Kf)]) (fun x=>g.1.length - x) 0 [] h ⟨(.sm O O),⟨fmQ O,⟨_,rfl,.same⟩,fbQ O (.sm O O),ø⟩,rfl⟩ ?_
    clear h
    intro x p b8 k6 j2
    refine Jr fun g7=>(JLh (BL (decide ((x:Int) < (g.1.length:Int)))) (Jo O O O) O (G5 (g7 (Js fun g8=>Gr O (fun hb=>?_) (fun hb=>?_)))))
    ·
     have b9:=Q1 hb
     obtain⟨w,k1,g9,h0,h⟩:=Ht b8 b9
     replace h:=Zn g6 h
     refine Gm (g8 ?_)
     obtain⟨h1,c5,h⟩:=Rm h
     refine Qi (fun a1:(List Box)=>h1 a1=some r) (fun a1=>[(2,I64 calls),(4,Ee s),(9,.ptr 1041 0),(11,.mp 1048),(16,I64 c.2.1),(17,OW 1046 9 Box.av a1),(85,I64 a0),(86,Em t),(100,E7 g.1),(101,Em g.1.length),(102,Em x)]) (fun a1=>[(1048,MP 92 Ks I64 c.2.2),(1046,.spare 103 9 a1.length a1.length),(1041,.box 41 Kf)]) (fun Kj177 ej177=>?_) ?_
     ·
      refine Gq (Jr fun h2=>(JLh (Ei w) (Hb (f:=Box.av) (xs:=g.1) (y:=w) O O O Y1 g9 O) O (JLh (.agg (Box.cs w)) (Gk R4 O O O) O (JLh (.ptr 1047 0) (Hk 1047 9 Qx O O) O (Ho (u:=.junk) (H7 (u:=.agg (Box.cs w)) (ds:=(Box.cs w)) Rh O O O O O O O O) (G5 (h2 ?_)))))))
      refine fzQ [(2,I64 calls),(4,Ee s),(9,.ptr 1041 0),(11,.mp 1048),(16,I64 c.2.1),(17,OW 1046 9 Box.av p),(19,Ei w),(85,I64 a0),(86,Em t),(100,E7 g.1),(101,Em g.1.length),(102,Em x)] [(1048,MP 92 Ks I64 c.2.2),(1046,.spare 103 9 p.length p.length),(1041,.box 41 Kf)] 1047 rfl rfl rfl ⟨fmQ O,⟨_,rfl,.same⟩,⟨_,rfl,.boxEq rfl rfl⟩,ø⟩ rfl ?_
      refine Jr fun h3=>(JLh (Ei w) (Ga Qp O O O) O (JLh (I64 w.ID) (Gg Gb O O O) O (JLm (I64 c.2.1) O (JLh (BL (decide (w.ID≠c.2.1))) (Gca O O O) O (G5 (h3 (JCc O h (fun h hb=>?_) (fun h hb=>?_))))))))
      ·
       refine G2 (JLm (OW 1046 9 Box.av p) O (JLh (.agg (Box.cs w)) (Gk R4 O O O) O (JLh (E7 [w]) (He (xs:=[.agg (Box.cs w)]) O ⟨O,O,ø⟩ Y1 Qx O O O O) O ?_)))
       obtain⟨h4,h⟩:=Ji h
       refine JLh (OW 1046 9 Box.av (p++[w])) (Yb (f:=Box.av) (xs:=p) (ys:=[w]) O O O O Y1 Q33 h4 (fun _=>O) (.inl O) O) O (JLm (OW 1046 9 Box.av (p++[w])) O (G5 (ej177 _ _ (p++[w]) h ⟨(.sm O O),⟨fmQ O,⟨_,rfl,.same⟩,fbQ O (.sm O O),ø⟩,rfl⟩)))
      ·
       refine Gm (ej177 _ _ p h ⟨(.sm O O),⟨fmQ O,⟨_,rfl,.same⟩,fbQ O (.sm O O),ø⟩,rfl⟩)
     ·intro a1 h
      replace h:=app1 c5 h
      refine G2 (JLh (I64 ((x+1:Nat):Int)) (Ja (Hp b9 g4) O O O) O (JLm (I64 ((x+1:Nat):Int)) O (G5 (j2 _ _ (x+1) a1 (app1 h0 h) (by omega) ⟨(.sm O O),⟨fmQ O,⟨_,rfl,.same⟩,fbQ O (.sm O O),ø⟩,rfl⟩))))
    ·
     have h:=app1 c4 (Hu b8 (Hh hb))
     refine Hr (g2 (G2 (JLm (OW 1046 9 Box.av p) O (JLm (OW 1046 9 Box.av p) O (G5 (f5 (G2 (JLh (I64 ((t+1:Nat):Int)) (Ja (Hp b7 (H25 e9)) O O O) O (JLm (I64 ((t+1:Nat):Int)) O (G5 (j0 _ _ (t+1) (p,c.2.2) (app1 f4 h) (by omega) ⟨⟨.same rfl,.same rfl,.same rfl,.list rfl,.same rfl,.same rfl,.same rfl,ø⟩,⟨fmQ O,fbQ O (.sm O O),ø⟩,rfl⟩)))))))))))
  ·
   have h:=app1 c3 (H7f b6 (G72 hb))
   refine Hr (e6 (Js fun h5=>Qs (l':=[(2,I64 calls),(9,.ptr 1041 0)]) (L':=[(1048,MP 92 Ks I64 g.2),(1041,.box 41 Kf)]) ⟨(.sm O O),⟨⟨_,O,.map⟩,⟨_,O,.boxL O (.sm O O)⟩,ø⟩,O⟩ ?_))
   obtain⟨a2,c0,h⟩:=Ge h
   obtain⟨h6,h⟩:=Ji h
   refine Jq [4] [0,0,0,0,0] [0,0,0,0,0] [[(1048,MP 92 Ks I64 g.2),(1041,.box 41 Kf)],((1041,.box 41 [LS 1 (E1) (List.replicate a2 ([]:List G1)),LS 1 (E2) ([]:List (List Int))])::[(1048,MP 92 Ks I64 g.2),(1041,.box 41 Kf)])] J9 (by kernel_rfl) rfl rfl ?_
   refine Gd (u:=I64 calls) O O ⟨Gh (G6 O O) O,ø⟩ (Gd (u:=LS 1 (E1) (List.replicate a2 ([]:List G1))) O O ⟨Gh (Z2f (f:=(E1)) (n:=a2) [] [.slice none 0 0] O O O Jz Q95 Y04 (R32 c0) (R32 c0) h6 ⟨.inr ⟨_,O,O⟩,ø⟩ O) O,ø⟩ (Gd (u:=.agg [LS 1 (E1) (List.replicate a2 ([]:List G1)),LS 1 (E2) ([]:List (List Int))]) O O ⟨Gh (Hg (cs:=[LS 1 (E1) (List.replicate a2 ([]:List G1)),LS 1 (E2) ([]:List (List Int))]) [(0,1),(1,1)] Kf [.slice none 0 0,.slice none 0 0] Jc4 H26 ⟨.inr ⟨_,O,O⟩,.inr ⟨_,O,O⟩,ø⟩ O O) O,ø⟩ (Gd (u:=E7 ([]:List Box)) O O ⟨Gh (Jh 9 O O) O,ø⟩ (H3a (u:=.junk) O O O O (Gh (H7 (u:=.agg [LS 1 (E1) (List.replicate a2 ([]:List G1)),LS 1 (E2) ([]:List (List Int))]) (ds:=[LS 1 (E1) (List.replicate a2 ([]:List G1)),LS 1 (E2) ([]:List (List Int))]) G6c O O O O O O O O) O) (Rj ?_)))))
   refine h5 (Gs (⟨[E7 ([]:List Box),.agg [LS 1 (E1) (List.replicate a2 ([]:List G1)),LS 1 (E2) ([]:List (List Int))]],[],ø,O,⟨⟨_,O,.conv (.same O)⟩,⟨_,⟨_,_,_,_,O,O,O,.inl ⟨Gb5,O⟩⟩,.conv (.same O)⟩,ø⟩,O,congrArg (fun r:(List Box)×J13=>(.tup [E7 r.1,.agg [LS 1 (E1) r.2.States,LS 1 (E2) r.2.Water]]:AV)) (M7 h)⟩))

def Gdc (x:G1) (a:Int):Option Bool:=
 some (decide (x.Box=a))
theorem Q71 (x:G1) (a:Int) (r:Bool) (h:Gdc x a=some r):Pure En 118 [.agg (G1.cs x),.dptr [I64 a]] (·=BL r):=by
 unfold Gdc at h
 refine Gx [.tmp 3] Tryz.func118 O O (Jr fun b=>(JLh (.ptr 1185 0) (Q4 (cs:=[I64 x.Box,I64 x.Slot.G3,I64 x.Slot.Tier,U8 x.Slot.Half]) 1185 O O O O O) O (JLm (BL false) O (G5 (b (Gn [(1,.dptr [I64 a]),(2,Eh x)] [] 1185 rfl rfl rfl ø rfl (by exact⟨.conv (.same rfl),.ptr,ø⟩) (Jr fun c=>(JLh (Eh x) (Ga J6 O O O) O (JLh (I64 x.Box) (Gg Gb O O O) O (JLh (I64 a) (Gg Gb O O O) O (JLh (BL (decide (x.Box=a))) (Qk O O O) O (JLm (BL (decide (x.Box=a))) O (G5 (c (Gs (fin1 BL h))))))))))))))))
end
end Go.Proofs.YtgcpimpnpcdmmaaGreat
