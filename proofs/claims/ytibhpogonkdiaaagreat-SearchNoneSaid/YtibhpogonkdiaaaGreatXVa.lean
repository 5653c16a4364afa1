/- Walks of functions. -/
import Derived.Test.YtibhpogonkdiaaaGreatXL
set_option linter.unnecessarySimpa false
set_option maxRecDepth 100000
set_option maxHeartbeats 1000000
set_option linter.unusedVariables false
set_option linter.unusedSimpArgs false
namespace Go.Proofs.YtibhpogonkdiaaaGreat
open Go.RowKit
noncomputable section
structure Gq where
 G4:Int
 Kilos:Int
 Load:Int
 Stay:Int
 Small:Bool
 High:Bool
 deriving DecidableEq,Inhabited
def Gq.cs (x:Gq):List AV:=[U8 x.G4,U8 x.Kilos,U8 x.Load,U8 x.Stay,BL x.Small,BL x.High]
def Gq.av (x:Gq):AV:=.agg x.cs
abbrev Ek (x:Gq):AV:=.dptr (Gq.cs x)
abbrev Ed:=LS 6 Gq.av
structure Hf where
 Bay:Int
 Row:Int
 Tiers:Int
 Deck:Bool
 deriving DecidableEq,Inhabited
def Hf.cs (x:Hf):List AV:=[U8 x.Bay,U8 x.Row,U8 x.Tiers,BL x.Deck]
def Hf.av (x:Hf):AV:=.agg x.cs
namespace XVF
open XAF
open XCF
open XFF
open XSF
open XLF
theorem J2c:Gb8 En 99 6=true:=by kernel_rfl
theorem Jae:Hh En 13=true:=by kernel_rfl
theorem R0f:Hh En 35=true:=by kernel_rfl
theorem R0e:Hh En 36=true:=by kernel_rfl
theorem Ja5:Hh En 70=true:=by kernel_rfl
theorem Qfb:Hh En 71=true:=by kernel_rfl
theorem Qfa:Hh En 72=true:=by kernel_rfl
theorem Hd6:Rw En 37 9 64=true:=by kernel_rfl
theorem H0b:Rw En 41 12 112=true:=by kernel_rfl
theorem Jfe:Ju En 99 0 0=true:=by kernel_rfl
theorem Hc8:Ju En 99 1 1=true:=by kernel_rfl
theorem Hc7:Ju En 99 2 2=true:=by kernel_rfl
theorem Jfd:Ju En 99 3 3=true:=by kernel_rfl
theorem Hc6:Ju En 99 4 4=true:=by kernel_rfl
theorem H39:Ju En 99 5 5=true:=by kernel_rfl
theorem G2c:J34 En 3 .i64=true:=by kernel_rfl
theorem G2b:J34 En 5 .u8=true:=by kernel_rfl
theorem J94:G14 En 155 3 63=true:=by kernel_rfl
theorem Q17:G14 En 97 3 3=true:=by kernel_rfl
theorem G63:placesOf En 41=some [(0,1),(1,1),(2,1),(3,1),(4,1),(5,1),(6,1),(7,1),(8,1),(9,1),(10,1),(11,1)]:=by kernel_rfl
theorem Gbf:Re En 24 1=true:=by kernel_rfl
theorem G3b:Re En 34 13=true:=by kernel_rfl
theorem J2b:Re En 4 1=true:=by kernel_rfl
theorem R7c:Re En 5 1=true:=by kernel_rfl
theorem Qef:Re En 60 1=true:=by kernel_rfl
theorem J91:Re En 99 6=true:=by kernel_rfl
theorem Zw:sliceB En 53 99 6=true:=by kernel_rfl
theorem G85:(En.info? 34).bind (fun i=>i.zero.map Value.cells)=some (List.toArray [.slice none 0 0,.slice none 0 0,E0,E0,E0,E0,.slice none 0 0,.slice none 0 0,.slice none 0 0,E0,E0,E0,E0]):=by kernel_rfl
theorem Gbd:(En.info? 41).bind (fun i=>i.zero.map Value.cells)=some (List.toArray [E0,E0,.bool false,E0,E0,E0,E0,E0,.slice none 0 0,E0,E0,E0]):=by kernel_rfl
theorem Qe8:(En.info? 59).bind (fun i=>i.zero.map Value.cells)=some (List.toArray [.slice none 0 0]):=by kernel_rfl
theorem Qe7:(En.info? 60).bind (fun i=>i.zero.map Value.cells)=some (List.toArray [.slice none 0 0]):=by kernel_rfl
theorem G90:Qo En 34 13=true:=by kernel_rfl
theorem Y4:Qo En 48 2=true:=by kernel_rfl
theorem H7c:Qo En 99 6=true:=by kernel_rfl
theorem Rc7:(En.info? 63).bind (·.zero)=some (.agg #[E0,E0,.int .u8 0]):=by kernel_rfl
end XVF
open XAF
open XCF
open XFF
open XSF
open XLF
open XVF

def Rr (l:List G1) (x:G1):Option (List G1):=
 each (fun c k (a:(List G1)) g=>
  jp (fun e=>
   bif decide (c.Box < x.Box) then
   (need (decide ((a.length+[c].length)*32≤140737488355328∧a.length+[c].length≤maxLen)) <|
    e (a++[c]))
   else
   (e a)) fun(i:(List G1))=>
  g i)
 (fun(a:(List G1))=>
  need (decide ((a.length+[x].length)*32≤140737488355328∧a.length+[x].length≤maxLen)) <|
  each (fun d m (b:(List G1)) h=>
   jp (fun f=>
    bif decide (x.Box < d.Box) then
    (need (decide ((b.length+[d].length)*32≤140737488355328∧b.length+[d].length≤maxLen)) <|
     f (b++[d]))
    else
    (f b)) fun(j:(List G1))=>
   h j)
  (fun(b:(List G1))=>
   some b) l 0 (a++[x])) l 0 []
theorem G97 (l:List G1) (x:G1) (r:(List G1)) (h:Rr l x=some r):Pure En 70 [E4 l,.agg (G1.cs x)] (·=E4 r):=by
 unfold Rr at h
 refine Ha [.tmp 4] Tryz.func70 O O (Jr fun c4=>(JLh (.ptr 1157 0) (Q5 (cs:=[I64 x.Box,I64 x.Slot.G4,I64 x.Slot.Tier,U8 x.Slot.Half]) 1157 O O O O O) O (JLh (E4 ([]:List G1)) (Qj 4 O O) O (G6 (c4 (Gj [(0,E4 l),(3,Eg x)] [] 1157 rfl rfl rfl ø rfl (by exact⟨.conv (.same rfl),.ptr,ø⟩) (Jr fun c5=>(JLh (OW 1158 4 G1.av ([]:List G1)) (G45 1158 65 4 O O O) O (G6 (c5 (Js fun c6=>Jr fun c7=>(JLm (E4 l) O (JLl Hd O O O fun v=>(JLm (I64 0) O (G6 (c7 (Gk ?_)))))))))))))))))
 obtain⟨c8,w,z,p,h⟩:=J5 h
 refine Hk (fun e (a:(List G1))=>each c8 w (List.drop e l) e a=some r) (fun e a=>[(0,E4 l),(3,Eg x),(5,OW 1158 4 G1.av a),(10,E4 l),(11,Em l.length),(12,Em e)]) (fun e a=>[(1158,.spare 65 4 a.length a.length)]) (fun e=>l.length - e) 0 [] h ⟨(.sm O O),⟨⟨_,rfl,.same⟩,ø⟩,rfl⟩ ?_
 clear h
 intro e a k d4 c9
 refine Jr fun a0=>(JLh (BL (decide ((e:Int) < (l.length:Int)))) (Jf O O O) O (G6 (a0 (Js fun a1=>Gn O (fun hb=>?_) (fun hb=>?_)))))
 ·
  have m:=Jn hb
  obtain⟨b,d2,a2,a3,h⟩:=Hs k m
  replace h:=Rx z h
  refine Gp (a1 ?_)
  obtain⟨a4,q,h⟩:=Rc h
  refine Qf (fun i:(List G1)=>a4 i=some r) (fun i=>[(0,E4 l),(3,Eg x),(5,OW 1158 4 G1.av i),(10,E4 l),(11,Em l.length),(12,Em e)]) (fun i=>[(1158,.spare 65 4 i.length i.length)]) (fun Kj22 ej22=>?_) ?_
  ·
   refine Gk (Jr fun a5=>(JLh (Eg b) (H4 (f:=G1.av) (xs:=l) (y:=b) O O O Hd a2 O) O (JLh (.agg (G1.cs b)) (Gg Qw O O O) O (JLh (.ptr 1159 0) (Hc 1159 4 Qk O O) O (Hb (u:=.junk) (H0 (u:=.agg (G1.cs b)) (ds:=[I64 b.Box,I64 b.Slot.G4,I64 b.Slot.Tier,U8 b.Slot.Half]) Z0 O O O O O O O O) (G6 (a5 (fzQ [(0,E4 l),(3,Eg x),(5,OW 1158 4 G1.av a),(7,Eg b),(10,E4 l),(11,Em l.length),(12,Em e)] [(1158,.spare 65 4 a.length a.length)] 1159 rfl rfl rfl ⟨⟨_,rfl,.same⟩,ø⟩ rfl ?_))))))))
   refine Jr fun a6=>(JLh (Eg b) (Gc Jz O O O) O (JLh (I64 b.Box) (Gf G9 O O O) O (JLh (Eg x) (Gc Jz O O O) O (JLh (I64 x.Box) (Gf G9 O O O) O (JLh (BL (decide (b.Box < x.Box))) (Jf O O O) O (G6 (a6 (JCc O h (fun h hb=>?_) (fun h hb=>?_)))))))))
   ·
    refine G2 (JLm (OW 1158 4 G1.av a) O (JLh (.agg (G1.cs b)) (Gg Qw O O O) O (JLh (E4 [b]) (H7 (xs:=[.agg (G1.cs b)]) O ⟨O,O,ø⟩ Hd Qk O O O O) O ?_)))
    obtain⟨a7,h⟩:=J9 h
    refine JLh (OW 1158 4 G1.av (a++[b])) (R0 (f:=G1.av) (xs:=a) (ys:=[b]) O O O O Hd H0a a7 (fun _=>O) (.inl O) O) O (JLm (OW 1158 4 G1.av (a++[b])) O (G6 (ej22 _ _ (a++[b]) h ⟨(.sm O O),⟨⟨_,rfl,.same⟩,ø⟩,rfl⟩)))
   ·
    refine Gp (ej22 _ _ a h ⟨(.sm O O),⟨⟨_,rfl,.same⟩,ø⟩,rfl⟩)
  ·intro i h
   replace h:=app1 q h
   refine G2 (JLh (I64 ((e+1:Nat):Int)) (Hz (He m v) O O O) O (JLm (I64 ((e+1:Nat):Int)) O (G6 (c9 _ _ (e+1) i (app1 a3 h) (by omega) ⟨(.sm O O),⟨⟨_,rfl,.same⟩,ø⟩,rfl⟩))))
 ·
  have h:=app1 p (Ht k (H9 hb))
  refine Hr (c6 (Jr fun a8=>(JLm (OW 1158 4 G1.av a) O (JLh (.agg (G1.cs x)) (Gg Qw O O O) O (JLh (E4 [x]) (H7 (xs:=[.agg (G1.cs x)]) O ⟨O,O,ø⟩ Hd Qk O O O O) O ?_)))))
  obtain⟨a9,h⟩:=J9 h
  refine JLh (OW 1158 4 G1.av (a++[x])) (R0 (f:=G1.av) (xs:=a) (ys:=[x]) O O O O Hd H0a a9 (fun _=>O) (.inl O) O) O (JLm (OW 1158 4 G1.av (a++[x])) O (G6 (a8 (Js fun b0=>Jr fun b1=>(JLm (E4 l) O (JLl Hd O O O fun b2=>(JLm (I64 0) O (G6 (b1 (Gk ?_))))))))))
  obtain⟨d0,b3,b4,s,h⟩:=J5 h
  refine Hk (fun g (d:(List G1))=>each d0 b3 (List.drop g l) g d=some r) (fun g d=>[(3,Eg x),(5,OW 1158 4 G1.av d),(30,E4 l),(31,Em l.length),(32,Em g)]) (fun g d=>[(1158,.spare 65 4 d.length d.length)]) (fun g=>l.length - g) 0 (a++[x]) h ⟨(.sm O O),⟨⟨_,rfl,.same⟩,ø⟩,rfl⟩ ?_
  clear h
  intro g d n d5 d1
  refine Jr fun b5=>(JLh (BL (decide ((g:Int) < (l.length:Int)))) (Jf O O O) O (G6 (b5 (Js fun b6=>Gn O (fun hb=>?_) (fun hb=>?_)))))
  ·
   have o:=Jn hb
   obtain⟨c,d3,b7,b8,h⟩:=Hs n o
   replace h:=Rx b4 h
   refine Gp (b6 ?_)
   obtain⟨b9,t,h⟩:=Rc h
   refine Qf (fun j:(List G1)=>b9 j=some r) (fun j=>[(3,Eg x),(5,OW 1158 4 G1.av j),(30,E4 l),(31,Em l.length),(32,Em g)]) (fun j=>[(1158,.spare 65 4 j.length j.length)]) (fun Kj47 ej47=>?_) ?_
   ·
    refine Gk (Jr fun c0=>(JLh (Eg c) (H4 (f:=G1.av) (xs:=l) (y:=c) O O O Hd b7 O) O (JLh (.agg (G1.cs c)) (Gg Qw O O O) O (JLh (.ptr 1160 0) (Hc 1160 4 Qk O O) O (Hb (u:=.junk) (H0 (u:=.agg (G1.cs c)) (ds:=[I64 c.Box,I64 c.Slot.G4,I64 c.Slot.Tier,U8 c.Slot.Half]) Z0 O O O O O O O O) (G6 (c0 (fzQ [(3,Eg x),(5,OW 1158 4 G1.av d),(9,Eg c),(30,E4 l),(31,Em l.length),(32,Em g)] [(1158,.spare 65 4 d.length d.length)] 1160 rfl rfl rfl ⟨⟨_,rfl,.same⟩,ø⟩ rfl ?_))))))))
    refine Jr fun c1=>(JLh (Eg c) (Gc Jz O O O) O (JLh (I64 c.Box) (Gf G9 O O O) O (JLh (Eg x) (Gc Jz O O O) O (JLh (I64 x.Box) (Gf G9 O O O) O (JLh (BL (decide (x.Box < c.Box))) (G46 O O O) O (G6 (c1 (JCc O h (fun h hb=>?_) (fun h hb=>?_)))))))))
    ·
     refine G2 (JLm (OW 1158 4 G1.av d) O (JLh (.agg (G1.cs c)) (Gg Qw O O O) O (JLh (E4 [c]) (H7 (xs:=[.agg (G1.cs c)]) O ⟨O,O,ø⟩ Hd Qk O O O O) O ?_)))
     obtain⟨c2,h⟩:=J9 h
     refine JLh (OW 1158 4 G1.av (d++[c])) (R0 (f:=G1.av) (xs:=d) (ys:=[c]) O O O O Hd H0a c2 (fun _=>O) (.inl O) O) O (JLm (OW 1158 4 G1.av (d++[c])) O (G6 (ej47 _ _ (d++[c]) h ⟨(.sm O O),⟨⟨_,rfl,.same⟩,ø⟩,rfl⟩)))
    ·
     refine Gp (ej47 _ _ d h ⟨(.sm O O),⟨⟨_,rfl,.same⟩,ø⟩,rfl⟩)
   ·intro j h
    replace h:=app1 t h
    refine G2 (JLh (I64 ((g+1:Nat):Int)) (Hz (He o b2) O O O) O (JLm (I64 ((g+1:Nat):Int)) O (G6 (d1 _ _ (g+1) j (app1 b8 h) (by omega) ⟨(.sm O O),⟨⟨_,rfl,.same⟩,ø⟩,rfl⟩))))
  ·
   have h:=app1 s (Ht n (H9 hb))
   refine Hr (b0 (Jr fun c3=>(JLm (OW 1158 4 G1.av d) O (JLm (OW 1158 4 G1.av d) O (G6 (c3 (H2 (fin1l (fun r:(List G1)=>(E4 r:AV)) h))))))))

def M_twistlocklaw23_holds (l : List G1) (id_ : Int) : Option Bool :=
 each (fun b d (c:Unit) a=>
  bif decide (b.Box=id_) then
  (some true)
  else
  (a ()))
 (fun(c:Unit)=>
  some false) l 0 ()
theorem H3e (l : List G1) (id_ : Int) (r : Bool) (h : M_twistlocklaw23_holds l id_ = some r) : Pure En 71 [E4 l, I64 id_] (· = BL r) := by
 unfold M_twistlocklaw23_holds at h
 refine Ha [.tmp 4] Tryz.func71 O O (Jr fun w=>(JLm (BL false) O (G6 (w (Js fun x=>Jr fun z=>(JLm (E4 l) O (JLl Hd O O O fun a0=>(JLm (I64 0) O (G6 (z (Gk ?_)))))))))))
 obtain⟨a1,i,j,g,h⟩:=J5 h
 refine Hk (fun a (c:Unit)=>each a1 i (List.drop a l) a c=some r) (fun a c=>[(1,I64 id_),(7,E4 l),(8,Em l.length),(9,Em a)]) (fun a c=>[]) (fun a=>l.length - a) 0 () h ⟨(.sm O O),ø,rfl⟩ ?_
 clear h
 intro a c d a4 a2
 refine Jr fun k=>(JLh (BL (decide ((a:Int) < (l.length:Int)))) (Jf O O O) O (G6 (k (Js fun m=>Gn O (fun hb=>?_) (fun hb=>?_)))))
 ·
  have e:=Jn hb
  obtain⟨b,a3,n,o,h⟩:=Hs d e
  replace h:=Rx j h
  refine Gp (m (Js fun p=>Gk (Jr fun q=>(JLh (Eg b) (H4 (f:=G1.av) (xs:=l) (y:=b) O O O Hd n O) O (JLh (.agg (G1.cs b)) (Gg Qw O O O) O (JLh (.ptr 1161 0) (Hc 1161 4 Qk O O) O (Hb (u:=.junk) (H0 (u:=.agg (G1.cs b)) (ds:=[I64 b.Box,I64 b.Slot.G4,I64 b.Slot.Tier,U8 b.Slot.Half]) Z0 O O O O O O O O) (G6 (q (fzQ [(1,I64 id_),(6,Eg b),(7,E4 l),(8,Em l.length),(9,Em a)] [] 1161 rfl rfl rfl ø rfl ?_))))))))))
  refine Jr fun s=>(JLh (Eg b) (Gc Jz O O O) O (JLh (I64 b.Box) (Gf G9 O O O) O (JLm (I64 id_) O (JLh (BL (decide (b.Box=id_))) (Q6 O O O) O (G6 (s (JCc O h (fun h hb=>?_) (fun h hb=>?_))))))))
  ·
   refine Jr fun t=>(JLm (BL true) O (G6 (t (H2 (fin1 BL h)))))
  ·
   refine Gp (p (G2 (JLh (I64 ((a+1:Nat):Int)) (Hz (He e a0) O O O) O (JLm (I64 ((a+1:Nat):Int)) O (G6 (a2 _ _ (a+1) () (app1 o h) (by omega) ⟨(.sm O O),ø,rfl⟩))))))
 ·
  have h:=app1 g (Ht d (H9 hb))
  refine Hr (x (Jr fun v=>(JLm (BL false) O (G6 (v (H2 (fin1 BL h)))))))

def Gb0 (s:Gb) (size:Int):Option Unit:=
 some ()
theorem Je6 (s:Gb) (size:Int) (r:Unit) (h:Gb0 s size=some r):Pure En 36 [.agg (Gb.cs s),U8 size] (·=.fn 72 [.dptr (Gb.cs s),.dptr [U8 size]]):=by
 unfold Gb0 at h
 refine Ha [.tmp 4] Tryz.func36 O O (Jr fun a=>(JLh (.ptr 1113 0) (Q5 (cs:=(Gb.cs s)) 1113 O O O O O) O (JLh (.ptr 1114 0) (Q5 (cs:=[U8 size]) 1114 O O O O O) O (JLm (.sc .nilFunc) O (G6 (a (Gj [(2,Ef s),(3,.ptr 1114 0)] [(1114,.box 5 [U8 size])] 1113 rfl rfl rfl ⟨⟨_,rfl,.boxEq rfl rfl⟩,ø⟩ rfl (by exact⟨.ptr,.conv (.same rfl),ø⟩) (Gj [(2,Ef s),(3,.dptr [U8 size])] [] 1114 rfl rfl rfl ø rfl (by exact⟨.conv (.same rfl),.ptr,ø⟩) ?_))))))))
 refine Jr fun b=>(JLh (.fn 72 [.dptr (Gb.cs s),.dptr [U8 size]]) (Z5 (cs:=[.dptr (Gb.cs s),.dptr [U8 size]]) O O) O (JLm (.fn 72 [.dptr (Gb.cs s),.dptr [U8 size]]) O (G6 (b (H2 (⟨[.fn 72 [.dptr (Gb.cs s),.dptr [U8 size]]],[],ø,O,⟨⟨_,O,.conv (.same O)⟩,ø⟩,O,congrArg (fun _:Unit=>(.fn 72 [.dptr (Gb.cs s),.dptr [U8 size]]:AV)) (Ky h)⟩))))))

def G5c (s:Gb) (size:Int):Option (List Slot):=
 bnd (Gb0 s size) fun e=>
 bnd (G2e s size) fun c=>
 each (fun b f (a:(List Slot)) d=>
  need (decide ((a.length+[b].length)*24≤140737488355328∧a.length+[b].length≤maxLen)) <|
  d (a++[b]))
 (fun(a:(List Slot))=>
  some a) c 0 []
theorem J1d (s:Gb) (size:Int) (r:(List Slot)) (h:G5c s size=some r):Pure En 13 [.agg (Gb.cs s),U8 size] (·=E8 r):=by
 unfold G5c at h
 refine Ha [.tmp 4] Tryz.func13 O O (Jr fun i=>(JLh (.ptr 1052 0) (Q5 (cs:=(Gb.cs s)) 1052 O O O O O) O (JLh (E8 ([]:List Slot)) (Qj 3 O O) O (G6 (i (Gj [(1,U8 size),(2,Ef s)] [] 1052 rfl rfl rfl ø rfl (by exact⟨.conv (.same rfl),.ptr,ø⟩) (Jr fun j=>(JLh (.ptr 1053 0) (Yc 1053 [.sc (.slice none 0 0)] [.slice none 0 0] Qe7 ⟨.inl O,ø⟩ O O) O (G8c 1053 0 1055 63 3 O O O (cs':=[OW 1055 3 Slot.av ([]:List Slot)]) O (G6 (j (Js fun k=>?_))))))))))))
 refine Jr fun l=>(JLh (.agg (Gb.cs s)) (Gg Hn O O O) O (JLm (U8 size) O ?_))
 obtain⟨x,m,h⟩:=Gh h
 refine JLh (.fn 72 [.dptr (Gb.cs s),.dptr [U8 size]]) (H3 O (Je6 s size x m) R0e ⟨O,O,O,O,ø⟩) O (G6 (l (Gk ?_)))
 obtain⟨c,hy_8,h⟩:=Gh h
 obtain⟨z,n,o,e,h⟩:=J5 h
 refine Q76 (ps:=[10]) [(5,.ptr 1053 0),(9,.fn 72 [.dptr (Gb.cs s),.dptr [U8 size]])] (c.map (fun y:Slot=>[.agg [I64 y.G4,I64 y.Tier,U8 y.Half]])) (fun d (b:(List Slot))=>each z n (List.drop d c) d b=some r) (fun b=>[(1055,.spare 63 3 b.length b.length),(1053,.box 60 [OW 1055 3 Slot.av b])]) [] rfl rfl rfl Qfa (J42.down s size c hy_8) h ⟨(.sm O O),⟨⟨_,rfl,.same⟩,fbQ O ⟨.same rfl,trivial⟩,trivial⟩,rfl⟩ rfl (fun us_ hus_=>by obtain⟨_,_,rfl⟩:=Me.1 hus_; rfl) (fun p_ hp_=>Nat.blt_eq.mp (by revert p_; decide)) (fun _=>(.sm O O)) (fun _=>rfl) ?_ ?_
 ·
  intro d us_ b hu_ p lr_ K8 e8
  obtain⟨q,rfl⟩:=R5d hu_
  obtain⟨a,a1,t,v,h⟩:=Hs p q
  replace h:=Rx o h
  obtain⟨_,rfl⟩:=Kw t
  generalize c[d]=a at h ⊢
  change JC _ _ _ _ [(10,.agg [I64 a.G4,I64 a.Tier,U8 a.Half]),(5,.ptr 1053 0),(9,.fn 72 [.dptr (Gb.cs s),.dptr [U8 size]])] [(1055,.spare 63 3 b.length b.length),(1053,.box 60 [OW 1055 3 Slot.av b])]
  refine G2 (JLh (.ptr 1054 0) (Hc 1054 3 G0e O O) O (Hb (u:=.junk) (H0 (u:=.agg [I64 a.G4,I64 a.Tier,U8 a.Half]) (ds:=[I64 a.G4,I64 a.Tier,U8 a.Half]) G3a O O O O O O O O) (G6 (R43 [(5,.ptr 1053 0),(6,.dptr [I64 a.G4,I64 a.Tier,U8 a.Half])] [(1055,.spare 63 3 b.length b.length),(1053,.box 60 [OW 1055 3 Slot.av b])] 1054 rfl rfl rfl ⟨⟨_,rfl,.same⟩,⟨_,rfl,.boxEq rfl rfl⟩,ø⟩ rfl (by exact⟨.conv (.same rfl),.ptr,ø⟩) (Re4 (Gk (G2 (JLh (OW 1055 3 Slot.av b) (Jm H5a O O O O) O (JLh (.agg [I64 a.G4,I64 a.Tier,U8 a.Half]) (Gg Qa O O O) O (JLh (E8 [a]) (H7 (xs:=[.agg [I64 a.G4,I64 a.Tier,U8 a.Half]]) O ⟨O,O,ø⟩ Rk G0e O O O O) O ?_))))))))))
  obtain⟨w,h⟩:=J9 h
  refine JLh (OW 1055 3 Slot.av (b++[a])) (R0 (f:=Slot.av) (xs:=b) (ys:=[a]) O O O O Rk J9b w (fun _=>O) (.inl O) O) O (Hb (u:=.junk) (H0 (u:=OW 1055 3 Slot.av (b++[a])) (ds:=[OW 1055 3 Slot.av (b++[a])]) Qef O O O O O O O O) (G6 (e8 _ _ (b++[a]) (app1 v h) ⟨ø,⟨⟨_,O,.same⟩,⟨_,O,.boxL O ⟨.same O,ø⟩⟩,ø⟩,O⟩)))
 ·
  intro b h
  rw [Mc] at h
  replace h:=app1 e (Ht h (Nat.lt_irrefl _))
  refine k (Jr fun g=>(JLh (OW 1055 3 Slot.av b) (Jm H5a O O O O) O (JLm (OW 1055 3 Slot.av b) O (G6 (g (Ye (l':=[(4,E8 b)]) (L':=[(1053,.box 60 [E8 b])]) ⟨⟨.list O,ø⟩,⟨⟨_,O,.boxL O ⟨.list O,ø⟩⟩,ø⟩,O⟩ (Gj [(4,E8 b)] [] 1053 rfl rfl rfl ø rfl (by exact⟨.conv (.same rfl),ø⟩) (H2 (fin1 (fun r:(List Slot)=>(E8 r:AV)) h)))))))))

def Y6 (F:Nat) (s:Gb) (boxes:List Box) (home:Gt Int Int) (calls:Int):Option (G5b×Int×(Gt Int Int)):=
 need (decide (calls≤9223372036854775807)) <|
 upto (fun j (e:(List (List G1))×(List (List Int))×(Gt Int Slot)) a5=>
  need (decide (10≤9223372036854775807)) <|
  upto (fun a6 (k:(List G1)) w=>
   each (fun f b3 (g:(List G1)) x=>
    jp (fun h=>
     bnd (some (Gt.get e.2.2 f.ID (Slot.mk 0 0 0))) fun t=>
     bif ((((Gt.has e.2.2 f.ID)&&(decide (t.Tier=(a6:Int))))&&(decide (f.Load < (j:Int))))&&(decide ((j:Int) < f.Discharge))) then
     (bnd (Rr g (G1.mk f.ID t)) fun u=>
      bnd (Q9 s boxes u) fun a7=>
      bif a7 then
      (h u)
      else
      (h g))
     else
     (h g)) fun(a8:(List G1))=>
    x a8)
   (fun(g:(List G1))=>
    w g) boxes 0 k)
  (fun(k:(List G1))=>
   each (fun a b4 (b:(List G1)) y=>
    jp (fun l=>
     bnd (bif (!((decide ((j : Int) < a.Load)) || (decide (a.Discharge ≤ (j : Int))))) then M_twistlocklaw23_holds b a.ID else some default) fun a9 =>
     bif (((decide ((j:Int) < a.Load))||(decide (a.Discharge≤(j:Int))))||a9) then
     (l b)
     else
     (loop (fun z (c:(List G1)×Bool×Int)=>
       bif ((decide (c.2.2 < (s.Columns.length:Int)))&&(!c.2.1)) then
       (jp (fun m=>
         bnd (G5c s a.Size) fun b0=>
         each (fun n b5 (d:(List G1)×Bool) a0=>
          bnd (Rr d.1 (G1.mk a.ID n)) fun o=>
          bnd (some (Gt.get home a.ID 0)) fun a1=>
          chk (a1+c.2.2) fun a2=>
          bnd (Ged a2 (s.Columns.length:Int)) fun p=>
          bnd (bif decide (n.G4=p) then Q9 s boxes o else some default) fun a3=>
          bif ((decide (n.G4=p))&&a3) then
          (m (o,true))
          else
          (a0 (d.1,d.2)))
         (fun(d:(List G1)×Bool)=>
          m (d.1,d.2)) b0 0 (c.1,c.2.1)) fun(v:(List G1)×Bool)=>
        chk (c.2.2+1) fun a4=>
        z (v.1,v.2,a4))
       else
       (bif (!c.2.1) then
        (some ((G5b.mk [] []),a.ID,home))
        else
        (l c.1))) F (b,false,0))) fun(b1:(List G1))=>
    y b1)
   (fun(b:(List G1))=>
    each (fun q b2 (i:(Gt Int Slot)) r=>
     r (Gt.put i q.Box q.Slot))
    (fun(i:(Gt Int Slot))=>
     need (decide ((e.1.length+[b].length)*24≤140737488355328∧e.1.length+[b].length≤maxLen)) <|
     a5 ((e.1++[b]),e.2.1,i)) b 0 (Gt.empty:Gt Int Slot)) boxes 0 k) (10:Int).toNat 0 [])
 (fun(e:(List (List G1))×(List (List Int))×(Gt Int Slot))=>
  some ((G5b.mk e.1 e.2.1),0,home)) calls.toNat 0 ([],[],(Gt.empty:Gt Int Slot))
abbrev Kd:List AV:=[LS 1 (E4) ([]:List (List G1)),LS 1 (E5) ([]:List (List Int))]
theorem G8a (F:Nat) (s:Gb) (boxes:List Box) (home:Gt Int Int) (calls:Int) (r:G5b×Int×(Gt Int Int)) (h:Y6 F s boxes home calls=some r):Q2 En 35 [.agg (Gb.cs s),E6 boxes,.mp 1049,I64 calls] [(1049,MP 97 Ki I64 home)] (fun av L'=>av=.tup [.agg [LS 1 (E4) r.1.States,LS 1 (E5) r.1.Water],I64 r.2.1]∧L'=[(1049,MP 97 Ki I64 r.2.2)]):=by
 unfold Y6 at h
 refine G0a [1049] [.cell 8 48,.tmp 9] Tryz.func35 O O (H91 O) (Jr fun m8=>(JLh (.ptr 1102 0) (Q5 (cs:=(Gb.cs s)) 1102 O O O O O) O (JLh (.ptr 1103 0) (Yc 1103 Kd [.slice none 0 0,.slice none 0 0] G38 ⟨.inr ⟨_,O,O⟩,.inr ⟨_,O,O⟩,ø⟩ O O) O (JLm (I64 0) O (G6 (m8 ?_))))))
 refine fzQ [(1,E6 boxes),(2,.mp 1049),(3,I64 calls),(4,Ef s),(8,.ptr 1103 0)] [(1049,MP 97 Ki I64 home),(1103,.box 48 Kd)] 1102 rfl rfl rfl ⟨fmQ O,⟨_,rfl,.boxEq rfl rfl⟩,ø⟩ rfl (Jr fun m9=>(JLh (.ptr 1104 0) (Yc 1104 [.sc (.slice none 0 0),LS 1 (E5) ([]:List (List Int))] [.slice none 0 0,.slice none 0 0] G38 ⟨.inl O,.inr ⟨_,O,O⟩,ø⟩ O O) O (G8c 1104 0 1112 59 1 O O O (cs':=[OW 1112 1 (E4) ([]:List (List G1)),LS 1 (E5) ([]:List (List Int))]) O (G6 (m9 ?_)))))
 refine Jr fun n0=>(JLh (.mp 1110) (G5f 1110 Ki Slot.av O O) O (JLm (.mp 1110) O (G6 (n0 (Js fun n1=>Jr fun n2=>(JLm (I64 0) O (G6 (n2 (Gk ?_)))))))))
 obtain⟨n3,h⟩:=J9 h
 obtain⟨b6,n4,n5,g6,h⟩:=Gcc h
 refine Hk (fun g (c:(List (List G1))×(List (List Int))×(Gt Int Slot))=>upto b6 n4 (calls.toNat - g) g c=some r) (fun g c=>[(1,E6 boxes),(2,.mp 1049),(3,I64 calls),(4,Ef s),(8,.ptr 1103 0),(10,.ptr 1104 0),(11,.mp 1110),(12,Em g)]) (fun g c=>[(1049,MP 97 Ki I64 home),(1112,.spare 59 1 c.1.length c.1.length),(1110,MP 155 Ki Slot.av c.2.2),(1103,.box 48 Kd),(1104,.box 48 [OW 1112 1 (E4) c.1,LS 1 (E5) c.2.1])]) (fun g=>calls.toNat - g) 0 ([],[],(Gt.empty:Gt Int Slot)) h ⟨(.sm O O),⟨fmQ O,⟨_,rfl,.same⟩,fmQ O,fbQ O (.sm O O),fbQ O (.sm O O),ø⟩,rfl⟩ ?_
 clear h
 intro g c g3 K6 e6
 refine Js fun n6=>Jr fun n7=>(JLm (Em g) O (JLm (I64 calls) O (JLh (BL (decide ((g:Int) < calls))) (Jf O O O) O (G6 (n7 (Gn O (fun hb=>?_) (fun hb=>?_)))))))
 ·
  have g4:=G76 hb
  obtain⟨q1,n8,h⟩:=G70 g3 g4
  replace h:=J3f n5 h
  refine Gp (n6 (Js fun n9=>Gk (Jr fun g7=>(JLh (E4 ([]:List G1)) (Qj 4 O O) O (G6 (g7 (Js fun g8=>Jr fun g9=>(JLm (I64 0) O (G6 (g9 (Gk ?_)))))))))))
  obtain⟨h0,h⟩:=J9 h
  obtain⟨o0,h1,h2,c6,h⟩:=Gcc h
  refine Hk (fun k (a5:(List G1))=>upto o0 h1 ((10:Int).toNat - k) k a5=some r) (fun k a5=>[(1,E6 boxes),(2,.mp 1049),(3,I64 calls),(4,Ef s),(8,.ptr 1103 0),(10,.ptr 1104 0),(11,.mp 1110),(12,Em g),(13,E4 a5),(14,Em k)]) (fun k a5=>[(1049,MP 97 Ki I64 home),(1112,.spare 59 1 c.1.length c.1.length),(1110,MP 155 Ki Slot.av c.2.2),(1103,.box 48 Kd),(1104,.box 48 [OW 1112 1 (E4) c.1,LS 1 (E5) c.2.1])]) (fun k=>(10:Int).toNat - k) 0 [] h ⟨(.sm O O),⟨fmQ O,⟨_,rfl,.same⟩,fmQ O,fbQ O (.sm O O),fbQ O (.sm O O),ø⟩,rfl⟩ ?_
  clear h
  intro k a5 b5 q2 o1
  refine Js fun h3=>Jr fun h4=>(JLm (Em k) O (JLh (BL (decide ((k:Int) < 10))) (Jf O O O) O (G6 (h4 (Gn O (fun hb=>?_) (fun hb=>?_))))))
  ·
   have b7:=G76 hb
   obtain⟨p5,h5,h⟩:=G70 b5 b7
   replace h:=J3f h2 h
   refine Gp (h3 (Js fun h6=>Gk (Jr fun h7=>(JLm (E6 boxes) O (JLl Hw O O O fun h8=>(JLm (I64 0) O (G6 (h7 (Gk ?_)))))))))
   obtain⟨o2,h9,i0,c7,h⟩:=J5 h
   refine Hk (fun w (a1:(List G1))=>each o2 h9 (List.drop w boxes) w a1=some r) (fun w a1=>[(1,E6 boxes),(2,.mp 1049),(3,I64 calls),(4,Ef s),(8,.ptr 1103 0),(10,.ptr 1104 0),(11,.mp 1110),(12,Em g),(13,E4 a1),(14,Em k),(39,E6 boxes),(40,Em boxes.length),(41,Em w)]) (fun w a1=>[(1049,MP 97 Ki I64 home),(1112,.spare 59 1 c.1.length c.1.length),(1110,MP 155 Ki Slot.av c.2.2),(1103,.box 48 Kd),(1104,.box 48 [OW 1112 1 (E4) c.1,LS 1 (E5) c.2.1])]) (fun w=>boxes.length - w) 0 a5 h ⟨(.sm O O),⟨fmQ O,⟨_,rfl,.same⟩,fmQ O,fbQ O (.sm O O),fbQ O (.sm O O),ø⟩,rfl⟩ ?_
   clear h
   intro w a1 b8 q3 o3
   refine Jr fun i1=>(JLh (BL (decide ((w:Int) < (boxes.length:Int)))) (Jf O O O) O (G6 (i1 (Js fun i2=>Gn O (fun hb=>?_) (fun hb=>?_)))))
   ·
    have b9:=Jn hb
    obtain⟨e,p6,i3,i4,h⟩:=Hs b8 b9
    replace h:=Rx i0 h
    refine Gp (i2 ?_)
    obtain⟨i5,c8,h⟩:=Rc h
    refine Qf (fun a6:(List G1)=>i5 a6=some r) (fun a6=>[(1,E6 boxes),(2,.mp 1049),(3,I64 calls),(4,Ef s),(8,.ptr 1103 0),(10,.ptr 1104 0),(11,.mp 1110),(12,Em g),(13,E4 a6),(14,Em k),(39,E6 boxes),(40,Em boxes.length),(41,Em w)]) (fun a6=>[(1049,MP 97 Ki I64 home),(1112,.spare 59 1 c.1.length c.1.length),(1110,MP 155 Ki Slot.av c.2.2),(1103,.box 48 Kd),(1104,.box 48 [OW 1112 1 (E4) c.1,LS 1 (E5) c.2.1])]) (fun Kj45 ej45=>?_) ?_
    ·
     refine Gk (Jr fun i7=>(JLh (Eh e) (H4 (f:=Box.av) (xs:=boxes) (y:=e) O O O Hw i3 O) O (JLh (.agg (Box.cs e)) (Gg Ys O O O) O (JLh (.ptr 1105 0) (Hc 1105 9 Qm O O) O (Hb (u:=.junk) (H0 (u:=.agg (Box.cs e)) (ds:=(Box.cs e)) Y1 O O O O O O O O) (G6 (i7 ?_)))))))
     refine fzQ [(1,E6 boxes),(2,.mp 1049),(3,I64 calls),(4,Ef s),(8,.ptr 1103 0),(10,.ptr 1104 0),(11,.mp 1110),(12,Em g),(13,E4 a1),(14,Em k),(16,Eh e),(39,E6 boxes),(40,Em boxes.length),(41,Em w)] [(1049,MP 97 Ki I64 home),(1112,.spare 59 1 c.1.length c.1.length),(1110,MP 155 Ki Slot.av c.2.2),(1103,.box 48 Kd),(1104,.box 48 [OW 1112 1 (E4) c.1,LS 1 (E5) c.2.1])] 1105 rfl rfl rfl ⟨fmQ O,⟨_,rfl,.same⟩,fmQ O,⟨_,rfl,.boxEq rfl rfl⟩,⟨_,rfl,.boxEq rfl rfl⟩,ø⟩ rfl ?_
     refine Jr fun i8=>(JLm (.mp 1110) O (JLh (Eh e) (Gc R2 O O O) O (JLh (I64 e.ID) (Gf G9 O O O) O ?_)))
     obtain⟨l,i9,h⟩:=Gh h
     refine JLh (.tup [.agg (Slot.cs l),BL (Gt.has c.2.2 e.ID)]) (((Ky i9) ▸ Hf7 (av:=Slot.av) (m:=c.2.2) (a:=e.ID) (Slot.mk 0 0 0) (.agg #[E0,E0,.int .u8 0]) O O O O R79 J94 Rc7 O)) O (JLm (.tup [.agg (Slot.cs l),BL (Gt.has c.2.2 e.ID)]) O (JLh (.agg (Slot.cs l)) (Gv O O O) O (JLh (BL (Gt.has c.2.2 e.ID)) (Gv O O O) O (JLh (.ptr 1106 0) (Hc 1106 3 G0e O O) O (Hb (u:=.junk) (H0 (u:=.agg (Slot.cs l)) (ds:=[I64 l.G4,I64 l.Tier,U8 l.Half]) G3a O O O O O O O O) (JLm (BL (Gt.has c.2.2 e.ID)) O (G6 (i8 ?_))))))))
     refine fzQ [(1,E6 boxes),(2,.mp 1049),(3,I64 calls),(4,Ef s),(8,.ptr 1103 0),(10,.ptr 1104 0),(11,.mp 1110),(12,Em g),(13,E4 a1),(14,Em k),(16,Eh e),(17,Ej l),(18,BL (Gt.has c.2.2 e.ID)),(39,E6 boxes),(40,Em boxes.length),(41,Em w)] [(1049,MP 97 Ki I64 home),(1112,.spare 59 1 c.1.length c.1.length),(1110,MP 155 Ki Slot.av c.2.2),(1103,.box 48 Kd),(1104,.box 48 [OW 1112 1 (E4) c.1,LS 1 (E5) c.2.1])] 1106 rfl rfl rfl ⟨fmQ O,⟨_,rfl,.same⟩,fmQ O,⟨_,rfl,.boxEq rfl rfl⟩,⟨_,rfl,.boxEq rfl rfl⟩,ø⟩ rfl ?_
     refine Jr fun j0=>(JLm (BL (Gt.has c.2.2 e.ID)) O (JLm (BL (Gt.has c.2.2 e.ID)) O (JLo (.dptr [I64 l.Tier,U8 l.Half]) [] O .sct ø (fun hc=>Gc Ru O O O) O (JLo (I64 l.Tier) [54] O .sct ⟨Ua,ø⟩ (fun hc=>Gf G9 O O O) O (JLo (Em k) [] O .sct ø (fun hc=>G5 O O) O (JLo (BL (decide (l.Tier=(k:Int)))) [55,56] O .sct ⟨Ua,Ua,ø⟩ (fun hc=>Q6 O O O) O (JLh (BL ((Gt.has c.2.2 e.ID)&&(decide (l.Tier=(k:Int))))) (Qr O O O O) O (JLm (BL ((Gt.has c.2.2 e.ID)&&(decide (l.Tier=(k:Int))))) O (JLo (.dptr ((Box.cs e).drop 5)) [] O .sct ø (fun hc=>Gc Rv O O O) O (JLo (I64 e.Load) [60] O .sct ⟨Ua,ø⟩ (fun hc=>Gf G9 O O O) O (JLo (Em g) [] O .sct ø (fun hc=>G5 O O) O (JLo (BL (decide (e.Load < (g:Int)))) [61,62] O .sct ⟨Ua,Ua,ø⟩ (fun hc=>Jf O O O) O (JLh (BL (((Gt.has c.2.2 e.ID)&&(decide (l.Tier=(k:Int))))&&(decide (e.Load < (g:Int))))) (Qr O O O O) O ?_)))))))))))))
     refine JLm (BL (((Gt.has c.2.2 e.ID)&&(decide (l.Tier=(k:Int))))&&(decide (e.Load < (g:Int))))) O (JLo (Em g) [] O .sct ø (fun hc=>G5 O O) O (JLo (.dptr ((Box.cs e).drop 6)) [] O .sct ø (fun hc=>Gc Yj O O O) O (JLo (I64 e.Discharge) [67] O .sct ⟨Ua,ø⟩ (fun hc=>Gf G9 O O O) O (JLo (BL (decide ((g:Int) < e.Discharge))) [66,68] O .sct ⟨Ua,Ua,ø⟩ (fun hc=>Jf O O O) O (JLh (BL ((((Gt.has c.2.2 e.ID)&&(decide (l.Tier=(k:Int))))&&(decide (e.Load < (g:Int))))&&(decide ((g:Int) < e.Discharge)))) (Qr O O O O) O (G6 (j0 (JCc O h (fun h hb=>?_) (fun h hb=>?_)))))))))
     ·
      refine Jr fun j1=>(JLm (E4 a1) O (JLh (Eh e) (Gc R2 O O O) O (JLh (I64 e.ID) (Gf G9 O O O) O (JLh (.agg (Slot.cs l)) (Gg Qa O O O) O (JLh (.agg [I64 e.ID,I64 l.G4,I64 l.Tier,U8 l.Half]) (Ja (cs:=[I64 e.ID,I64 l.G4,I64 l.Tier,U8 l.Half]) [(0,1),(1,3)] [I64 0,I64 0,I64 0,U8 0] [E0,E0,E0,.int .u8 0] G62 Gbb (zzQ O) O O) O ?_)))))
      obtain⟨a3,j2,h⟩:=Gh h
      refine JLh (E4 a3) (H3 O (G97 a1 (G1.mk e.ID l) a3 j2) Ja5 ⟨O,O,O,O,ø⟩) O (JLm (E4 a3) O (G6 (j1 (Jr fun j3=>(JLh (.agg (Gb.cs s)) (Gg Hn O O O) O (JLm (E6 boxes) O (JLm (E4 a3) O ?_)))))))
      obtain⟨g5,j4,h⟩:=Gh h
      refine JLh (BL g5) (H3 O (G06 s boxes a3 g5 j4) G87 ⟨O,O,O,O,O,O,ø⟩) O (G6 (j3 (JCc O h (fun h hb=>?_) (fun h hb=>?_))))
      ·
       refine G2 (JLm (E4 a3) O (JLm (E4 a3) O (G6 (ej45 _ _ a3 h ⟨(.sm O O),⟨fmQ O,⟨_,rfl,.same⟩,fmQ O,fbQ O (.sm O O),fbQ O (.sm O O),ø⟩,rfl⟩))))
      ·
       refine Gp (ej45 _ _ a1 h ⟨(.sm O O),⟨fmQ O,⟨_,rfl,.same⟩,fmQ O,fbQ O (.sm O O),fbQ O (.sm O O),ø⟩,rfl⟩)
     ·
      refine Gp (ej45 _ _ a1 h ⟨(.sm O O),⟨fmQ O,⟨_,rfl,.same⟩,fmQ O,fbQ O (.sm O O),fbQ O (.sm O O),ø⟩,rfl⟩)
    ·intro a6 h
     replace h:=app1 c8 h
     refine G2 (JLh (I64 ((w+1:Nat):Int)) (Hz (He b9 h8) O O O) O (JLm (I64 ((w+1:Nat):Int)) O (G6 (o3 _ _ (w+1) a6 (app1 i4 h) (by omega) ⟨(.sm O O),⟨fmQ O,⟨_,rfl,.same⟩,fmQ O,fbQ O (.sm O O),fbQ O (.sm O O),ø⟩,rfl⟩))))
   ·
    have h:=app1 c7 (Ht b8 (H9 hb))
    refine Hr (h6 (G2 (JLm (Em k) O (JLh (I64 ((k+1:Nat):Int)) (Hz (He b7 (G0c h0)) O O O) O (JLm (I64 ((k+1:Nat):Int)) O (G6 (o1 _ _ (k+1) a1 (app1 h5 h) (by omega) ⟨(.sm O O),⟨fmQ O,⟨_,rfl,.same⟩,fmQ O,fbQ O (.sm O O),fbQ O (.sm O O),ø⟩,rfl⟩)))))))
  ·
   have h:=app1 c6 (G71 b5 (Z8 hb))
   refine Hr (g8 (Js fun j5=>Jr fun j6=>(JLm (E6 boxes) O (JLl Hw O O O fun j7=>(JLm (I64 0) O (G6 (j6 (Gk ?_))))))))
   obtain⟨o4,j8,j9,c9,h⟩:=J5 h
   refine Hk (fun n (i:(List G1))=>each o4 j8 (List.drop n boxes) n i=some r) (fun n i=>[(1,E6 boxes),(2,.mp 1049),(3,I64 calls),(4,Ef s),(8,.ptr 1103 0),(10,.ptr 1104 0),(12,Em g),(13,E4 i),(83,E6 boxes),(84,Em boxes.length),(85,Em n)]) (fun n i=>[(1049,MP 97 Ki I64 home),(1112,.spare 59 1 c.1.length c.1.length),(1110,MP 155 Ki Slot.av c.2.2),(1103,.box 48 Kd),(1104,.box 48 [OW 1112 1 (E4) c.1,LS 1 (E5) c.2.1])]) (fun n=>boxes.length - n) 0 a5 h ⟨(.sm O O),⟨fmQ O,⟨_,rfl,.same⟩,fmQ O,fbQ O (.sm O O),fbQ O (.sm O O),ø⟩,rfl⟩ ?_
   clear h
   intro n i c0 q4 o5
   refine Jr fun k0=>(JLh (BL (decide ((n:Int) < (boxes.length:Int)))) (Jf O O O) O (G6 (k0 (Js fun k1=>Gn O (fun hb=>?_) (fun hb=>?_)))))
   ·
    have c1:=Jn hb
    obtain⟨d,p7,k2,k3,h⟩:=Hs c0 c1
    replace h:=Rx j9 h
    refine Gp (k1 ?_)
    obtain⟨k4,d0,h⟩:=Rc h
    refine Qf (fun a7:(List G1)=>k4 a7=some r) (fun a7=>[(1,E6 boxes),(2,.mp 1049),(3,I64 calls),(4,Ef s),(8,.ptr 1103 0),(10,.ptr 1104 0),(12,Em g),(13,E4 a7),(83,E6 boxes),(84,Em boxes.length),(85,Em n)]) (fun a7=>[(1049,MP 97 Ki I64 home),(1112,.spare 59 1 c.1.length c.1.length),(1110,MP 155 Ki Slot.av c.2.2),(1103,.box 48 Kd),(1104,.box 48 [OW 1112 1 (E4) c.1,LS 1 (E5) c.2.1])]) (fun Kj59 ej59=>?_) ?_
    ·
     refine Gk (Jr fun k5=>(JLh (Eh d) (H4 (f:=Box.av) (xs:=boxes) (y:=d) O O O Hw k2 O) O (JLh (.agg (Box.cs d)) (Gg Ys O O O) O (JLh (.ptr 1107 0) (Hc 1107 9 Qm O O) O (Hb (u:=.junk) (H0 (u:=.agg (Box.cs d)) (ds:=(Box.cs d)) Y1 O O O O O O O O) (G6 (k5 ?_)))))))
     refine fzQ [(1,E6 boxes),(2,.mp 1049),(3,I64 calls),(4,Ef s),(8,.ptr 1103 0),(10,.ptr 1104 0),(12,Em g),(13,E4 i),(21,Eh d),(83,E6 boxes),(84,Em boxes.length),(85,Em n)] [(1049,MP 97 Ki I64 home),(1112,.spare 59 1 c.1.length c.1.length),(1110,MP 155 Ki Slot.av c.2.2),(1103,.box 48 Kd),(1104,.box 48 [OW 1112 1 (E4) c.1,LS 1 (E5) c.2.1])] 1107 rfl rfl rfl ⟨fmQ O,⟨_,rfl,.same⟩,fmQ O,⟨_,rfl,.boxEq rfl rfl⟩,⟨_,rfl,.boxEq rfl rfl⟩,ø⟩ rfl (Js fun k6=>?_)
     refine Jr fun k7=>(JLh (.dptr ((Box.cs d).drop 5)) (Gc Rv O O O) O (JLh (I64 d.Load) (Gf G9 O O O) O (JLm (Em g) O (JLh (BL (decide ((g:Int) < d.Load))) (G46 O O O) O (JLm (BL (decide ((g:Int) < d.Load))) O (JLo (Em g) [] O .scf ø (fun hc=>G5 O O) O (JLo (.dptr ((Box.cs d).drop 6)) [] O .scf ø (fun hc=>Gc Yj O O O) O (JLo (I64 d.Discharge) [95] O .scf ⟨Ua,ø⟩ (fun hc=>Gf G9 O O O) O (JLo (BL (decide (d.Discharge≤(g:Int)))) [94,96] O .scf ⟨Ua,Ua,ø⟩ (fun hc=>Ge4 O O O) O (JLh (BL ((decide ((g:Int) < d.Load))||(decide (d.Discharge≤(g:Int))))) (G27 O O O O) O (JLm (BL ((decide ((g:Int) < d.Load))||(decide (d.Discharge≤(g:Int))))) O (JLo (E4 i) [] O .scf ø (fun hc=>G5 O O) O (JLo (Eh d) [] O .scf ø (fun hc=>Gc R2 O O O) O ?_)))))))))))))
     refine JLo (I64 d.ID) [101] O .scf ⟨Ua,ø⟩ (fun hc=>Gf G9 O O O) O ?_
     obtain⟨c2,k8,h⟩:=Gh h
     refine JLo (BL c2) [100,102] O .scf ⟨Ua,Ua,ø⟩ (fun hc=>H3 (args:=[E4 i,I64 d.ID]) O (H3e i d.ID c2 (Hg hc k8)) Qfb ⟨O,O,O,O,ø⟩) O (JLh (BL (((decide ((g:Int) < d.Load))||(decide (d.Discharge≤(g:Int))))||c2)) (G27 O O O O) O (G6 (k7 (JCc O h (fun h hb=>?_) (fun h hb=>?_)))))
     ·
      refine Hr (ej59 _ _ i h ⟨(.sm O O),⟨fmQ O,⟨_,rfl,.same⟩,fmQ O,fbQ O (.sm O O),fbQ O (.sm O O),ø⟩,rfl⟩)
     ·
      refine Gp (k6 (Jr fun k9=>(JLm (BL false) O (G6 (k9 (Js fun l0=>Jr fun l1=>(JLm (I64 0) O (G6 (l1 (Gk ?_))))))))))
      obtain⟨o6,l2,h⟩:=J0e h
      refine Hk (fun a8 (j:(List G1)×Bool×Int)=>loop o6 a8 j=some r) (fun a8 j=>[(1,E6 boxes),(2,.mp 1049),(3,I64 calls),(4,Ef s),(8,.ptr 1103 0),(10,.ptr 1104 0),(12,Em g),(13,E4 j.1),(21,Eh d),(22,BL j.2.1),(23,I64 j.2.2),(83,E6 boxes),(84,Em boxes.length),(85,Em n)]) (fun a8 j=>[(1049,MP 97 Ki I64 home),(1112,.spare 59 1 c.1.length c.1.length),(1110,MP 155 Ki Slot.av c.2.2),(1103,.box 48 Kd),(1104,.box 48 [OW 1112 1 (E4) c.1,LS 1 (E5) c.2.1])]) (fun a8=>a8) F (i,false,0) h ⟨(.sm O O),⟨fmQ O,⟨_,rfl,.same⟩,fmQ O,fbQ O (.sm O O),fbQ O (.sm O O),ø⟩,rfl⟩ ?_
      clear h
      intro a8 j l3 q5 o7
      obtain⟨o8,p8,hm_67,l4,h⟩:=H8f l3
      replace h:=Rde l2 h
      refine Js fun l5=>Jr fun l6=>(JLm (I64 j.2.2) O (JLh (Ef s) (Gc Hm O O O) O (JLh (E7 s.Columns) (Gf J3 O O O) O (JLl Ho O O O fun p1=>(JLh (BL (decide (j.2.2 < (s.Columns.length:Int)))) (Jf O O O) O (JLm (BL (decide (j.2.2 < (s.Columns.length:Int)))) O (JLo (BL j.2.1) [] O .sct ø (fun hc=>G5 O O) O (JLo (BL (!j.2.1)) [111] O .sct ⟨Ua,ø⟩ (fun hc=>G1f (b:=j.2.1) O O) O (JLh (BL ((decide (j.2.2 < (s.Columns.length:Int)))&&(!j.2.1))) (Qr O O O O) O (G6 (l6 (JCc O h (fun h hb=>?_) (fun h hb=>?_)))))))))))))
      ·
       refine Gp (l5 ?_)
       obtain⟨l7,d1,h⟩:=Rc h
       refine Qf (fun a4:(List G1)×Bool=>l7 a4=some r) (fun a4=>[(1,E6 boxes),(2,.mp 1049),(3,I64 calls),(4,Ef s),(8,.ptr 1103 0),(10,.ptr 1104 0),(12,Em g),(13,E4 a4.1),(21,Eh d),(22,BL a4.2),(23,I64 j.2.2),(83,E6 boxes),(84,Em boxes.length),(85,Em n)]) (fun a4=>[(1049,MP 97 Ki I64 home),(1112,.spare 59 1 c.1.length c.1.length),(1110,MP 155 Ki Slot.av c.2.2),(1103,.box 48 Kd),(1104,.box 48 [OW 1112 1 (E4) c.1,LS 1 (E5) c.2.1])]) (fun Kj70 ej70=>?_) ?_
       ·
        refine Gk (Jr fun l8=>(JLh (.agg (Gb.cs s)) (Gg Hn O O O) O (JLh (.dptr ((Box.cs d).drop 2)) (Gc Z6 O O O) O (JLh (U8 d.Size) (Gf Jc O O O) O ?_))))
        obtain⟨a2,l9,h⟩:=Gh h
        refine JLh (E8 a2) (H3 O (J1d s d.Size a2 l9) Jae ⟨O,O,O,O,ø⟩) O (JLl Rk O O O fun d2=>(JLm (I64 0) O (G6 (l8 (Gk ?_)))))
        obtain⟨o9,m0,m1,d3,h⟩:=J5 h
        refine Hk (fun x (t:(List G1)×Bool)=>each o9 m0 (List.drop x a2) x t=some r) (fun x t=>[(1,E6 boxes),(2,.mp 1049),(3,I64 calls),(4,Ef s),(8,.ptr 1103 0),(10,.ptr 1104 0),(12,Em g),(13,E4 t.1),(21,Eh d),(22,BL t.2),(23,I64 j.2.2),(83,E6 boxes),(84,Em boxes.length),(85,Em n),(119,E8 a2),(120,Em a2.length),(121,Em x)]) (fun x t=>[(1049,MP 97 Ki I64 home),(1112,.spare 59 1 c.1.length c.1.length),(1110,MP 155 Ki Slot.av c.2.2),(1103,.box 48 Kd),(1104,.box 48 [OW 1112 1 (E4) c.1,LS 1 (E5) c.2.1])]) (fun x=>a2.length - x) 0 (j.1,j.2.1) h ⟨(.sm O O),⟨fmQ O,⟨_,rfl,.same⟩,fmQ O,fbQ O (.sm O O),fbQ O (.sm O O),ø⟩,rfl⟩ ?_
        clear h
        intro x t c3 q6 p0
        refine Jr fun d4=>(JLh (BL (decide ((x:Int) < (a2.length:Int)))) (Jf O O O) O (G6 (d4 (Js fun d5=>Gn O (fun hb=>?_) (fun hb=>?_)))))
        ·
         have c4:=Jn hb
         obtain⟨p,p9,m2,m3,h⟩:=Hs c3 c4
         replace h:=Rx m1 h
         refine Gp (d5 (Js fun d6=>Gk (Jr fun d7=>(JLh (Ej p) (H4 (f:=Slot.av) (xs:=a2) (y:=p) O O O Rk m2 O) O (JLh (.agg (Slot.cs p)) (Gg Qa O O O) O (JLh (.ptr 1108 0) (Hc 1108 3 G0e O O) O (Hb (u:=.junk) (H0 (u:=.agg (Slot.cs p)) (ds:=[I64 p.G4,I64 p.Tier,U8 p.Half]) G3a O O O O O O O O) (G6 (d7 ?_)))))))))
         refine fzQ [(1,E6 boxes),(2,.mp 1049),(3,I64 calls),(4,Ef s),(8,.ptr 1103 0),(10,.ptr 1104 0),(12,Em g),(13,E4 t.1),(21,Eh d),(22,BL t.2),(23,I64 j.2.2),(25,Ej p),(83,E6 boxes),(84,Em boxes.length),(85,Em n),(119,E8 a2),(120,Em a2.length),(121,Em x)] [(1049,MP 97 Ki I64 home),(1112,.spare 59 1 c.1.length c.1.length),(1110,MP 155 Ki Slot.av c.2.2),(1103,.box 48 Kd),(1104,.box 48 [OW 1112 1 (E4) c.1,LS 1 (E5) c.2.1])] 1108 rfl rfl rfl ⟨fmQ O,⟨_,rfl,.same⟩,fmQ O,⟨_,rfl,.boxEq rfl rfl⟩,⟨_,rfl,.boxEq rfl rfl⟩,ø⟩ rfl ?_
         refine Jr fun d8=>(JLm (E4 t.1) O (JLh (Eh d) (Gc R2 O O O) O (JLh (I64 d.ID) (Gf G9 O O O) O (JLh (.agg (Slot.cs p)) (Gg Qa O O O) O (JLh (.agg [I64 d.ID,I64 p.G4,I64 p.Tier,U8 p.Half]) (Ja (cs:=[I64 d.ID,I64 p.G4,I64 p.Tier,U8 p.Half]) [(0,1),(1,3)] [I64 0,I64 0,I64 0,U8 0] [E0,E0,E0,.int .u8 0] G62 Gbb (zzQ O) O O) O ?_)))))
         obtain⟨z,d9,h⟩:=Gh h
         refine JLh (E4 z) (H3 O (G97 t.1 (G1.mk d.ID p) z d9) Ja5 ⟨O,O,O,O,ø⟩) O (JLm (E4 z) O (G6 (d8 (Js fun e0=>?_))))
         refine Ye (l':=[(1,E6 boxes),(2,.mp 1049),(3,I64 calls),(4,Ef s),(8,.ptr 1103 0),(10,.ptr 1104 0),(12,Em g),(13,E4 t.1),(21,Eh d),(22,BL t.2),(23,I64 j.2.2),(25,Ej p),(26,E4 z),(83,E6 boxes),(84,Em boxes.length),(85,Em n),(119,E8 a2),(120,Em a2.length),(121,Em x)]) (L':=[(1049,MP 97 Ki I64 home),(1112,.spare 59 1 c.1.length c.1.length),(1110,MP 155 Ki Slot.av c.2.2),(1103,.box 48 Kd),(1104,.box 48 [OW 1112 1 (E4) c.1,LS 1 (E5) c.2.1])]) ⟨(.sm O O),⟨fmQ O,⟨_,rfl,.same⟩,fmQ O,fbQ O (.sm O O),fbQ O (.sm O O),ø⟩,rfl⟩ ?_
         obtain⟨m4,e1,h⟩:=Gh h
         obtain⟨m5,e2,h⟩:=J6 h
         obtain⟨a9,b2,h⟩:=Gh h
         obtain⟨b0,e3,h⟩:=Gh h
         refine JC_d0 Q3 (by kernel_rfl) (Dq (Ej p) (Gc Qd O O O) O (Dq (I64 p.G4) (Gf G9 O O O) O (Dq (.mp 1049) (G5 O O) O (Dq (Eh d) (Gc R2 O O O) O (Dq (I64 d.ID) (Gf G9 O O O) O (Dq (I64 m4) (((Ky e1) ▸ H1e (av:=I64) (m:=home) (a:=d.ID) 0 E0 O O O O R79 Q17 H57 O)) O (Dq (I64 j.2.2) (G5 O O) O (Dq (I64 m5) (Hz e2 O O O) O (Dq (Ef s) (Gc Hm O O O) O (Dq (E7 s.Columns) (Gf J3 O O O) O (Dq (Em s.Columns.length) (G32 (f:=G4.av) (xs:=s.Columns) Ho O O) O (Dq (I64 a9) (H52 (Qb b2).1 (Qb b2).2 O O O) O (Dq (BL (decide (p.G4=a9))) (Q6 O O O) O ?_)))))))))))))
         refine Dq (BL (decide (p.G4=a9))) (G5 O O) O (Do (.agg (Gb.cs s)) [] O .sct ø (fun hc=>Gg Hn O O O) O (Do (E6 boxes) [] O .sct ø (fun hc=>G5 O O) O (Do (E4 z) [] O .sct ø (fun hc=>G5 O O) O (Do (BL b0) [145,146,147] O .sct ⟨Ua,Ua,Ua,ø⟩ (fun hc=>H3 (args:=[.agg (Gb.cs s),E6 boxes,E4 z]) O (G06 s boxes z b0 (Hg hc e3)) G87 ⟨O,O,O,O,O,O,ø⟩) O (Dq (BL ((decide (p.G4=a9))&&b0)) (Qr O O O O) O (Dnil (e0 (JCc O h (fun h hb=>?_) (fun h hb=>?_)))))))))
         ·
          refine Jr fun e4=>(JLm (E4 z) O (JLm (E4 z) O (JLm (BL true) O (G6 (e4 (Hr (ej70 _ _ (z,true) h ⟨(.sm O O),⟨fmQ O,⟨_,rfl,.same⟩,fmQ O,fbQ O (.sm O O),fbQ O (.sm O O),ø⟩,rfl⟩)))))))
         ·
          refine Gp (d6 (G2 (JLh (I64 ((x+1:Nat):Int)) (Hz (He c4 d2) O O O) O (JLm (I64 ((x+1:Nat):Int)) O (G6 (p0 _ _ (x+1) (t.1,t.2) (app1 m3 h) (by omega) ⟨(.sm O O),⟨fmQ O,⟨_,rfl,.same⟩,fmQ O,fbQ O (.sm O O),fbQ O (.sm O O),ø⟩,rfl⟩))))))
        ·
         have h:=app1 d3 (Ht c3 (H9 hb))
         refine Hr (ej70 _ _ (t.1,t.2) h ⟨(.sm O O),⟨fmQ O,⟨_,rfl,.same⟩,fmQ O,fbQ O (.sm O O),fbQ O (.sm O O),ø⟩,rfl⟩)
       ·intro a4 h
        replace h:=app1 d1 h
        refine G2 (JLm (I64 j.2.2) O ?_)
        obtain⟨b1,e5,h⟩:=J6 h
        refine JLh (I64 b1) (Hz e5 O O O) O (JLm (I64 b1) O (G6 (o7 _ _ o8 (a4.1,a4.2,b1) (app1 l4 h) (by omega) ⟨(.sm O O),⟨fmQ O,⟨_,rfl,.same⟩,fmQ O,fbQ O (.sm O O),fbQ O (.sm O O),ø⟩,rfl⟩)))
      ·
       refine Hr (l0 (Jr fun e7=>(JLm (BL j.2.1) O (JLh (BL (!j.2.1)) (G1f (b:=j.2.1) O O) O (G6 (e7 (JCc O h (fun h hb=>?_) (fun h hb=>?_))))))))
       ·
        refine Js fun e8=>Ye (l':=[(8,.ptr 1103 0),(21,Eh d)]) (L':=[(1049,MP 97 Ki I64 home),(1112,.spare 59 1 c.1.length c.1.length),(1110,MP 155 Ki Slot.av c.2.2),(1103,.box 48 Kd),(1104,.box 48 [OW 1112 1 (E4) c.1,LS 1 (E5) c.2.1])]) ⟨(.sm O O),⟨⟨_,O,.map⟩,⟨_,O,.same⟩,⟨_,O,.map⟩,⟨_,O,.boxL O (.sm O O)⟩,⟨_,O,.boxL O (.sm O O)⟩,ø⟩,O⟩ ?_
        refine R4 [3] [0,0,0,0,1] [0,1,1,0,1] [[(1049,MP 97 Ki I64 home),(1112,.spare 59 1 c.1.length c.1.length),(1110,MP 155 Ki Slot.av c.2.2),(1103,.box 48 Kd),(1104,.box 48 [OW 1112 1 (E4) c.1,LS 1 (E5) c.2.1])],((1103,.box 48 Kd)::[(1049,MP 97 Ki I64 home),(1112,.spare 59 1 c.1.length c.1.length),(1110,MP 155 Ki Slot.av c.2.2),(1103,.box 48 Kd),(1104,.box 48 [OW 1112 1 (E4) c.1,LS 1 (E5) c.2.1])])] Q3 (by kernel_rfl) rfl rfl ?_
        refine Gr (u:=.agg Kd) O O ⟨Gm (Ja (cs:=Kd) [(0,1),(1,1)] Kd [.slice none 0 0,.slice none 0 0] Gf5 G38 ⟨.inr ⟨_,O,O⟩,.inr ⟨_,O,O⟩,ø⟩ O O) O,ø⟩ (Gr (u:=Eh d) O O ⟨Gm (Gc R2 O O O) O,Gm (Gc R2 O O O) O,ø⟩ (Gr (u:=I64 d.ID) O O ⟨Gm (Gf G9 O O O) O,Gm (Gf G9 O O O) O,ø⟩ (Ha7 (u:=.junk) O O O O (Gm (H0 (u:=.agg Kd) (ds:=Kd) Qv O O O O O O O O) O) (Gr (u:=I64 d.ID) O O ⟨Gm (G7 O O) O,ø⟩ (Zg ?_)))))
        refine e8 (Ye (l':=[(8,.ptr 1103 0),(9,I64 d.ID)]) (L':=[(1049,MP 97 Ki I64 home),(1110,MP 155 Ki Slot.av c.2.2),(1103,.box 48 Kd),(1104,.box 48 [LS 1 (E4) c.1,LS 1 (E5) c.2.1])]) ⟨(.sm O O),⟨⟨_,O,.map⟩,⟨_,O,.map⟩,⟨_,O,.boxL O (.sm O O)⟩,⟨_,O,.boxL O ⟨.list O,.same O,ø⟩⟩,ø⟩,O⟩ ?_)
        refine Gj [(8,.ptr 1103 0),(9,I64 d.ID)] [(1049,MP 97 Ki I64 home),(1110,MP 155 Ki Slot.av c.2.2),(1103,.box 48 Kd)] 1104 rfl rfl rfl ⟨fmQ O,fmQ O,⟨_,rfl,.boxEq rfl rfl⟩,ø⟩ rfl (by exact⟨.conv (.same rfl),.conv (.same rfl),ø⟩) (H2 ?_)
        obtain rfl:=Ky h
        exact⟨[.agg Kd,I64 d.ID],[(1049,MP 97 Ki I64 home)],⟨⟨_,O,.map⟩,ø⟩,O,⟨⟨_,⟨_,_,_,_,O,O,O,.inl ⟨G4b,O⟩⟩,.conv (.same O)⟩,⟨_,O,.conv (.same O)⟩,ø⟩,O,O⟩
       ·
        refine Gp (ej59 _ _ j.1 h ⟨(.sm O O),⟨fmQ O,⟨_,rfl,.same⟩,fmQ O,fbQ O (.sm O O),fbQ O (.sm O O),ø⟩,rfl⟩)
    ·intro a7 h
     replace h:=app1 d0 h
     refine G2 (JLh (I64 ((n+1:Nat):Int)) (Hz (He c1 j7) O O O) O (JLm (I64 ((n+1:Nat):Int)) O (G6 (o5 _ _ (n+1) a7 (app1 k3 h) (by omega) ⟨(.sm O O),⟨fmQ O,⟨_,rfl,.same⟩,fmQ O,fbQ O (.sm O O),fbQ O (.sm O O),ø⟩,rfl⟩))))
   ·
    have h:=app1 c9 (Ht c0 (H9 hb))
    refine Hr (j5 (Jr fun e9=>(JLh (.mp 1111) (G5f 1111 Ki Slot.av O O) O (JLm (.mp 1111) O ?_))))
    refine Raf 1110 1111 (MP 155 Ki Slot.av (Gt.empty:Gt Int Slot)) [(1,E6 boxes),(2,.mp 1049),(3,I64 calls),(4,Ef s),(8,.ptr 1103 0),(10,.ptr 1104 0),(12,Em g),(13,E4 i),(83,E6 boxes),(84,Em boxes.length),(85,Em n),(86,BL (decide ((n:Int) < (boxes.length:Int)))),(158,.mp 1111),(11,.mp 1111)] [(1,E6 boxes),(2,.mp 1049),(3,I64 calls),(4,Ef s),(8,.ptr 1103 0),(10,.ptr 1104 0),(12,Em g),(13,E4 i),(83,E6 boxes),(84,Em boxes.length),(85,Em n),(86,BL (decide ((n:Int) < (boxes.length:Int)))),(158,.mp 1110),(11,.mp 1110)] [(1049,MP 97 Ki I64 home),(1112,.spare 59 1 c.1.length c.1.length),(1103,.box 48 Kd),(1104,.box 48 [OW 1112 1 (E4) c.1,LS 1 (E5) c.2.1])] ⟨_,_,rfl⟩ ⟨(.sm O O),⟨fmQ O,fmQ O,⟨_,rfl,.same⟩,fbQ O (.sm O O),fbQ O (.sm O O),ø⟩,rfl⟩ rfl rfl rfl rfl rfl ⟨fmQ O,⟨_,rfl,.same⟩,⟨_,rfl,.boxEq rfl rfl⟩,⟨_,rfl,.boxEq rfl rfl⟩,ø⟩ ⟨.inr ⟨rfl,rfl⟩,⟨.inr ⟨rfl,rfl⟩,⟨.inr ⟨rfl,rfl⟩,⟨.inr ⟨rfl,rfl⟩,⟨.inr ⟨rfl,rfl⟩,⟨.inr ⟨rfl,rfl⟩,⟨.inr ⟨rfl,rfl⟩,⟨.inr ⟨rfl,rfl⟩,⟨.inr ⟨rfl,rfl⟩,⟨.inr ⟨rfl,rfl⟩,⟨.inr ⟨rfl,rfl⟩,⟨.inr ⟨rfl,rfl⟩,⟨.inl ⟨rfl,rfl⟩,⟨.inl ⟨rfl,rfl⟩,ø⟩⟩⟩⟩⟩⟩⟩⟩⟩⟩⟩⟩⟩⟩ ?_
    refine G6 (e9 (Js fun f0=>Jr fun f1=>(JLm (E4 i) O (JLl Hd O O O fun f2=>(JLm (I64 0) O (G6 (f1 (Gk ?_))))))))
    obtain⟨m6,f3,f4,c5,h⟩:=J5 h
    refine Hk (fun q (a0:(Gt Int Slot))=>each m6 f3 (List.drop q i) q a0=some r) (fun q a0=>[(1,E6 boxes),(2,.mp 1049),(3,I64 calls),(4,Ef s),(8,.ptr 1103 0),(10,.ptr 1104 0),(11,.mp 1110),(12,Em g),(13,E4 i),(159,E4 i),(160,Em i.length),(161,Em q)]) (fun q a0=>[(1110,MP 155 Ki Slot.av a0),(1049,MP 97 Ki I64 home),(1112,.spare 59 1 c.1.length c.1.length),(1103,.box 48 Kd),(1104,.box 48 [OW 1112 1 (E4) c.1,LS 1 (E5) c.2.1])]) (fun q=>i.length - q) 0 (Gt.empty:Gt Int Slot) h ⟨(.sm O O),⟨fmQ O,fmQ O,⟨_,rfl,.same⟩,fbQ O (.sm O O),fbQ O (.sm O O),ø⟩,rfl⟩ ?_
    clear h
    intro q a0 b3 q0 m7
    refine Jr fun f5=>(JLh (BL (decide ((q:Int) < (i.length:Int)))) (Jf O O O) O (G6 (f5 (Js fun f6=>Gn O (fun hb=>?_) (fun hb=>?_)))))
    ·
     have b4:=Jn hb
     obtain⟨o,p2,f7,f8,h⟩:=Hs b3 b4
     replace h:=Rx f4 h
     refine Gp (f6 (Js fun f9=>Gk (Jr fun g0=>(JLh (Eg o) (H4 (f:=G1.av) (xs:=i) (y:=o) O O O Hd f7 O) O (JLh (.agg (G1.cs o)) (Gg Qw O O O) O (JLh (.ptr 1109 0) (Hc 1109 4 Qk O O) O (Hb (u:=.junk) (H0 (u:=.agg (G1.cs o)) (ds:=[I64 o.Box,I64 o.Slot.G4,I64 o.Slot.Tier,U8 o.Slot.Half]) Z0 O O O O O O O O) (G6 (g0 ?_)))))))))
     refine fzQ [(1,E6 boxes),(2,.mp 1049),(3,I64 calls),(4,Ef s),(8,.ptr 1103 0),(10,.ptr 1104 0),(11,.mp 1110),(12,Em g),(13,E4 i),(28,Eg o),(159,E4 i),(160,Em i.length),(161,Em q)] [(1110,MP 155 Ki Slot.av a0),(1049,MP 97 Ki I64 home),(1112,.spare 59 1 c.1.length c.1.length),(1103,.box 48 Kd),(1104,.box 48 [OW 1112 1 (E4) c.1,LS 1 (E5) c.2.1])] 1109 rfl rfl rfl ⟨fmQ O,fmQ O,⟨_,rfl,.same⟩,⟨_,rfl,.boxEq rfl rfl⟩,⟨_,rfl,.boxEq rfl rfl⟩,ø⟩ rfl ?_
     refine G2 (JLm (.mp 1110) O (JLh (Eg o) (Gc Jz O O O) O (JLh (I64 o.Box) (Gf G9 O O O) O (JLh (.dptr ((G1.cs o).drop 1)) (Gc Qc O O O) O (JLh (.agg ((G1.cs o).drop 1)) (Gg Qa O O O) O (Hb (u:=.junk) (G6b (m:=a0) (a:=o.Box) (v:=o.Slot) O O O O O O R79 J94) (G6 (f9 (G2 (JLh (I64 ((q+1:Nat):Int)) (Hz (He b4 f2) O O O) O (JLm (I64 ((q+1:Nat):Int)) O (G6 (m7 _ _ (q+1) (Gt.put a0 o.Box o.Slot) (app1 f8 h) (by omega) ⟨(.sm O O),⟨fmQ O,fmQ O,⟨_,rfl,.same⟩,fbQ O (.sm O O),fbQ O (.sm O O),ø⟩,rfl⟩)))))))))))))
    ·
     have h:=app1 c5 (Ht b3 (H9 hb))
     refine Hr (f0 (G2 (JLh (.ptr 1104 0) (J7 Yh O O) O (JLh (OW 1112 1 (E4) c.1) (Jm Q1 O O O O) O (JLm (E4 i) O (JLh (LS 1 (E4) [i]) (H7 (xs:=[E4 i]) O ⟨O,O,ø⟩ J8 Gd5 O O O O) O ?_))))))
     obtain⟨g1,h⟩:=J9 h
     refine JLh (OW 1112 1 (E4) (c.1++[i])) (R0 (f:=(E4)) (xs:=c.1) (ys:=[i]) O O O O J8 H5b g1 (fun _=>O) (.inl O) O) O (JLh (.ptr 1104 0) (J7 Yh O O) O (Hb (u:=.junk) (H0 (u:=OW 1112 1 (E4) (c.1++[i])) (ds:=[OW 1112 1 (E4) (c.1++[i]),LS 1 (E5) c.2.1]) H59 O O O O O O O O) (G6 (n9 (G2 (JLm (Em g) O (JLh (I64 ((g+1:Nat):Int)) (Hz (He g4 (G0c n3)) O O O) O (JLm (I64 ((g+1:Nat):Int)) O (G6 (e6 _ _ (g+1) ((c.1++[i]),c.2.1,a0) (app1 n8 h) (by omega) ⟨(.sm O O),⟨fmQ O,⟨_,rfl,.same⟩,fmQ O,fbQ O (.sm O O),fbQ O (.sm O O),ø⟩,rfl⟩))))))))))
 ·
  have h:=app1 g6 (G71 g3 (Z8 hb))
  refine Hr (n1 (Jr fun g2=>(JLh (.agg [OW 1112 1 (E4) c.1,LS 1 (E5) c.2.1]) (G28 G4b O O O O) O (Hb (u:=.junk) (H0 (u:=.agg [OW 1112 1 (E4) c.1,LS 1 (E5) c.2.1]) (ds:=[OW 1112 1 (E4) c.1,LS 1 (E5) c.2.1]) Qv O O O O O O O O) (JLm (I64 0) O (G6 (g2 (H2 ?_))))))))
  obtain rfl:=Ky h
  exact⟨[.agg [LS 1 (E4) c.1,LS 1 (E5) c.2.1],I64 0],[(1049,MP 97 Ki I64 home)],⟨⟨_,O,.map⟩,ø⟩,O,⟨⟨_,⟨_,_,_,_,O,O,O,.inl ⟨G4b,O⟩⟩,.agg ⟨.list O,.same O,ø⟩⟩,⟨_,O,.conv (.same O)⟩,ø⟩,O,O⟩

def Qz (F:Nat) (s:Gb) (l:List Gq) (calls:Int) (most:Int):Option ((List Box)×G5b):=
 bnd (Ga7 (min (l.length:Int) most) l.length) fun m6=>
 each (fun b u (a:(List Box)×(Gt Int Int)) q=>
  chk (5*((u+1:Nat):Int)) fun g=>
  chk (b.Kilos) fun v=>
  chk (100*v) fun w=>
  chk (1000+w) fun k=>
  chk (b.Load) fun x=>
  chk (calls - 1) fun y=>
  bnd (Ged x y) fun e=>
  chk (e+1) fun z=>
  chk (b.Stay) fun a0=>
  chk (calls - 1) fun a1=>
  chk (a1 - e) fun a2=>
  bnd (Ged a0 a2) fun a3=>
  chk (z+a3) fun m=>
  jp (fun n=>
   bif b.Small then
   (n (20,false))
   else
   (n (40,b.High))) fun(c:Int×Bool)=>
  chk (b.G4) fun a4=>
  bnd (Ged a4 (s.Columns.length:Int)) fun a5=>
  need (decide ((a.1.length+[(Box.mk g ByteArray.empty c.1 c.2 k e m 0 false)].length)*64≤140737488355328∧a.1.length+[(Box.mk g ByteArray.empty c.1 c.2 k e m 0 false)].length≤maxLen)) <|
  q ((a.1++[(Box.mk g ByteArray.empty c.1 c.2 k e m 0 false)]),(Gt.put a.2 g a5)))
 (fun(a:(List Box)×(Gt Int Int))=>
  chk ((a.1.length:Int)+1) fun p=>
  need (decide (p≤9223372036854775807)) <|
  upto (fun a8 (f:(List Box)×(Gt Int Int)) r=>
   bnd (Y6 F s f.1 f.2 calls) fun h=>
   bif decide (h.2.1=0) then
   (some (f.1,h.1))
   else
   (each (fun i a9 (d:(List Box)) t=>
     jp (fun o=>
      bif decide (i.ID≠h.2.1) then
      (need (decide ((d.length+[i].length)*64≤140737488355328∧d.length+[i].length≤maxLen)) <|
       o (d++[i]))
      else
      (o d)) fun(a6:(List Box))=>
     t a6)
    (fun(d:(List Box))=>
     r (d,h.2.2)) f.1 0 []))
  (fun(f:(List Box)×(Gt Int Int))=>
   bnd (H70 calls) fun j=>
   need (decide (24*j≤281474976710656∧j≤maxLen∧j*1≤16777216)) <|
   some ([],(G5b.mk (List.replicate j ([]:List G1)) []))) p.toNat 0 (a.1,a.2)) (l.take m6) 0 ([],(Gt.empty:Gt Int Int))
abbrev Ke:List AV:=[LS 1 (E4) ([]:List (List G1)),LS 1 (E5) ([]:List (List Int))]
theorem G6c (F:Nat) (s:Gb) (l:List Gq) (calls:Int) (most:Int) (r:(List Box)×G5b) (h:Qz F s l calls most=some r):Pure En 11 [.agg (Gb.cs s),Ed l,I64 calls,I64 most] (·=.tup [E6 r.1,.agg [LS 1 (E4) r.2.States,LS 1 (E5) r.2.Water]]):=by
 unfold Qz at h
 refine Ha [.tmp 8,.cell 9 48] Tryz.func11 O O (Jr fun j3=>(JLh (.ptr 1041 0) (Q5 (cs:=(Gb.cs s)) 1041 O O O O O) O (JLh (E6 ([]:List Box)) (Qj 9 O O) O (JLh (.ptr 1042 0) (Yc 1042 Ke [.slice none 0 0,.slice none 0 0] G38 ⟨.inr ⟨_,O,O⟩,.inr ⟨_,O,O⟩,ø⟩ O O) O (G6 (j3 ?_))))))
 refine fzQ [(1,Ed l),(2,I64 calls),(3,I64 most),(4,Ef s),(9,.ptr 1042 0)] [(1042,.box 48 Ke)] 1041 rfl rfl rfl ⟨⟨_,rfl,.boxEq rfl rfl⟩,ø⟩ rfl (Jr fun j4=>(JLh (OW 1043 9 Box.av ([]:List Box)) (G45 1043 37 9 O O O) O (G6 (j4 (Jr fun j5=>(JLh (.mp 1049) (G5f 1049 Ki I64 O O) O (JLm (.mp 1049) O (G6 (j5 (Js fun j6=>Jr fun j7=>(JLm (Ed l) O (JLm (Ed l) O (JLl Zw O O O fun k2=>(JLm (I64 most) O (JLh (I64 (min (l.length:Int) most)) (J26 O O O) O ?_)))))))))))))))
 obtain⟨z,j8,h⟩:=Gh h
 refine JLh (Ed (l.take z)) (Y3 (f:=Gq.av) (xs:=l) O O O Zw (Rn j8)) O (JLl Zw O O O fun a6=>(JLm (I64 0) O (G6 (j7 (Gk ?_)))))
 obtain⟨h7,c6,c7,c1,h⟩:=J5 h
 refine Hk (fun o (b:(List Box)×(Gt Int Int))=>each h7 c6 (List.drop o (l.take z)) o b=some r) (fun o b=>[(2,I64 calls),(4,Ef s),(9,.ptr 1042 0),(10,OW 1043 9 Box.av b.1),(11,.mp 1049),(26,Ed (l.take z)),(27,I64 ((l.take z).length:Int)),(28,Em o)]) (fun o b=>[(1043,.spare 37 9 b.1.length b.1.length),(1049,MP 97 Ki I64 b.2),(1042,.box 48 Ke)]) (fun o=>(l.take z).length - o) 0 ([],(Gt.empty:Gt Int Int)) h ⟨(.sm O O),⟨⟨_,rfl,.same⟩,fmQ O,fbQ O (.sm O O),ø⟩,rfl⟩ ?_
 clear h
 intro o b a7 k3 h8
 refine Jr fun c8=>(JLh (BL (decide ((o:Int) < ((l.take z).length:Int)))) (Jf O O O) O (G6 (c8 (Js fun c9=>Gn O (fun hb=>?_) (fun hb=>?_)))))
 ·
  have a3:=Jn hb
  obtain⟨d,j9,d0,d1,h⟩:=Hs a7 a3
  replace h:=Rx c7 h
  refine Gp (c9 (Js fun d2=>Gk (Jr fun d3=>(JLm (Em o) O (JLh (Ek d) (H4 (f:=Gq.av) (xs:=(l.take z)) (y:=d) O O O Zw d0 O) O (JLh (.agg (Gq.cs d)) (Gg J2c O O O) O (JLh (.ptr 1044 0) (Hc 1044 6 H7c O O) O (JLm (Em o) O (Hb (u:=.junk) (H0 (u:=.agg (Gq.cs d)) (ds:=[U8 d.G4,U8 d.Kilos,U8 d.Load,U8 d.Stay,BL d.Small,BL d.High]) J91 O O O O O O O O) (G6 (d3 ?_)))))))))))
  refine fzQ [(2,I64 calls),(4,Ef s),(9,.ptr 1042 0),(10,OW 1043 9 Box.av b.1),(11,.mp 1049),(12,Em o),(13,Ek d),(26,Ed (l.take z)),(27,I64 ((l.take z).length:Int)),(28,Em o)] [(1043,.spare 37 9 b.1.length b.1.length),(1049,MP 97 Ki I64 b.2),(1042,.box 48 Ke)] 1044 rfl rfl rfl ⟨⟨_,rfl,.same⟩,fmQ O,⟨_,rfl,.boxEq rfl rfl⟩,ø⟩ rfl (Js fun d4=>?_)
  refine Ye (l':=[(2,I64 calls),(4,Ef s),(9,.ptr 1042 0),(10,OW 1043 9 Box.av b.1),(11,.mp 1049),(12,Em o),(13,Ek d),(26,Ed (l.take z)),(27,I64 ((l.take z).length:Int)),(28,Em o)]) (L':=[(1043,.spare 37 9 b.1.length b.1.length),(1049,MP 97 Ki I64 b.2),(1042,.box 48 Ke)]) ⟨(.sm O O),⟨⟨_,rfl,.same⟩,fmQ O,fbQ O (.sm O O),ø⟩,rfl⟩ ?_
  obtain⟨e,a8,h⟩:=J6 h
  obtain⟨h9,a9,h⟩:=J6 h
  obtain⟨i0,b0,h⟩:=J6 h
  obtain⟨k,b1,h⟩:=J6 h
  obtain⟨i1,b2,h⟩:=J6 h
  obtain⟨i2,b3,h⟩:=J6 h
  obtain⟨i,a4,h⟩:=Gh h
  refine R4 [17,18] (.replicate 19 0) [1,1,1,1,1,1,1,1,1,1,1,1,1,1,1,1,1,0,0] [[(1043,.spare 37 9 b.1.length b.1.length),(1049,MP 97 Ki I64 b.2),(1042,.box 48 Ke)],((1045,.box 37 [.junk,.junk,.junk,.junk,.junk,.junk,.junk,.junk,.junk])::[(1043,.spare 37 9 b.1.length b.1.length),(1049,MP 97 Ki I64 b.2),(1042,.box 48 Ke)]),((1045,.box 37 [I64 e,ST Kr,U8 40,BL d.High,I64 k,I64 i,I64 0,U8 0,BL false])::((1045,.box 37 [.junk,.junk,.junk,.junk,.junk,.junk,.junk,.junk,.junk])::[(1043,.spare 37 9 b.1.length b.1.length),(1049,MP 97 Ki I64 b.2),(1042,.box 48 Ke)]))] Q3 (by kernel_rfl) rfl rfl ?_
  refine Gr (u:=Em o) O O ⟨Gm (G5 O O) O,Gm (G5 O O) O,ø⟩ (Gr (u:=I64 ((o+1:Nat):Int)) O O ⟨Gm (Hz (He a3 a6) O O O) O,Gm (Hz (He a3 a6) O O O) O,ø⟩ (Gr (u:=I64 e) O O ⟨Gm (Ha9 a8 O O O) O,Gm (Ha9 a8 O O O) O,ø⟩ (Gr (u:=.dptr [BL d.High]) O O ⟨Gm (Gc H39 O O O) O,Gm (Gc H39 O O O) O,ø⟩ (Gr (u:=BL d.High) O O ⟨Gm (Gf Y5 O O O) O,Gm (Gf Y5 O O O) O,ø⟩ (Gr (u:=.dptr ((Gq.cs d).drop 1)) O O ⟨Gm (Gc Hc8 O O O) O,Gm (Gc Hc8 O O O) O,ø⟩ (Gr (u:=U8 d.Kilos) O O ⟨Gm (Gf Jc O O O) O,Gm (Gf Jc O O O) O,ø⟩ (Gr (u:=I64 h9) O O ⟨Gm (Gca G2c G2b a9 O O) O,Gm (Gca G2c G2b a9 O O) O,ø⟩ (Gr (u:=I64 i0) O O ⟨Gm (Ha9 b0 O O O) O,Gm (Ha9 b0 O O O) O,ø⟩ (Gr (u:=I64 k) O O ⟨Gm (Hz b1 O O O) O,Gm (Hz b1 O O O) O,ø⟩ (Gr (u:=.dptr ((Gq.cs d).drop 2)) O O ⟨Gm (Gc Hc7 O O O) O,Gm (Gc Hc7 O O O) O,ø⟩ (Gr (u:=U8 d.Load) O O ⟨Gm (Gf Jc O O O) O,Gm (Gf Jc O O O) O,ø⟩ (Gr (u:=I64 i1) O O ⟨Gm (Gca G2c G2b b2 O O) O,Gm (Gca G2c G2b b2 O O) O,ø⟩ (Gr (u:=I64 calls) O O ⟨Gm (G5 O O) O,Gm (G5 O O) O,ø⟩ ?_)))))))))))))
  refine Gr (u:=I64 i2) O O ⟨Gm (H35 b3 O O O) O,Gm (H35 b3 O O O) O,ø⟩ (Gr (u:=I64 i) O O ⟨Gm (H52 (Qb a4).1 (Qb a4).2 O O O) O,Gm (H52 (Qb a4).1 (Qb a4).2 O O O) O,ø⟩ (Gr (u:=.agg [I64 e,ST Kr,U8 40,BL d.High,I64 k,I64 i,I64 0,U8 0,BL false]) O O ⟨Gm (Ja (cs:=[I64 e,ST Kr,U8 40,BL d.High,I64 k,I64 i,I64 0,U8 0,BL false]) [(0,1),(1,1),(2,1),(3,1),(4,1),(5,1),(6,1),(7,1),(8,1)] [I64 0,ST Kr,U8 0,BL false,I64 0,I64 0,I64 0,U8 0,BL false] [E0,.string ByteArray.empty,.int .u8 0,.bool false,E0,E0,E0,.int .u8 0,.bool false] Ym Zh (zzQ O) O O) O,Gm (Ja (cs:=[I64 e,ST Kr,U8 40,BL d.High,I64 k,I64 i,I64 0,U8 0,BL false]) [(0,1),(1,1),(2,1),(3,1),(4,1),(5,1),(6,1),(7,1),(8,1)] [I64 0,ST Kr,U8 0,BL false,I64 0,I64 0,I64 0,U8 0,BL false] [E0,.string ByteArray.empty,.int .u8 0,.bool false,E0,E0,E0,.int .u8 0,.bool false] Ym Zh (zzQ O) O O) O,ø⟩ (D_w (u:=.ptr 1045 0) O O O O (Gm (Hc 1045 9 Qm O O) O) (Ha7 (u:=.junk) O O O O (Gm (H0 (u:=.agg [I64 e,ST Kr,U8 40,BL d.High,I64 k,I64 i,I64 0,U8 0,BL false]) (ds:=[I64 e,ST Kr,U8 40,BL d.High,I64 k,I64 i,I64 0,U8 0,BL false]) Y1 O O O O O O O O) O) (Zg ?_)))))
  refine d4 (Js fun d5=>Ye (l':=[(2,I64 calls),(4,Ef s),(9,.ptr 1042 0),(10,OW 1043 9 Box.av b.1),(11,.mp 1049),(13,Ek d),(14,.ptr 1045 0),(26,Ed (l.take z)),(27,I64 ((l.take z).length:Int)),(28,Em o)]) (L':=[(1043,.spare 37 9 b.1.length b.1.length),(1049,MP 97 Ki I64 b.2),(1042,.box 48 Ke),(1045,.box 37 [I64 e,ST Kr,U8 40,BL d.High,I64 k,I64 i,I64 0,U8 0,BL false])]) ⟨(.sm O O),⟨⟨_,rfl,.same⟩,fmQ O,fbQ O (.sm O O),fbQ O (.sm O O),ø⟩,rfl⟩ ?_)
  obtain⟨i3,d6,h⟩:=J6 h
  obtain⟨i4,d7,h⟩:=J6 h
  obtain⟨i5,d8,h⟩:=J6 h
  obtain⟨i6,d9,h⟩:=J6 h
  obtain⟨i7,b4,h⟩:=Gh h
  obtain⟨q,e0,h⟩:=J6 h
  refine R4 [14] (.replicate 15 0) (.replicate 15 0) [[(1043,.spare 37 9 b.1.length b.1.length),(1049,MP 97 Ki I64 b.2),(1042,.box 48 Ke),(1045,.box 37 [I64 e,ST Kr,U8 40,BL d.High,I64 k,I64 i,I64 0,U8 0,BL false])],((1045,.box 37 [I64 e,ST Kr,U8 40,BL d.High,I64 k,I64 i,I64 q,U8 0,BL false])::[(1043,.spare 37 9 b.1.length b.1.length),(1049,MP 97 Ki I64 b.2),(1042,.box 48 Ke),(1045,.box 37 [I64 e,ST Kr,U8 40,BL d.High,I64 k,I64 i,I64 0,U8 0,BL false])])] Q3 (by kernel_rfl) rfl rfl ?_
  refine Gr (u:=.ptr 1045 5) O O ⟨Gm (J7 Rv O O) O,ø⟩ (Gr (u:=I64 i) O O ⟨Gm (Jm G9 O O O O) O,ø⟩ (Gr (u:=I64 i3) O O ⟨Gm (Hz d6 O O O) O,ø⟩ (Gr (u:=.dptr ((Gq.cs d).drop 3)) O O ⟨Gm (Gc Jfd O O O) O,ø⟩ (Gr (u:=U8 d.Stay) O O ⟨Gm (Gf Jc O O O) O,ø⟩ (Gr (u:=I64 i4) O O ⟨Gm (Gca G2c G2b d7 O O) O,ø⟩ (Gr (u:=I64 calls) O O ⟨Gm (G5 O O) O,ø⟩ (Gr (u:=I64 i5) O O ⟨Gm (H35 d8 O O O) O,ø⟩ (Gr (u:=.ptr 1045 5) O O ⟨Gm (J7 Rv O O) O,ø⟩ (Gr (u:=I64 i) O O ⟨Gm (Jm G9 O O O O) O,ø⟩ (Gr (u:=I64 i6) O O ⟨Gm (H35 d9 O O O) O,ø⟩ (Gr (u:=I64 i7) O O ⟨Gm (H52 (Qb b4).1 (Qb b4).2 O O O) O,ø⟩ (Gr (u:=I64 q) O O ⟨Gm (Hz e0 O O O) O,ø⟩ (Gr (u:=.ptr 1045 6) O O ⟨Gm (J7 Yj O O) O,ø⟩ ?_)))))))))))))
  refine Ha7 (u:=.junk) O O O O (Gm (H0 (u:=I64 q) (ds:=[I64 e,ST Kr,U8 40,BL d.High,I64 k,I64 i,I64 q,U8 0,BL false]) G00 O O O O O O O O) O) (Zg (d5 ?_))
  obtain⟨e1,c2,h⟩:=Rc h
  refine Qf (fun j:Int×Bool=>e1 j=some r) (fun j=>[(2,I64 calls),(4,Ef s),(9,.ptr 1042 0),(10,OW 1043 9 Box.av b.1),(11,.mp 1049),(13,Ek d),(14,.ptr 1045 0),(26,Ed (l.take z)),(27,I64 ((l.take z).length:Int)),(28,Em o)]) (fun j=>[(1043,.spare 37 9 b.1.length b.1.length),(1049,MP 97 Ki I64 b.2),(1042,.box 48 Ke),(1045,.box 37 [I64 e,ST Kr,U8 j.1,BL j.2,I64 k,I64 i,I64 q,U8 0,BL false])]) (fun Kj139 ej139=>?_) ?_
  ·
   refine Jr fun e2=>(JLh (.dptr [BL d.Small,BL d.High]) (Gc Hc6 O O O) O (JLh (BL d.Small) (Gf Y5 O O O) O (G6 (e2 (JCc O h (fun h hb=>?_) (fun h hb=>?_))))))
   ·
    refine G2 (JLh (.ptr 1045 2) (J7 Z6 O O) O (Hb (u:=.junk) (H0 (u:=U8 20) (ds:=[I64 e,ST Kr,U8 20,BL d.High,I64 k,I64 i,I64 q,U8 0,BL false]) R7c O O O O O O O O) (JLh (.ptr 1045 3) (J7 H3a O O) O (Hb (u:=.junk) (H0 (u:=BL false) (ds:=[I64 e,ST Kr,U8 20,BL false,I64 k,I64 i,I64 q,U8 0,BL false]) J2b O O O O O O O O) (G6 (ej139 _ _ (20,false) h ⟨(.sm O O),⟨⟨_,rfl,.same⟩,fmQ O,fbQ O (.sm O O),fbQ O (.sm O O),ø⟩,rfl⟩))))))
   ·
    refine Gp (ej139 _ _ (40,d.High) h ⟨(.sm O O),⟨⟨_,rfl,.same⟩,fmQ O,fbQ O (.sm O O),fbQ O (.sm O O),ø⟩,rfl⟩)
  ·intro j h
   replace h:=app1 c2 h
   refine Js fun e3=>Ye (l':=[(2,I64 calls),(4,Ef s),(9,.ptr 1042 0),(10,OW 1043 9 Box.av b.1),(11,.mp 1049),(13,Ek d),(14,.ptr 1045 0),(26,Ed (l.take z)),(27,I64 ((l.take z).length:Int)),(28,Em o)]) (L':=[(1043,.spare 37 9 b.1.length b.1.length),(1049,MP 97 Ki I64 b.2),(1042,.box 48 Ke),(1045,.box 37 [I64 e,ST Kr,U8 j.1,BL j.2,I64 k,I64 i,I64 q,U8 0,BL false])]) ⟨(.sm O O),⟨⟨_,rfl,.same⟩,fmQ O,fbQ O (.sm O O),fbQ O (.sm O O),ø⟩,rfl⟩ ?_
   obtain⟨i8,e4,h⟩:=J6 h
   obtain⟨a5,b5,h⟩:=Gh h
   refine R4 [10] [0,0,0,0,0,0,0,0,0,0,0] [0,0,0,0,0,0,0,0,0,0,0] [[(1043,.spare 37 9 b.1.length b.1.length),(1049,MP 97 Ki I64 b.2),(1042,.box 48 Ke),(1045,.box 37 [I64 e,ST Kr,U8 j.1,BL j.2,I64 k,I64 i,I64 q,U8 0,BL false])],((1049,MP 97 Ki I64 (Gt.put b.2 e a5))::[(1043,.spare 37 9 b.1.length b.1.length),(1049,MP 97 Ki I64 b.2),(1042,.box 48 Ke),(1045,.box 37 [I64 e,ST Kr,U8 j.1,BL j.2,I64 k,I64 i,I64 q,U8 0,BL false])])] Q3 (by kernel_rfl) rfl rfl ?_
   refine Gr (u:=.mp 1049) O O ⟨Gm (G5 O O) O,ø⟩ (Gr (u:=.ptr 1045 0) O O ⟨Gm (J7 R2 O O) O,ø⟩ (Gr (u:=I64 e) O O ⟨Gm (Jm G9 O O O O) O,ø⟩ (Gr (u:=Ek d) O O ⟨Gm (Gc Jfe O O O) O,ø⟩ (Gr (u:=U8 d.G4) O O ⟨Gm (Gf Jc O O O) O,ø⟩ (Gr (u:=I64 i8) O O ⟨Gm (Gca G2c G2b e4 O O) O,ø⟩ (Gr (u:=Ef s) O O ⟨Gm (Gc Hm O O O) O,ø⟩ (Gr (u:=E7 s.Columns) O O ⟨Gm (Gf J3 O O O) O,ø⟩ (Gr (u:=Em s.Columns.length) O O ⟨Gm (G32 (f:=G4.av) (xs:=s.Columns) Ho O O) O,ø⟩ (Gr (u:=I64 a5) O O ⟨Gm (H52 (Qb b5).1 (Qb b5).2 O O O) O,ø⟩ (Ha7 (u:=.junk) O O O O (Gm (G6b (m:=b.2) (a:=e) (v:=a5) O O O O O O R79 Q17) O) (Zg ?_)))))))))))
   refine e3 (fzQ [(2,I64 calls),(4,Ef s),(9,.ptr 1042 0),(10,OW 1043 9 Box.av b.1),(11,.mp 1049),(14,.dptr [I64 e,ST Kr,U8 j.1,BL j.2,I64 k,I64 i,I64 q,U8 0,BL false]),(26,Ed (l.take z)),(27,I64 ((l.take z).length:Int)),(28,Em o)] [(1043,.spare 37 9 b.1.length b.1.length),(1049,MP 97 Ki I64 (Gt.put b.2 e a5)),(1042,.box 48 Ke)] 1045 rfl rfl rfl ⟨⟨_,rfl,.same⟩,fmQ O,⟨_,rfl,.boxEq rfl rfl⟩,ø⟩ rfl (G2 ?_))
   refine JLm (OW 1043 9 Box.av b.1) O (JLh (.agg [I64 e,ST Kr,U8 j.1,BL j.2,I64 k,I64 i,I64 q,U8 0,BL false]) (Gg Ys O O O) O (JLh (E6 [(Box.mk e ByteArray.empty j.1 j.2 k i q 0 false)]) (H7 (xs:=[.agg [I64 e,ST Kr,U8 j.1,BL j.2,I64 k,I64 i,I64 q,U8 0,BL false]]) O ⟨O,O,ø⟩ Hw Qm O O O O) O ?_))
   obtain⟨e5,h⟩:=J9 h
   refine JLh (OW 1043 9 Box.av (b.1++[(Box.mk e ByteArray.empty j.1 j.2 k i q 0 false)])) (R0 (f:=Box.av) (xs:=b.1) (ys:=[(Box.mk e ByteArray.empty j.1 j.2 k i q 0 false)]) O O O O Hw Hd6 e5 (fun _=>O) (.inl O) O) O (JLm (OW 1043 9 Box.av (b.1++[(Box.mk e ByteArray.empty j.1 j.2 k i q 0 false)])) O (G6 (d2 (G2 (JLh (I64 ((o+1:Nat):Int)) (Hz (He a3 a6) O O O) O (JLm (I64 ((o+1:Nat):Int)) O (G6 (h8 _ _ (o+1) ((b.1++[(Box.mk e ByteArray.empty j.1 j.2 k i q 0 false)]),(Gt.put b.2 e a5)) (app1 d1 h) (by omega) ⟨(.sm O O),⟨⟨_,rfl,.same⟩,fmQ O,fbQ O (.sm O O),ø⟩,rfl⟩))))))))
 ·
  have h:=app1 c1 (Ht a7 (H9 hb))
  refine Hr (j6 (Js fun e6=>Jr fun e7=>(JLm (OW 1043 9 Box.av b.1) O (JLl Hw O O O fun k4=>?_))))
  obtain⟨a0,e8,h⟩:=J6 h
  refine JLh (I64 a0) (Hz e8 O O O) O (JLm (I64 0) O (G6 (e7 (Gk ?_))))
  obtain⟨e9,h⟩:=J9 h
  obtain⟨i9,f0,f1,c3,h⟩:=Gcc h
  refine Hk (fun t (g:(List Box)×(Gt Int Int))=>upto i9 f0 (a0.toNat - t) t g=some r) (fun t g=>[(2,I64 calls),(4,Ef s),(9,.ptr 1042 0),(10,E6 g.1),(11,.mp 1049),(85,I64 a0),(86,Em t)]) (fun t g=>[(1049,MP 97 Ki I64 g.2),(1042,.box 48 Ke)]) (fun t=>a0.toNat - t) 0 (b.1,b.2) h ⟨⟨.same O,.same O,.same O,.list O,.same O,.same O,.same O,ø⟩,⟨⟨_,O,.map⟩,⟨_,O,.boxL O (.sm O O)⟩,ø⟩,O⟩ ?_
  clear h
  intro t g b6 k5 j0
  refine Jr fun f2=>(JLh (BL (decide ((t:Int) < a0))) (Jf O O O) O (G6 (f2 (Js fun f3=>Gn O (fun hb=>?_) (fun hb=>?_)))))
  ·
   have b7:=G76 hb
   obtain⟨k0,f4,h⟩:=G70 b6 b7
   replace h:=J3f f1 h
   refine Gp (f3 (Js fun f5=>Gk (Jr fun f6=>(JLh (.agg (Gb.cs s)) (Gg Hn O O O) O (JLm (E6 g.1) O (JLm (.mp 1049) O (JLm (I64 calls) O ?_)))))))
   obtain⟨c,f7,h⟩:=Gh h
   refine JLh (.tup [.agg [LS 1 (E4) c.1.States,LS 1 (E5) c.1.Water],I64 c.2.1]) (H37 (args:=[.agg (Gb.cs s),E6 g.1,.mp 1049,I64 calls]) (L0:=[(1049,MP 97 Ki I64 g.2)]) (Lr:=[(1049,MP 97 Ki I64 c.2.2)]) O (G8a F s g.1 g.2 calls c f7) R0f ⟨.inl O,O,.inl O,O,.inl O,O,.inl O,O,ø⟩ ⟨O,ø⟩ O O O) O (JLm (.tup [.agg [LS 1 (E4) c.1.States,LS 1 (E5) c.1.Water],I64 c.2.1]) O (JLh (.agg [LS 1 (E4) c.1.States,LS 1 (E5) c.1.Water]) (Gv O O O) O (JLh (I64 c.2.1) (Gv O O O) O (JLh (.ptr 1046 0) (Hc 1046 2 Y4 O O) O (Hb (u:=.junk) (H0 (u:=.agg [LS 1 (E4) c.1.States,LS 1 (E5) c.1.Water]) (ds:=[LS 1 (E4) c.1.States,LS 1 (E5) c.1.Water]) Qv O O O O O O O O) (JLm (I64 c.2.1) O (G6 (f6 ?_))))))))
   refine fzQ [(2,I64 calls),(4,Ef s),(9,.ptr 1042 0),(10,E6 g.1),(11,.mp 1049),(15,.dptr [LS 1 (E4) c.1.States,LS 1 (E5) c.1.Water]),(16,I64 c.2.1),(85,I64 a0),(86,Em t)] [(1049,MP 97 Ki I64 c.2.2),(1042,.box 48 Ke)] 1046 rfl rfl rfl ⟨fmQ O,⟨_,rfl,.boxEq rfl rfl⟩,ø⟩ rfl (Js fun f8=>Jr fun f9=>(JLm (I64 c.2.1) O (JLh (BL (decide (c.2.1=0))) (Q6 O O O) O (G6 (f9 (JCc O h (fun h hb=>?_) (fun h hb=>?_)))))))
   ·
    refine Js fun g0=>Ye (l':=[(9,.ptr 1042 0),(10,E6 g.1),(15,.dptr [LS 1 (E4) c.1.States,LS 1 (E5) c.1.Water])]) (L':=[(1049,MP 97 Ki I64 c.2.2),(1042,.box 48 Ke)]) ⟨(.sm O O),⟨⟨_,O,.map⟩,⟨_,O,.boxL O (.sm O O)⟩,ø⟩,O⟩ ?_
    refine R4 [3] [0,0,0,0] [0,0,0,0] [[(1049,MP 97 Ki I64 c.2.2),(1042,.box 48 Ke)],((1042,.box 48 [LS 1 (E4) c.1.States,LS 1 (E5) c.1.Water])::[(1049,MP 97 Ki I64 c.2.2),(1042,.box 48 Ke)])] Q3 (by kernel_rfl) rfl rfl ?_
    refine Gr (u:=E6 g.1) O O ⟨Gm (G5 O O) O,ø⟩ (Gr (u:=.agg [LS 1 (E4) c.1.States,LS 1 (E5) c.1.Water]) O O ⟨Gm (Gg G4b O O O) O,ø⟩ (Gr (u:=E6 g.1) O O ⟨Gm (G7 O O) O,ø⟩ (Ha7 (u:=.junk) O O O O (Gm (H0 (u:=.agg [LS 1 (E4) c.1.States,LS 1 (E5) c.1.Water]) (ds:=[LS 1 (E4) c.1.States,LS 1 (E5) c.1.Water]) Qv O O O O O O O O) O) (Zg (g0 (H2 (⟨[E6 g.1,.agg [LS 1 (E4) c.1.States,LS 1 (E5) c.1.Water]],[],ø,O,⟨⟨_,O,.conv (.same O)⟩,⟨_,⟨_,_,_,_,O,O,O,.inl ⟨G4b,O⟩⟩,.conv (.same O)⟩,ø⟩,O,congrArg (fun r:(List Box)×G5b=>(.tup [E6 r.1,.agg [LS 1 (E4) r.2.States,LS 1 (E5) r.2.Water]]:AV)) (Ky h)⟩)))))))
   ·
    refine Gp (f8 (Jr fun g1=>(JLh (OW 1047 9 Box.av ([]:List Box)) (G45 1047 37 9 O O O) O (G6 (g1 (Js fun g2=>Jr fun g3=>(JLm (E6 g.1) O (JLl Hw O O O fun g4=>(JLm (I64 0) O (G6 (g3 (Gk ?_))))))))))))
    obtain⟨j1,g5,g6,c4,h⟩:=J5 h
    refine Hk (fun x (p:(List Box))=>each j1 g5 (List.drop x g.1) x p=some r) (fun x p=>[(2,I64 calls),(4,Ef s),(9,.ptr 1042 0),(11,.mp 1049),(16,I64 c.2.1),(17,OW 1047 9 Box.av p),(85,I64 a0),(86,Em t),(100,E6 g.1),(101,Em g.1.length),(102,Em x)]) (fun x p=>[(1049,MP 97 Ki I64 c.2.2),(1047,.spare 37 9 p.length p.length),(1042,.box 48 Ke)]) (fun x=>g.1.length - x) 0 [] h ⟨(.sm O O),⟨fmQ O,⟨_,rfl,.same⟩,fbQ O (.sm O O),ø⟩,rfl⟩ ?_
    clear h
    intro x p b8 k6 j2
    refine Jr fun g7=>(JLh (BL (decide ((x:Int) < (g.1.length:Int)))) (Jf O O O) O (G6 (g7 (Js fun g8=>Gn O (fun hb=>?_) (fun hb=>?_)))))
    ·
     have b9:=Jn hb
     obtain⟨w,k1,g9,h0,h⟩:=Hs b8 b9
     replace h:=Rx g6 h
     refine Gp (g8 ?_)
     obtain⟨h1,c5,h⟩:=Rc h
     refine Qf (fun a1:(List Box)=>h1 a1=some r) (fun a1=>[(2,I64 calls),(4,Ef s),(9,.ptr 1042 0),(11,.mp 1049),(16,I64 c.2.1),(17,OW 1047 9 Box.av a1),(85,I64 a0),(86,Em t),(100,E6 g.1),(101,Em g.1.length),(102,Em x)]) (fun a1=>[(1049,MP 97 Ki I64 c.2.2),(1047,.spare 37 9 a1.length a1.length),(1042,.box 48 Ke)]) (fun Kj177 ej177=>?_) ?_
     ·
      refine Gk (Jr fun h2=>(JLh (Eh w) (H4 (f:=Box.av) (xs:=g.1) (y:=w) O O O Hw g9 O) O (JLh (.agg (Box.cs w)) (Gg Ys O O O) O (JLh (.ptr 1048 0) (Hc 1048 9 Qm O O) O (Hb (u:=.junk) (H0 (u:=.agg (Box.cs w)) (ds:=(Box.cs w)) Y1 O O O O O O O O) (G6 (h2 ?_)))))))
      refine fzQ [(2,I64 calls),(4,Ef s),(9,.ptr 1042 0),(11,.mp 1049),(16,I64 c.2.1),(17,OW 1047 9 Box.av p),(19,Eh w),(85,I64 a0),(86,Em t),(100,E6 g.1),(101,Em g.1.length),(102,Em x)] [(1049,MP 97 Ki I64 c.2.2),(1047,.spare 37 9 p.length p.length),(1042,.box 48 Ke)] 1048 rfl rfl rfl ⟨fmQ O,⟨_,rfl,.same⟩,⟨_,rfl,.boxEq rfl rfl⟩,ø⟩ rfl ?_
      refine Jr fun h3=>(JLh (Eh w) (Gc R2 O O O) O (JLh (I64 w.ID) (Gf G9 O O O) O (JLm (I64 c.2.1) O (JLh (BL (decide (w.ID≠c.2.1))) (Gf1 O O O) O (G6 (h3 (JCc O h (fun h hb=>?_) (fun h hb=>?_))))))))
      ·
       refine G2 (JLm (OW 1047 9 Box.av p) O (JLh (.agg (Box.cs w)) (Gg Ys O O O) O (JLh (E6 [w]) (H7 (xs:=[.agg (Box.cs w)]) O ⟨O,O,ø⟩ Hw Qm O O O O) O ?_)))
       obtain⟨h4,h⟩:=J9 h
       refine JLh (OW 1047 9 Box.av (p++[w])) (R0 (f:=Box.av) (xs:=p) (ys:=[w]) O O O O Hw Hd6 h4 (fun _=>O) (.inl O) O) O (JLm (OW 1047 9 Box.av (p++[w])) O (G6 (ej177 _ _ (p++[w]) h ⟨(.sm O O),⟨fmQ O,⟨_,rfl,.same⟩,fbQ O (.sm O O),ø⟩,rfl⟩)))
      ·
       refine Gp (ej177 _ _ p h ⟨(.sm O O),⟨fmQ O,⟨_,rfl,.same⟩,fbQ O (.sm O O),ø⟩,rfl⟩)
     ·intro a1 h
      replace h:=app1 c5 h
      refine G2 (JLh (I64 ((x+1:Nat):Int)) (Hz (He b9 g4) O O O) O (JLm (I64 ((x+1:Nat):Int)) O (G6 (j2 _ _ (x+1) a1 (app1 h0 h) (by omega) ⟨(.sm O O),⟨fmQ O,⟨_,rfl,.same⟩,fbQ O (.sm O O),ø⟩,rfl⟩))))
    ·
     have h:=app1 c4 (Ht b8 (H9 hb))
     refine Hr (g2 (G2 (JLm (OW 1047 9 Box.av p) O (JLm (OW 1047 9 Box.av p) O (G6 (f5 (G2 (JLh (I64 ((t+1:Nat):Int)) (Hz (He b7 (G0c e9)) O O O) O (JLm (I64 ((t+1:Nat):Int)) O (G6 (j0 _ _ (t+1) (p,c.2.2) (app1 f4 h) (by omega) ⟨⟨.same rfl,.same rfl,.same rfl,.list rfl,.same rfl,.same rfl,.same rfl,ø⟩,⟨fmQ O,fbQ O (.sm O O),ø⟩,rfl⟩)))))))))))
  ·
   have h:=app1 c3 (G71 b6 (Z8 hb))
   refine Hr (e6 (Js fun h5=>Ye (l':=[(2,I64 calls),(9,.ptr 1042 0)]) (L':=[(1049,MP 97 Ki I64 g.2),(1042,.box 48 Ke)]) ⟨(.sm O O),⟨⟨_,O,.map⟩,⟨_,O,.boxL O (.sm O O)⟩,ø⟩,O⟩ ?_))
   obtain⟨a2,c0,h⟩:=Gh h
   obtain⟨h6,h⟩:=J9 h
   refine R4 [4] [0,0,0,0,0] [0,0,0,0,0] [[(1049,MP 97 Ki I64 g.2),(1042,.box 48 Ke)],((1042,.box 48 [LS 1 (E4) (List.replicate a2 ([]:List G1)),LS 1 (E5) ([]:List (List Int))])::[(1049,MP 97 Ki I64 g.2),(1042,.box 48 Ke)])] Q3 (by kernel_rfl) rfl rfl ?_
   refine Gr (u:=I64 calls) O O ⟨Gm (G5 O O) O,ø⟩ (Gr (u:=LS 1 (E4) (List.replicate a2 ([]:List G1))) O O ⟨Gm (Qdb (f:=(E4)) (n:=a2) [] [.slice none 0 0] O O O J8 H5b Qe8 (Hb0 c0) (Hb0 c0) h6 ⟨.inr ⟨_,O,O⟩,ø⟩ O) O,ø⟩ (Gr (u:=.agg [LS 1 (E4) (List.replicate a2 ([]:List G1)),LS 1 (E5) ([]:List (List Int))]) O O ⟨Gm (Ja (cs:=[LS 1 (E4) (List.replicate a2 ([]:List G1)),LS 1 (E5) ([]:List (List Int))]) [(0,1),(1,1)] Ke [.slice none 0 0,.slice none 0 0] Gf5 G38 ⟨.inr ⟨_,O,O⟩,.inr ⟨_,O,O⟩,ø⟩ O O) O,ø⟩ (Gr (u:=E6 ([]:List Box)) O O ⟨Gm (Qj 9 O O) O,ø⟩ (Ha7 (u:=.junk) O O O O (Gm (H0 (u:=.agg [LS 1 (E4) (List.replicate a2 ([]:List G1)),LS 1 (E5) ([]:List (List Int))]) (ds:=[LS 1 (E4) (List.replicate a2 ([]:List G1)),LS 1 (E5) ([]:List (List Int))]) Qv O O O O O O O O) O) (Zg ?_)))))
   refine h5 (H2 (⟨[E6 ([]:List Box),.agg [LS 1 (E4) (List.replicate a2 ([]:List G1)),LS 1 (E5) ([]:List (List Int))]],[],ø,O,⟨⟨_,O,.conv (.same O)⟩,⟨_,⟨_,_,_,_,O,O,O,.inl ⟨G4b,O⟩⟩,.conv (.same O)⟩,ø⟩,O,congrArg (fun r:(List Box)×G5b=>(.tup [E6 r.1,.agg [LS 1 (E4) r.2.States,LS 1 (E5) r.2.Water]]:AV)) (Ky h)⟩))

end
end Go.Proofs.YtibhpogonkdiaaaGreat
