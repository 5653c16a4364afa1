/- Walks of functions. -/
import Derived.Test.YtibhpogonkdiaaaGreatXL
set_option linter.unnecessarySimpa false
set_option maxRecDepth 100000
set_option maxHeartbeats 1000000
set_option linter.unusedVariables false
set_option linter.unusedSimpArgs false
namespace Go.Proofs.YtibhpogonkdiaaaGreat
open Go.RowKit
noncomputable section
structure J7 where
 G6:Int
 Kilos:Int
 Load:Int
 Stay:Int
 Small:Bool
 High:Bool
 deriving DecidableEq,Inhabited
def J7.cs (x:J7):List AV:=[U8 x.G6,U8 x.Kilos,U8 x.Load,U8 x.Stay,BL x.Small,BL x.High]
def J7.av (x:J7):AV:=.agg x.cs
structure H4 where
 Bay:Int
 Row:Int
 Tiers:Int
 Deck:Bool
 deriving DecidableEq,Inhabited
def H4.cs (x:H4):List AV:=[U8 x.Bay,U8 x.Row,U8 x.Tiers,BL x.Deck]
def H4.av (x:H4):AV:=.agg x.cs
abbrev Ee:=LS 4 H4.av
namespace XVF
open XAF
open XCF
open XFF
open XSF
open XLF
theorem Qa1:G7d Em 133 4=true:=by kernel_rfl
theorem J58:H8 Em 13=true:=by kernel_rfl
theorem Q9d:H8 Em 19=true:=by kernel_rfl
theorem Q95:H8 Em 36=true:=by kernel_rfl
theorem Q8e:H8 Em 55=true:=by kernel_rfl
theorem Q81:H8 Em 72=true:=by kernel_rfl
theorem Q7d:H8 Em 95=true:=by kernel_rfl
theorem Q7c:H8 Em 96=true:=by kernel_rfl
theorem J02:R8 Em 137 2 32=true:=by kernel_rfl
theorem H8e:R8 Em 37 9 64=true:=by kernel_rfl
theorem J45:R8 Em 41 12 112=true:=by kernel_rfl
theorem J43:Ji Em 133 0 0=true:=by kernel_rfl
theorem J42:Ji Em 133 1 1=true:=by kernel_rfl
theorem J41:Ji Em 133 2 2=true:=by kernel_rfl
theorem J40:Ji Em 133 3 3=true:=by kernel_rfl
theorem G2b:He6 Em 3 .i64=true:=by kernel_rfl
theorem G2a:He6 Em 5 .u8=true:=by kernel_rfl
theorem H7b:placesOf Em 137=some [(0,1),(1,1)]:=by kernel_rfl
theorem H1e:placesOf Em 41=some [(0,1),(1,1),(2,1),(3,1),(4,1),(5,1),(6,1),(7,1),(8,1),(9,1),(10,1),(11,1)]:=by kernel_rfl
theorem Q1d:Qs Em 133 4=true:=by kernel_rfl
theorem H8d:Qs Em 24 1=true:=by kernel_rfl
theorem J3b:Qs Em 25 1=true:=by kernel_rfl
theorem Gc7:Qs Em 34 13=true:=by kernel_rfl
theorem Q77:Qs Em 60 1=true:=by kernel_rfl
theorem G59:sliceB Em 22 133 4=true:=by kernel_rfl
theorem Hff:(Em.info? 137).bind (fun i=>i.zero.map Value.cells)=some (List.toArray [E0,.slice none 0 0]):=by kernel_rfl
theorem Gc6:(Em.info? 34).bind (fun i=>i.zero.map Value.cells)=some (List.toArray [.slice none 0 0,.slice none 0 0,E0,E0,E0,E0,.slice none 0 0,.slice none 0 0,.slice none 0 0,E0,E0,E0,E0]):=by kernel_rfl
theorem H8c:(Em.info? 41).bind (fun i=>i.zero.map Value.cells)=some (List.toArray [E0,E0,.bool false,E0,E0,E0,E0,E0,.slice none 0 0,E0,E0,E0]):=by kernel_rfl
theorem Q6e:(Em.info? 60).bind (fun i=>i.zero.map Value.cells)=some (List.toArray [.slice none 0 0]):=by kernel_rfl
theorem Je7:Q4 Em 133 4=true:=by kernel_rfl
theorem Hfd:Q4 Em 34 13=true:=by kernel_rfl
theorem Ge4:Q4 Em 48 2=true:=by kernel_rfl
end XVF
open XAF
open XCF
open XFF
open XSF
open XLF
open XVF

def Gbb (s:Gf) (size:Int):Option Unit:=
 some ()
theorem J82 (s:Gf) (size:Int) (r:Unit) (h:Gbb s size=some r):Pure Em 36 [.agg (Gf.cs s),U8 size] (·=.fn 72 [.dptr (Gf.cs s),.dptr [U8 size]]):=by
 unfold Gbb at h
 refine H5 [.tmp 4] Tryz.func36 O O (Jr fun a=>(JLh (.ptr 1094 0) (Jt (cs:=(Gf.cs s)) 1094 O O O O O) O (JLh (.ptr 1095 0) (Jt (cs:=[U8 size]) 1095 O O O O O) O (JLm (.sc .nilFunc) O (G4 (a (Gh [(2,Ef s),(3,.ptr 1095 0)] [(1095,.box 5 [U8 size])] 1094 rfl rfl rfl ⟨⟨_,rfl,.boxEq rfl rfl⟩,ø⟩ rfl (by exact⟨.ptr,.conv (.same rfl),ø⟩) (Gh [(2,Ef s),(3,.dptr [U8 size])] [] 1095 rfl rfl rfl ø rfl (by exact⟨.conv (.same rfl),.ptr,ø⟩) ?_))))))))
 refine Jr fun b=>(JLh (.fn 72 [.dptr (Gf.cs s),.dptr [U8 size]]) (Y4 (cs:=[.dptr (Gf.cs s),.dptr [U8 size]]) O O) O (JLm (.fn 72 [.dptr (Gf.cs s),.dptr [U8 size]]) O (G4 (b (Gw (⟨[.fn 72 [.dptr (Gf.cs s),.dptr [U8 size]]],[],ø,O,⟨⟨_,O,.conv (.same O)⟩,ø⟩,O,congrArg (fun _:Unit=>(.fn 72 [.dptr (Gf.cs s),.dptr [U8 size]]:AV)) (Kz h)⟩))))))

def G89 (s:Gf) (size:Int):Option (List Slot):=
 bnd (Gbb s size) fun e=>
 bnd (G70 s size) fun c=>
 each (fun b f (a:(List Slot)) d=>
  need (decide ((a.length+[b].length)*24≤140737488355328∧a.length+[b].length≤maxLen)) <|
  d (a++[b]))
 (fun(a:(List Slot))=>
  some a) c 0 []
theorem Hd0 (s:Gf) (size:Int) (r:(List Slot)) (h:G89 s size=some r):Pure Em 13 [.agg (Gf.cs s),U8 size] (·=Ec r):=by
 unfold G89 at h
 refine H5 [.tmp 4] Tryz.func13 O O (Jr fun i=>(JLh (.ptr 1033 0) (Jt (cs:=(Gf.cs s)) 1033 O O O O O) O (JLh (Ec ([]:List Slot)) (Q6 3 O O) O (G4 (i (Gh [(1,U8 size),(2,Ef s)] [] 1033 rfl rfl rfl ø rfl (by exact⟨.conv (.same rfl),.ptr,ø⟩) (Jr fun j=>(JLh (.ptr 1034 0) (Ru 1034 [.sc (.slice none 0 0)] [.slice none 0 0] Q6e ⟨.inl O,ø⟩ O O) O (G8d 1034 0 1036 63 3 O O O (cs':=[OW 1036 3 Slot.av ([]:List Slot)]) O (G4 (j (Js fun k=>?_))))))))))))
 refine Jr fun l=>(JLh (.agg (Gf.cs s)) (Gk J6 O O O) O (JLm (U8 size) O ?_))
 obtain⟨x,m,h⟩:=Gg h
 refine JLh (.fn 72 [.dptr (Gf.cs s),.dptr [U8 size]]) (H2 O (J82 s size x m) Q95 ⟨O,O,O,O,ø⟩) O (G4 (l (Gi ?_)))
 obtain⟨c,hy_8,h⟩:=Gg h
 obtain⟨z,n,o,e,h⟩:=Hu h
 refine Q09 (ps:=[10]) [(5,.ptr 1034 0),(9,.fn 72 [.dptr (Gf.cs s),.dptr [U8 size]])] (c.map (fun y:Slot=>[.agg [I64 y.G6,I64 y.Tier,U8 y.Half]])) (fun d (b:(List Slot))=>each z n (List.drop d c) d b=some r) (fun b=>[(1036,.spare 63 3 b.length b.length),(1034,.box 60 [OW 1036 3 Slot.av b])]) [] rfl rfl rfl Q81 (Hf2.down s size c hy_8) h ⟨(.sm O O),⟨⟨_,rfl,.same⟩,fbQ O ⟨.same rfl,trivial⟩,trivial⟩,rfl⟩ rfl (fun us_ hus_=>by obtain⟨_,_,rfl⟩:=Mf.1 hus_; rfl) (fun p_ hp_=>Nat.blt_eq.mp (by revert p_; decide)) (fun _=>(.sm O O)) (fun _=>rfl) ?_ ?_
 ·
  intro d us_ b hu_ p lr_ K8 e8
  obtain⟨q,rfl⟩:=Qda hu_
  obtain⟨a,a1,t,v,h⟩:=Hk p q
  replace h:=Rh o h
  obtain⟨_,rfl⟩:=Kx t
  generalize c[d]=a at h ⊢
  change JC _ _ _ _ [(10,.agg [I64 a.G6,I64 a.Tier,U8 a.Half]),(5,.ptr 1034 0),(9,.fn 72 [.dptr (Gf.cs s),.dptr [U8 size]])] [(1036,.spare 63 3 b.length b.length),(1034,.box 60 [OW 1036 3 Slot.av b])]
  refine G2 (JLh (.ptr 1035 0) (Hg 1035 3 Zc O O) O (Hd (u:=.junk) (Gy (u:=.agg [I64 a.G6,I64 a.Tier,U8 a.Half]) (ds:=[I64 a.G6,I64 a.Tier,U8 a.Half]) G11 O O O O O O O O) (G4 (Qc2 [(5,.ptr 1034 0),(6,.dptr [I64 a.G6,I64 a.Tier,U8 a.Half])] [(1036,.spare 63 3 b.length b.length),(1034,.box 60 [OW 1036 3 Slot.av b])] 1035 rfl rfl rfl ⟨⟨_,rfl,.same⟩,⟨_,rfl,.boxEq rfl rfl⟩,ø⟩ rfl (by exact⟨.conv (.same rfl),.ptr,ø⟩) (R50 (Gi (G2 (JLh (OW 1036 3 Slot.av b) (Jg H1d O O O O) O (JLh (.agg [I64 a.G6,I64 a.Tier,U8 a.Half]) (Gk Jw O O O) O (JLh (Ec [a]) (He (xs:=[.agg [I64 a.G6,I64 a.Tier,U8 a.Half]]) O ⟨O,O,ø⟩ R2 Zc O O O O) O ?_))))))))))
  obtain⟨w,h⟩:=Hw h
  refine JLh (OW 1036 3 Slot.av (b++[a])) (Qt (f:=Slot.av) (xs:=b) (ys:=[a]) O O O O R2 J44 w (fun _=>O) (.inl O) O) O (Hd (u:=.junk) (Gy (u:=OW 1036 3 Slot.av (b++[a])) (ds:=[OW 1036 3 Slot.av (b++[a])]) Q77 O O O O O O O O) (G4 (e8 _ _ (b++[a]) (app1 v h) ⟨ø,⟨⟨_,O,.same⟩,⟨_,O,.boxL O ⟨.same O,ø⟩⟩,ø⟩,O⟩)))
 ·
  intro b h
  rw [Md] at h
  replace h:=app1 e (Hm h (Nat.lt_irrefl _))
  refine k (Jr fun g=>(JLh (OW 1036 3 Slot.av b) (Jg H1d O O O O) O (JLm (OW 1036 3 Slot.av b) O (G4 (g (Rt (l':=[(4,Ec b)]) (L':=[(1034,.box 60 [Ec b])]) ⟨⟨.list O,ø⟩,⟨⟨_,O,.boxL O ⟨.list O,ø⟩⟩,ø⟩,O⟩ (Gh [(4,Ec b)] [] 1034 rfl rfl rfl ø rfl (by exact⟨.conv (.same rfl),ø⟩) (Gw (fin1 (fun r:(List Slot)=>(Ec r:AV)) h)))))))))

def G99 (c:G6) (a:Int) (b:Int) (d:Bool):Option Bool:=
 some (((decide (c.Bay=a))&&(decide (c.Row=b)))&&(c.Deck==d))
theorem J29 (c:G6) (a:Int) (b:Int) (d:Bool) (r:Bool) (h:G99 c a b d=some r):Pure Em 96 [.agg (G6.cs c),.dptr [I64 a],.dptr [I64 b],.dptr [BL d]] (·=BL r):=by
 unfold G99 at h
 refine H5 [.tmp 5] Tryz.func96 O O (Jr fun e=>(JLh (.ptr 1155 0) (Jt (cs:=(G6.cs c)) 1155 O O O O O) O (JLm (BL false) O (G4 (e (fzQ [(1,.dptr [I64 a]),(2,.dptr [I64 b]),(3,.dptr [BL d]),(4,Eh c)] [] 1155 rfl rfl rfl ø rfl ?_))))))
 refine Jr fun f=>(JLh (Eh c) (Gb G1e O O O) O (JLh (I64 c.Bay) (Ge G9 O O O) O (JLh (I64 a) (Ge G9 O O O) O (JLh (BL (decide (c.Bay=a))) (Qn O O O) O (JLm (BL (decide (c.Bay=a))) O (JLo (.dptr ((G6.cs c).drop 1)) [] O .sct ø (fun hc=>Gb G1d O O O) O (JLo (I64 c.Row) [11] O .sct ⟨Ua,ø⟩ (fun hc=>Ge G9 O O O) O (JLo (I64 b) [] O .sct ø (fun hc=>Ge G9 O O O) O (JLo (BL (decide (c.Row=b))) [12,13] O .sct ⟨Ua,Ua,ø⟩ (fun hc=>Qn O O O) O (JLh (BL ((decide (c.Bay=a))&&(decide (c.Row=b)))) (Rg O O O O) O (JLm (BL ((decide (c.Bay=a))&&(decide (c.Row=b)))) O (JLo (.dptr ((G6.cs c).drop 2)) [] O .sct ø (fun hc=>Gb G1c O O O) O (JLo (BL c.Deck) [17] O .sct ⟨Ua,ø⟩ (fun hc=>Ge Ra O O O) O ?_)))))))))))))
 refine JLo (BL d) [] O .sct ø (fun hc=>Ge Ra O O O) O (JLo (BL (c.Deck==d)) [18,19] O .sct ⟨Ua,Ua,ø⟩ (fun hc=>R67 Jb4 O O O) O (JLh (BL (((decide (c.Bay=a))&&(decide (c.Row=b)))&&(c.Deck==d))) (Rg O O O O) O (JLm (BL (((decide (c.Bay=a))&&(decide (c.Row=b)))&&(c.Deck==d))) O (G4 (f (Gw (fin1 BL h)))))))

def Rc (l:List G6) (wanted:G6→Option Bool):Option (List Int):=
 each (fun e b (a:(List Int)) d=>
  jp (fun c=>
   bnd (wanted e) fun f=>
   bif f then
   (need (decide ((a.length+[(b:Int)].length)*8≤140737488355328∧a.length+[(b:Int)].length≤maxLen)) <|
    c (a++[(b:Int)]))
   else
   (c a)) fun(g:(List Int))=>
  d g)
 (fun(a:(List Int))=>
  some a) l 0 []
theorem Ge2 (l:List G6) (wanted:G6→Option Bool) (wanted_f:FuncId) (wanted_c:List AV) (wanted_B:H8 Em wanted_f=true) (wanted_d:Q3 (fun _=>false) wanted_c=true) (wanted_w:∀ a0 q,wanted a0=some q→Pure Em wanted_f ([.agg (G6.cs a0)]++wanted_c) (·=BL q)) (r:(List Int)) (h:Rc l wanted=some r):Pure Em 95 [E7 l,.fn wanted_f wanted_c] (·=E5 r):=by
 unfold Rc at h
 refine H5 [.tmp 4] Tryz.func95 O O (Jr fun a2=>(JLh (E5 ([]:List Int)) (Q6 1 O O) O (G4 (a2 (Jr fun a3=>(JLh (OW 1153 1 I64 ([]:List Int)) (G31 1153 3 1 O O O) O (G4 (a3 (Js fun a4=>Jr fun a5=>(JLm (E7 l) O (JLl Hr O O O fun a6=>(JLm (I64 0) O (G4 (a5 (Gi ?_)))))))))))))))
 obtain⟨a7,k,m,i,h⟩:=Hu h
 refine Hf (fun a (b:(List Int))=>each a7 k (List.drop a l) a b=some r) (fun a b=>[(1,.fn wanted_f wanted_c),(5,OW 1153 1 I64 b),(8,E7 l),(9,Ek l.length),(10,Ek a)]) (fun a b=>[(1153,.spare 3 1 b.length b.length)]) (fun a=>l.length - a) 0 [] h ⟨⟨.same (Jm _ _ wanted_d),.same O,.same O,.same O,.same O,ø⟩,⟨⟨_,O,.same⟩,ø⟩,O⟩ ?_
 clear h
 intro a b e b1 a8
 refine Jr fun n=>(JLh (BL (decide ((a:Int) < (l.length:Int)))) (J8 O O O) O (G4 (n (Js fun o=>Gj O (fun hb=>?_) (fun hb=>?_)))))
 ·
  have g:=Jh hb
  obtain⟨c,b0,p,s,h⟩:=Hk e g
  replace h:=Rh m h
  refine Gn (o ?_)
  obtain⟨t,j,h⟩:=Qr h
  refine Q0 (fun d:(List Int)=>t d=some r) (fun d=>[(1,.fn wanted_f wanted_c),(5,OW 1153 1 I64 d),(8,E7 l),(9,Ek l.length),(10,Ek a)]) (fun d=>[(1153,.spare 3 1 d.length d.length)]) (fun Kj24 ej24=>?_) ?_
  ·
   refine Gi (Jr fun v=>(JLm (Ek a) O (JLh (Eh c) (H0 (f:=G6.av) (xs:=l) (y:=c) O O O Hr p O) O (JLh (.agg (G6.cs c)) (Gk G37 O O O) O (JLh (.ptr 1154 0) (Hg 1154 12 Zd O O) O (JLm (Ek a) O (Hd (u:=.junk) (Gy (u:=.agg (G6.cs c)) (ds:=(G6.cs c)) G81 O O O O O O O O) (G4 (v ?_)))))))))
   refine Gh [(1,.fn wanted_f wanted_c),(5,OW 1153 1 I64 b),(6,Ek a),(7,Eh c),(8,E7 l),(9,Ek l.length),(10,Ek a)] [(1153,.spare 3 1 b.length b.length)] 1154 rfl rfl rfl ⟨⟨_,rfl,.same⟩,ø⟩ rfl (by exact⟨.conv (.same (Jm _ _ wanted_d)),.conv (.same rfl),.conv (.same rfl),.ptr,.conv (.same rfl),.conv (.same rfl),.conv (.same rfl),ø⟩) (Jr fun w=>(JLm (.fn wanted_f wanted_c) O (JLh (.agg (G6.cs c)) (Gk G37 O O O) O ?_)))
   obtain⟨a9,x,h⟩:=Gg h
   refine JLh (BL a9) (G0c (args:=[.agg (G6.cs c)]) (caps:=wanted_c) O O (wanted_w c _ x) wanted_B ⟨O,O,ø⟩ wanted_d) O (G4 (w (JCc O h (fun h hb=>?_) (fun h hb=>?_))))
   ·
    refine G2 (JLm (OW 1153 1 I64 b) O (JLm (Ek a) O (JLh (E5 [(a:Int)]) (He (xs:=[Ek a]) O ⟨O,O,ø⟩ Gv Rm O O O O) O ?_)))
    obtain⟨z,h⟩:=Hw h
    refine JLh (OW 1153 1 I64 (b++[(a:Int)])) (Qt (f:=I64) (xs:=b) (ys:=[(a:Int)]) O O O O Gv G36 z (fun _=>O) (.inl O) O) O (JLm (OW 1153 1 I64 (b++[(a:Int)])) O (G4 (ej24 _ _ (b++[(a:Int)]) h ⟨⟨.same (Jm _ _ wanted_d),.same O,.same O,.same O,.same O,ø⟩,⟨⟨_,O,.same⟩,ø⟩,O⟩)))
   ·
    refine Gn (ej24 _ _ b h ⟨⟨.same (Jm _ _ wanted_d),.same O,.same O,.same O,.same O,ø⟩,⟨⟨_,O,.same⟩,ø⟩,O⟩)
  ·intro d h
   replace h:=app1 j h
   refine G2 (JLh (I64 ((a+1:Nat):Int)) (Ht (H7 g a6) O O O) O (JLm (I64 ((a+1:Nat):Int)) O (G4 (a8 _ _ (a+1) d (app1 s h) (by omega) ⟨⟨.same (Jm _ _ wanted_d),.same rfl,.same rfl,.same rfl,.same rfl,ø⟩,⟨⟨_,rfl,.same⟩,ø⟩,rfl⟩))))
 ·
  have h:=app1 i (Hm e (H6 hb))
  refine Hj (a4 (Jr fun a1=>(JLm (OW 1153 1 I64 b) O (JLm (OW 1153 1 I64 b) O (G4 (a1 (Gw (fin1l (fun r:(List Int)=>(E5 r:AV)) h))))))))

def Ga6 (s:Gf) (bay:Int) (row:Int) (deck:Bool):Option (Int×Bool):=
 bnd (Rc s.Columns (fun z0=>G99 z0 bay row deck)) fun a=>
 bif decide ((a.length:Int)=0) then
 (some (0,false))
 else
 (Ju a 0 fun b=>
  some (b,true))
theorem Ja9 (s:Gf) (bay:Int) (row:Int) (deck:Bool) (r:Int×Bool) (h:Ga6 s bay row deck=some r):Pure Em 55 [.agg (Gf.cs s),I64 bay,I64 row,BL deck] (·=.tup [I64 r.1,BL r.2]):=by
 unfold Ga6 at h
 refine H5 [.tmp 8,.tmp 9] Tryz.func55 O O (Jr fun c=>(JLh (.ptr 1113 0) (Jt (cs:=(Gf.cs s)) 1113 O O O O O) O (JLh (.ptr 1114 0) (Jt (cs:=[I64 bay]) 1114 O O O O O) O (JLh (.ptr 1115 0) (Jt (cs:=[I64 row]) 1115 O O O O O) O (JLh (.ptr 1116 0) (Jt (cs:=[BL deck]) 1116 O O O O O) O (JLm (I64 0) O (JLm (BL false) O (G4 (c ?_)))))))))
 refine fzQ [(4,Ef s),(5,.ptr 1114 0),(6,.ptr 1115 0),(7,.ptr 1116 0)] [(1114,.box 3 [I64 bay]),(1115,.box 3 [I64 row]),(1116,.box 4 [BL deck])] 1113 rfl rfl rfl ⟨⟨_,rfl,.boxEq rfl rfl⟩,⟨_,rfl,.boxEq rfl rfl⟩,⟨_,rfl,.boxEq rfl rfl⟩,ø⟩ rfl (fzQ [(4,Ef s),(5,.dptr [I64 bay]),(6,.ptr 1115 0),(7,.ptr 1116 0)] [(1115,.box 3 [I64 row]),(1116,.box 4 [BL deck])] 1114 rfl rfl rfl ⟨⟨_,rfl,.boxEq rfl rfl⟩,⟨_,rfl,.boxEq rfl rfl⟩,ø⟩ rfl ?_)
 refine fzQ [(4,Ef s),(5,.dptr [I64 bay]),(6,.dptr [I64 row]),(7,.ptr 1116 0)] [(1116,.box 4 [BL deck])] 1115 rfl rfl rfl ⟨⟨_,rfl,.boxEq rfl rfl⟩,ø⟩ rfl (fzQ [(4,Ef s),(5,.dptr [I64 bay]),(6,.dptr [I64 row]),(7,.dptr [BL deck])] [] 1116 rfl rfl rfl ø rfl (Jr fun d=>(JLh (Ef s) (Gb Ho O O O) O (JLh (E7 s.Columns) (Ge J2 O O O) O (JLh (.fn 96 [.dptr [I64 bay],.dptr [I64 row],.dptr [BL deck]]) (Y4 (cs:=[.dptr [I64 bay],.dptr [I64 row],.dptr [BL deck]]) O O) O ?_)))))
 obtain⟨a,e,h⟩:=Gg h
 refine JLh (E5 a) (H2 O (Ge2 s.Columns (fun z0=>G99 z0 bay row deck) 96 [.dptr [I64 bay],.dptr [I64 row],.dptr [BL deck]] Q7c O (fun z0 q hq=>J29 z0 bay row deck q hq) a e) Q7d ⟨O,O,O,O,ø⟩) O (JLm (E5 a) O (G4 (d (Js fun g=>Jr fun i=>(JLm (E5 a) O (JLl Gv O O O fun n=>(JLh (BL (decide ((a.length:Int)=0))) (Qn O O O) O (G4 (i (JCc O h (fun h hb=>?_) (fun h hb=>?_)))))))))))
 ·
  refine Jr fun j=>(JLm (I64 0) O (JLm (BL false) O (G4 (j (Gw (⟨[I64 0,BL false],[],ø,O,⟨⟨_,O,.conv (.same O)⟩,⟨_,O,.conv (.same O)⟩,ø⟩,O,congrArg (fun r:Int×Bool=>(.tup [I64 r.1,BL r.2]:AV)) (Kz h)⟩))))))
 ·
  refine Gn (g (Jr fun k=>(JLm (E5 a) O ?_)))
  obtain⟨o,b,l,m,h⟩:=Qc h
  refine JLh (.dptr [I64 b]) (H0 (f:=I64) (xs:=a) (y:=b) O O O Gv m l) O (JLh (I64 b) (Ge G9 O O O) O (JLm (I64 b) O (JLm (BL true) O (G4 (k (Gw (⟨[I64 b,BL true],[],ø,O,⟨⟨_,O,.conv (.same O)⟩,⟨_,O,.conv (.same O)⟩,ø⟩,O,congrArg (fun r:Int×Bool=>(.tup [I64 r.1,BL r.2]:AV)) (Kz h)⟩)))))))

def Qv (l:List H4) (covers:Int):Option Gf:=
 bnd (H36 (min (l.length:Int) 12) l.length) fun m5=>
 each (fun c a9 (a:(List Gx)×Int×Int×Int×Int×(List Row)×(List Frame)×(List Ja)×Int×Int×Int×Int×(List G6)) r=>
  jp (fun m=>
   chk (c.Bay) fun t=>
   bnd (Geb t 5) fun e=>
   chk (c.Row) fun u=>
   bnd (Geb u 5) fun f=>
   chk (c.Tiers) fun v=>
   bnd (Geb v 4) fun w=>
   chk (2+w) fun h=>
   chk (13000*e) fun x=>
   chk (x - 26000) fun i=>
   chk (2500*f) fun y=>
   chk (y - 5000) fun j=>
   jp (fun n=>
    bif c.Deck then
    (n 20000)
    else
    (n 2000)) fun(k:Int)=>
   bnd (Ga6 (Gf.mk a.2.2.2.2.2.2.2.2.2.2.2.2 a.1 (Light.mk a.2.1 a.2.2.1 a.2.2.2.1 a.2.2.2.2.1) a.2.2.2.2.2.1 a.2.2.2.2.2.2.1 a.2.2.2.2.2.2.2.1 (Gm.mk a.2.2.2.2.2.2.2.2.1 a.2.2.2.2.2.2.2.2.2.1 a.2.2.2.2.2.2.2.2.2.2.1 a.2.2.2.2.2.2.2.2.2.2.2.1)) e f c.Deck) fun z=>
   bif (!z.2) then
   (need (decide ((a.2.2.2.2.2.2.2.2.2.2.2.2.length+[(G6.mk e f c.Deck h 0 500000000 500000000 0 [] i j k)].length)*112≤140737488355328∧a.2.2.2.2.2.2.2.2.2.2.2.2.length+[(G6.mk e f c.Deck h 0 500000000 500000000 0 [] i j k)].length≤maxLen)) <|
    m (a.2.2.2.2.2.2.2.2.2.2.2.2++[(G6.mk e f c.Deck h 0 500000000 500000000 0 [] i j k)]))
   else
   (m a.2.2.2.2.2.2.2.2.2.2.2.2)) fun(a0:(List G6))=>
  r (a.1,a.2.1,a.2.2.1,a.2.2.2.1,a.2.2.2.2.1,a.2.2.2.2.2.1,a.2.2.2.2.2.2.1,a.2.2.2.2.2.2.2.1,a.2.2.2.2.2.2.2.2.1,a.2.2.2.2.2.2.2.2.2.1,a.2.2.2.2.2.2.2.2.2.2.1,a.2.2.2.2.2.2.2.2.2.2.2.1,a0))
 (fun(a:(List Gx)×Int×Int×Int×Int×(List Row)×(List Frame)×(List Ja)×Int×Int×Int×Int×(List G6))=>
  jp (fun o=>
   bif decide ((a.2.2.2.2.2.2.2.2.2.2.2.2.length:Int)=0) then
   (o ([(G6.mk 0 0 false 3 0 500000000 500000000 0 [] 0 0 2000)]))
   else
   (o a.2.2.2.2.2.2.2.2.2.2.2.2)) fun(a1:(List G6))=>
  need (decide (5≤9223372036854775807)) <|
  upto (fun d (b:(List Gx)×Int×Int×Int×Int×(List Row)×(List Frame)×(List Ja)×Int×Int×Int×Int) s=>
   jp (fun p=>
    jp (fun q=>
     chk (2*(d:Int)) fun a2=>
     bnd (H36 a2 4294967295) fun a3=>
     bif decide ((Q53 .u32 (Jef .u32 covers a3) 1)=1) then
     (need (decide ((b.1.length+[(Gx.mk (d:Int) [0,1])].length)*32≤140737488355328∧b.1.length+[(Gx.mk (d:Int) [0,1])].length≤maxLen)) <|
      q (b.1++[(Gx.mk (d:Int) [0,1])]))
     else
     (q b.1)) fun(g:(List Gx))=>
    chk (2*(d:Int)) fun a4=>
    chk (a4+1) fun a5=>
    bnd (H36 a5 4294967295) fun a6=>
    bif decide ((Q53 .u32 (Jef .u32 covers a6) 1)=1) then
    (need (decide ((g.length+[(Gx.mk (d:Int) [2,3,4])].length)*32≤140737488355328∧g.length+[(Gx.mk (d:Int) [2,3,4])].length≤maxLen)) <|
     p (g++[(Gx.mk (d:Int) [2,3,4])]))
    else
    (p g)) fun(a7:(List Gx))=>
   s (a7,b.2.1,b.2.2.1,b.2.2.2.1,b.2.2.2.2.1,b.2.2.2.2.2.1,b.2.2.2.2.2.2.1,b.2.2.2.2.2.2.2.1,b.2.2.2.2.2.2.2.2.1,b.2.2.2.2.2.2.2.2.2.1,b.2.2.2.2.2.2.2.2.2.2.1,b.2.2.2.2.2.2.2.2.2.2.2))
  (fun(b:(List Gx)×Int×Int×Int×Int×(List Row)×(List Frame)×(List Ja)×Int×Int×Int×Int)=>
   some (Gf.mk a1 b.1 (Light.mk b.2.1 b.2.2.1 b.2.2.2.1 b.2.2.2.2.1) b.2.2.2.2.2.1 b.2.2.2.2.2.2.1 b.2.2.2.2.2.2.2.1 (Gm.mk b.2.2.2.2.2.2.2.2.1 b.2.2.2.2.2.2.2.2.2.1 b.2.2.2.2.2.2.2.2.2.2.1 b.2.2.2.2.2.2.2.2.2.2.2))) (5:Int).toNat 0 (a.1,a.2.1,a.2.2.1,a.2.2.2.1,a.2.2.2.2.1,a.2.2.2.2.2.1,a.2.2.2.2.2.2.1,a.2.2.2.2.2.2.2.1,a.2.2.2.2.2.2.2.2.1,a.2.2.2.2.2.2.2.2.2.1,a.2.2.2.2.2.2.2.2.2.2.1,a.2.2.2.2.2.2.2.2.2.2.2.1)) (l.take m5) 0 ([],0,0,0,0,[],[],[],0,0,0,0,[])
abbrev Kc (a:(List Gx)×Int×Int×Int×Int×(List Row)×(List Frame)×(List Ja)×Int×Int×Int×Int×(List G6)):List AV:=[.vec 1050 a.2.2.2.2.2.2.2.2.2.2.2.2.length 12 a.2.2.2.2.2.2.2.2.2.2.2.2.length,OW 1051 2 Gx.av a.1,I64 a.2.1,I64 a.2.2.1,I64 a.2.2.2.1,I64 a.2.2.2.2.1,E8 a.2.2.2.2.2.1,E9 a.2.2.2.2.2.2.1,Ea a.2.2.2.2.2.2.2.1,I64 a.2.2.2.2.2.2.2.2.1,I64 a.2.2.2.2.2.2.2.2.2.1,I64 a.2.2.2.2.2.2.2.2.2.2.1,I64 a.2.2.2.2.2.2.2.2.2.2.2.1]
abbrev Kd:List AV:=[E7 ([]:List G6),Eb ([]:List Gx),I64 0,I64 0,I64 0,I64 0,E8 ([]:List Row),E9 ([]:List Frame),Ea ([]:List Ja),I64 0,I64 0,I64 0,I64 0]
abbrev Ke (b:(List G6)) (a:(List Gx)×Int×Int×Int×Int×(List Row)×(List Frame)×(List Ja)×Int×Int×Int×Int):List AV:=[.vec 1050 b.length 12 b.length,OW 1051 2 Gx.av a.1,I64 a.2.1,I64 a.2.2.1,I64 a.2.2.2.1,I64 a.2.2.2.2.1,E8 a.2.2.2.2.2.1,E9 a.2.2.2.2.2.2.1,Ea a.2.2.2.2.2.2.2.1,I64 a.2.2.2.2.2.2.2.2.1,I64 a.2.2.2.2.2.2.2.2.2.1,I64 a.2.2.2.2.2.2.2.2.2.2.1,I64 a.2.2.2.2.2.2.2.2.2.2.2]
abbrev Kf (a:(List Gx)×Int×Int×Int×Int×(List Row)×(List Frame)×(List Ja)×Int×Int×Int×Int×(List G6)):List AV:=[E7 a.2.2.2.2.2.2.2.2.2.2.2.2,Eb a.1,I64 a.2.1,I64 a.2.2.1,I64 a.2.2.2.1,I64 a.2.2.2.2.1,E8 a.2.2.2.2.2.1,E9 a.2.2.2.2.2.2.1,Ea a.2.2.2.2.2.2.2.1,I64 a.2.2.2.2.2.2.2.2.1,I64 a.2.2.2.2.2.2.2.2.2.1,I64 a.2.2.2.2.2.2.2.2.2.2.1,I64 a.2.2.2.2.2.2.2.2.2.2.2.1]
theorem Gff (l:List H4) (covers:Int) (r:Gf) (h:Qv l covers=some r):Jq Em 19 [Ee l,.sc (.int .u32 covers)] [] (fun av L'=>∃ p:Nat,av=.agg [.vec 1050 p 12 r.Columns.length,Eb r.Covers,I64 r.Light.Kilos,I64 r.Light.X,I64 r.Light.Y,I64 r.Light.Z,E8 r.Rows,E9 r.Frames,Ea r.Tanks,I64 r.Gm.Tolerance,I64 r.Gm.Trim,I64 r.Gm.List_,I64 r.Gm.Stability]∧L'=[(1050,.vec 41 12 p (r.Columns.map G6.av))]):=by
 unfold Qv at h
 refine Z5 [] [.cell 4 34] Tryz.func19 O O (H52 O) (Jr fun h6=>(JLh (.ptr 1046 0) (Ru 1046 Kd [.slice none 0 0,.slice none 0 0,E0,E0,E0,E0,.slice none 0 0,.slice none 0 0,.slice none 0 0,E0,E0,E0,E0] Gc6 ⟨.inr ⟨_,O,O⟩,.inr ⟨_,O,O⟩,.inl O,.inl O,.inl O,.inl O,.inr ⟨_,O,O⟩,.inr ⟨_,O,O⟩,.inr ⟨_,O,O⟩,.inl O,.inl O,.inl O,.inl O,ø⟩ O O) O (G4 (h6 ?_))))
 refine Jr fun h7=>(JLh (.ptr 1047 0) (Ru 1047 [.sc (.slice none 0 0),.sc (.slice none 0 0),I64 0,I64 0,I64 0,I64 0,E8 ([]:List Row),E9 ([]:List Frame),Ea ([]:List Ja),I64 0,I64 0,I64 0,I64 0] [.slice none 0 0,.slice none 0 0,E0,E0,E0,E0,.slice none 0 0,.slice none 0 0,.slice none 0 0,E0,E0,E0,E0] Gc6 ⟨.inl O,.inl O,.inl O,.inl O,.inl O,.inl O,.inr ⟨_,O,O⟩,.inr ⟨_,O,O⟩,.inr ⟨_,O,O⟩,.inl O,.inl O,.inl O,.inl O,ø⟩ O O) O ?_)
 refine Ha9 1047 0 1050 41 12 O O O (cs':=[.vec 1050 (([]:List G6).length) 12 (([]:List G6).length),.sc (.slice none 0 0),I64 0,I64 0,I64 0,I64 0,E8 ([]:List Row),E9 ([]:List Frame),Ea ([]:List Ja),I64 0,I64 0,I64 0,I64 0]) O (G8d 1047 1 1051 137 2 O O O (cs':=[.vec 1050 (([]:List G6).length) 12 (([]:List G6).length),OW 1051 2 Gx.av ([]:List Gx),I64 0,I64 0,I64 0,I64 0,E8 ([]:List Row),E9 ([]:List Frame),Ea ([]:List Ja),I64 0,I64 0,I64 0,I64 0]) O (G4 (h7 (Js fun h8=>Jr fun h9=>(JLm (Ee l) O (JLm (Ee l) O (JLl G59 O O O fun i3=>(JLh (I64 (min (l.length:Int) 12)) (Je0 O O O) O ?_))))))))
 obtain⟨z,i0,h⟩:=Gg h
 refine JLh (Ee (l.take z)) (H35 (f:=H4.av) (xs:=l) O O O G59 (G85 i0)) O (JLl G59 O O O fun g2=>(JLm (I64 0) O (G4 (h9 (Gi ?_)))))
 obtain⟨g3,b6,b7,a9,h⟩:=Hu h
 refine Hf (fun q (a:(List Gx)×Int×Int×Int×Int×(List Row)×(List Frame)×(List Ja)×Int×Int×Int×Int×(List G6))=>each g3 b6 (List.drop q (l.take z)) q a=some r) (fun q a=>[(1,.sc (.int .u32 covers)),(4,.ptr 1046 0),(5,.ptr 1047 0),(16,Ee (l.take z)),(17,I64 ((l.take z).length:Int)),(18,Ek q)]) (fun q a=>[(1050,.vec 41 12 a.2.2.2.2.2.2.2.2.2.2.2.2.length (a.2.2.2.2.2.2.2.2.2.2.2.2.map G6.av)),(1051,.spare 137 2 a.1.length a.1.length),(1046,.box 34 Kd),(1047,.box 34 (Kc a))]) (fun q=>(l.take z).length - q) 0 ([],0,0,0,0,[],[],[],0,0,0,0,[]) h ⟨(.sm O O),⟨⟨_,rfl,.vec⟩,⟨_,rfl,.same⟩,fbQ O (.sm O O),fbQ O (.sm O O),ø⟩,rfl⟩ ?_
 clear h
 intro q a a2 i4 g4
 refine Jr fun b8=>(JLh (BL (decide ((q:Int) < ((l.take z).length:Int)))) (J8 O O O) O (G4 (b8 (Js fun b9=>Gj O (fun hb=>?_) (fun hb=>?_)))))
 ·
  have a3:=Jh hb
  obtain⟨d,i1,c0,c1,h⟩:=Hk a2 a3
  replace h:=Rh b7 h
  refine Gn (b9 ?_)
  obtain⟨c2,b0,h⟩:=Qr h
  refine Q0 (fun w:(List G6)=>c2 w=some r) (fun w=>[(1,.sc (.int .u32 covers)),(4,.ptr 1046 0),(5,.ptr 1047 0),(16,Ee (l.take z)),(17,I64 ((l.take z).length:Int)),(18,Ek q)]) (fun w=>[(1050,.vec 41 12 w.length (w.map G6.av)),(1051,.spare 137 2 a.1.length a.1.length),(1046,.box 34 Kd),(1047,.box 34 [.vec 1050 w.length 12 w.length,OW 1051 2 Gx.av a.1,I64 a.2.1,I64 a.2.2.1,I64 a.2.2.2.1,I64 a.2.2.2.2.1,E8 a.2.2.2.2.2.1,E9 a.2.2.2.2.2.2.1,Ea a.2.2.2.2.2.2.2.1,I64 a.2.2.2.2.2.2.2.2.1,I64 a.2.2.2.2.2.2.2.2.2.1,I64 a.2.2.2.2.2.2.2.2.2.2.1,I64 a.2.2.2.2.2.2.2.2.2.2.2.1])]) (fun Kj109 ej109=>?_) ?_
  ·
   refine Gi (Jr fun c3=>(JLh (.dptr (H4.cs d)) (H0 (f:=H4.av) (xs:=(l.take z)) (y:=d) O O O G59 c0 O) O (JLh (.agg (H4.cs d)) (Gk Qa1 O O O) O (JLh (.ptr 1048 0) (Hg 1048 4 Je7 O O) O (Hd (u:=.junk) (Gy (u:=.agg (H4.cs d)) (ds:=[U8 d.Bay,U8 d.Row,U8 d.Tiers,BL d.Deck]) Q1d O O O O O O O O) (G4 (c3 ?_)))))))
   refine fzQ [(1,.sc (.int .u32 covers)),(4,.ptr 1046 0),(5,.ptr 1047 0),(7,.dptr (H4.cs d)),(16,Ee (l.take z)),(17,I64 ((l.take z).length:Int)),(18,Ek q)] [(1050,.vec 41 12 a.2.2.2.2.2.2.2.2.2.2.2.2.length (a.2.2.2.2.2.2.2.2.2.2.2.2.map G6.av)),(1051,.spare 137 2 a.1.length a.1.length),(1046,.box 34 Kd),(1047,.box 34 (Kc a))] 1048 rfl rfl rfl ⟨⟨_,rfl,.vec⟩,⟨_,rfl,.same⟩,⟨_,rfl,.boxEq rfl rfl⟩,⟨_,rfl,.boxEq rfl rfl⟩,ø⟩ rfl ?_
   refine Jr fun c4=>(JLh (.dptr (H4.cs d)) (Gb J43 O O O) O (JLh (U8 d.Bay) (Ge Hz O O O) O ?_))
   obtain⟨g5,c5,h⟩:=Hx h
   refine JLh (I64 g5) (Gde G2b G2a c5 O O) O ?_
   obtain⟨i,a4,h⟩:=Gg h
   refine JLh (I64 i) (H65 (Qj a4).1 (Qj a4).2 O O O) O (JLh (.dptr ((H4.cs d).drop 1)) (Gb J42 O O O) O (JLh (U8 d.Row) (Ge Hz O O O) O ?_))
   obtain⟨g6,c6,h⟩:=Hx h
   refine JLh (I64 g6) (Gde G2b G2a c6 O O) O ?_
   obtain⟨j,a5,h⟩:=Gg h
   refine JLh (I64 j) (H65 (Qj a5).1 (Qj a5).2 O O O) O (JLh (.dptr [BL d.Deck]) (Gb J40 O O O) O (JLh (BL d.Deck) (Ge Ra O O O) O (JLh (.dptr [U8 d.Tiers,BL d.Deck]) (Gb J41 O O O) O (JLh (U8 d.Tiers) (Ge Hz O O O) O ?_))))
   obtain⟨g7,c7,h⟩:=Hx h
   refine JLh (I64 g7) (Gde G2b G2a c7 O O) O ?_
   obtain⟨g8,a6,h⟩:=Gg h
   refine JLh (I64 g8) (H65 (Qj a6).1 (Qj a6).2 O O O) O ?_
   obtain⟨k,c8,h⟩:=Hx h
   refine JLh (I64 k) (Ht c8 O O O) O (JLh (.agg [I64 i,I64 j,BL d.Deck,I64 k,I64 0,I64 500000000,I64 500000000,I64 0,E5 ([]:List Int),I64 0,I64 0,I64 0]) (J9 (cs:=[I64 i,I64 j,BL d.Deck,I64 k,I64 0,I64 500000000,I64 500000000,I64 0,E5 ([]:List Int),I64 0,I64 0,I64 0]) [(0,1),(1,1),(2,1),(3,1),(4,1),(5,1),(6,1),(7,1),(8,1),(9,1),(10,1),(11,1)] [I64 0,I64 0,BL false,I64 0,I64 0,I64 0,I64 0,I64 0,E5 ([]:List Int),I64 0,I64 0,I64 0] [E0,E0,.bool false,E0,E0,E0,E0,E0,.slice none 0 0,E0,E0,E0] H1e H8c ⟨.inl O,.inl O,.inl O,.inl O,.inl O,.inl O,.inl O,.inl O,.inr ⟨_,O,O⟩,.inl O,.inl O,.inl O,ø⟩ O O) O (JLh (.ptr 1049 0) (Hg 1049 12 Zd O O) O (Hd (u:=.junk) (Gy (u:=.agg [I64 i,I64 j,BL d.Deck,I64 k,I64 0,I64 500000000,I64 500000000,I64 0,E5 ([]:List Int),I64 0,I64 0,I64 0]) (ds:=[I64 i,I64 j,BL d.Deck,I64 k,I64 0,I64 500000000,I64 500000000,I64 0,E5 ([]:List Int),I64 0,I64 0,I64 0]) G81 O O O O O O O O) (G4 (c4 ?_)))))
   refine Jr fun c9=>(JLh (.ptr 1049 0) (J5 G1e O O) O (JLh (I64 i) (Jg G9 O O O O) O ?_))
   obtain⟨g9,d0,h⟩:=Hx h
   refine JLh (I64 g9) (H66 d0 O O O) O ?_
   obtain⟨m,d1,h⟩:=Hx h
   refine JLh (I64 m) (Gf6 d1 O O O) O (JLh (.ptr 1049 1) (J5 G1d O O) O (JLh (I64 j) (Jg G9 O O O O) O ?_))
   obtain⟨h0,d2,h⟩:=Hx h
   refine JLh (I64 h0) (H66 d2 O O O) O ?_
   obtain⟨n,d3,h⟩:=Hx h
   refine JLh (I64 n) (Gf6 d3 O O O) O (JLh (.ptr 1049 9) (J5 H80 O O) O (Hd (u:=.junk) (Gy (u:=I64 m) (ds:=[I64 i,I64 j,BL d.Deck,I64 k,I64 0,I64 500000000,I64 500000000,I64 0,E5 ([]:List Int),I64 m,I64 0,I64 0]) Yy O O O O O O O O) (JLh (.ptr 1049 10) (J5 H44 O O) O (Hd (u:=.junk) (Gy (u:=I64 n) (ds:=[I64 i,I64 j,BL d.Deck,I64 k,I64 0,I64 500000000,I64 500000000,I64 0,E5 ([]:List Int),I64 m,I64 n,I64 0]) Yy O O O O O O O O) (JLh (.ptr 1049 11) (J5 Gc8 O O) O (Hd (u:=.junk) (Gy (u:=I64 2000) (ds:=[I64 i,I64 j,BL d.Deck,I64 k,I64 0,I64 500000000,I64 500000000,I64 0,E5 ([]:List Int),I64 m,I64 n,I64 2000]) Yy O O O O O O O O) (G4 (c9 ?_))))))))
   obtain⟨d4,b1,h⟩:=Qr h
   refine Q0 (fun o:Int=>d4 o=some r) (fun o=>[(1,.sc (.int .u32 covers)),(4,.ptr 1046 0),(5,.ptr 1047 0),(8,.ptr 1049 0),(16,Ee (l.take z)),(17,I64 ((l.take z).length:Int)),(18,Ek q)]) (fun o=>[(1050,.vec 41 12 a.2.2.2.2.2.2.2.2.2.2.2.2.length (a.2.2.2.2.2.2.2.2.2.2.2.2.map G6.av)),(1051,.spare 137 2 a.1.length a.1.length),(1046,.box 34 Kd),(1047,.box 34 (Kc a)),(1049,.box 41 [I64 i,I64 j,BL d.Deck,I64 k,I64 0,I64 500000000,I64 500000000,I64 0,E5 ([]:List Int),I64 m,I64 n,I64 o])]) (fun Kj124 ej124=>?_) ?_
   ·
    refine Jr fun d5=>(JLh (.ptr 1049 2) (J5 G1c O O) O (JLh (BL d.Deck) (Jg Ra O O O O) O (G4 (d5 (JCc O h (fun h hb=>?_) (fun h hb=>?_))))))
    ·
     refine G2 (JLh (.ptr 1049 11) (J5 Gc8 O O) O (Hd (u:=.junk) (Gy (u:=I64 20000) (ds:=[I64 i,I64 j,BL d.Deck,I64 k,I64 0,I64 500000000,I64 500000000,I64 0,E5 ([]:List Int),I64 m,I64 n,I64 20000]) Yy O O O O O O O O) (G4 (ej124 _ _ 20000 h ⟨(.sm O O),⟨⟨_,rfl,.vec⟩,⟨_,rfl,.same⟩,fbQ O (.sm O O),fbQ O (.sm O O),fbQ O (.sm O O),ø⟩,rfl⟩))))
    ·
     refine Gn (ej124 _ _ 2000 h ⟨(.sm O O),⟨⟨_,rfl,.vec⟩,⟨_,rfl,.same⟩,fbQ O (.sm O O),fbQ O (.sm O O),fbQ O (.sm O O),ø⟩,rfl⟩)
   ·intro o h
    replace h:=app1 b1 h
    refine Jr fun d6=>(JLh (.agg (Kc a)) (G01 J6 O O O O) O (JLh (.ptr 1049 0) (J5 G1e O O) O (JLh (I64 i) (Jg G9 O O O O) O (JLh (.ptr 1049 1) (J5 G1d O O) O (JLh (I64 j) (Jg G9 O O O O) O (JLh (.ptr 1049 2) (J5 G1c O O) O (JLh (BL d.Deck) (Jg Ra O O O O) O ?_)))))))
    obtain⟨v,d7,h⟩:=Gg h
    refine JLh (.tup [I64 v.1,BL v.2]) (J95 (args:=[.agg (Kf a),I64 i,I64 j,BL d.Deck]) O (Ja9 (Gf.mk a.2.2.2.2.2.2.2.2.2.2.2.2 a.1 (Light.mk a.2.1 a.2.2.1 a.2.2.2.1 a.2.2.2.2.1) a.2.2.2.2.2.1 a.2.2.2.2.2.2.1 a.2.2.2.2.2.2.2.1 (Gm.mk a.2.2.2.2.2.2.2.2.1 a.2.2.2.2.2.2.2.2.2.1 a.2.2.2.2.2.2.2.2.2.2.1 a.2.2.2.2.2.2.2.2.2.2.2.1)) i j d.Deck v d7) Q8e ⟨.aggL (cs:=(Kc a)) (ds:=(Kf a)) ⟨.vec O,.data O O,.data O O,.data O O,.data O O,.data O O,.data O O,.data O O,.data O O,.data O O,.data O O,.data O O,.data O O,ø⟩,.data O O,.data O O,.data O O,ø⟩ O) O (JLm (.tup [I64 v.1,BL v.2]) O (JLh (I64 v.1) (Hp O O O) O (JLh (BL v.2) (Hp O O O) O (JLm (I64 v.1) O (JLm (BL v.2) O (G4 (d6 ?_)))))))
    refine fzQ [(1,.sc (.int .u32 covers)),(4,.ptr 1046 0),(5,.ptr 1047 0),(8,.dptr [I64 i,I64 j,BL d.Deck,I64 k,I64 0,I64 500000000,I64 500000000,I64 0,E5 ([]:List Int),I64 m,I64 n,I64 o]),(10,BL v.2),(16,Ee (l.take z)),(17,I64 ((l.take z).length:Int)),(18,Ek q)] [(1050,.vec 41 12 a.2.2.2.2.2.2.2.2.2.2.2.2.length (a.2.2.2.2.2.2.2.2.2.2.2.2.map G6.av)),(1051,.spare 137 2 a.1.length a.1.length),(1046,.box 34 Kd),(1047,.box 34 (Kc a))] 1049 rfl rfl rfl ⟨⟨_,rfl,.vec⟩,⟨_,rfl,.same⟩,⟨_,rfl,.boxEq rfl rfl⟩,⟨_,rfl,.boxEq rfl rfl⟩,ø⟩ rfl ?_
    refine Jr fun d8=>(JLm (BL v.2) O (JLh (BL (!v.2)) (G03 (b:=v.2) O O) O (G4 (d8 (JCc O h (fun h hb=>?_) (fun h hb=>?_))))))
    ·
     refine G2 (JLh (.ptr 1047 0) (J5 Ho O O) O (JLh (.vec 1050 a.2.2.2.2.2.2.2.2.2.2.2.2.length 12 a.2.2.2.2.2.2.2.2.2.2.2.2.length) (Jg J2 O O O O) O (JLh (.agg [I64 i,I64 j,BL d.Deck,I64 k,I64 0,I64 500000000,I64 500000000,I64 0,E5 ([]:List Int),I64 m,I64 n,I64 o]) (Gk G37 O O O) O (JLh (E7 ([(G6.mk i j d.Deck k 0 500000000 500000000 0 [] m n o)])) (He (xs:=[.agg [I64 i,I64 j,BL d.Deck,I64 k,I64 0,I64 500000000,I64 500000000,I64 0,E5 ([]:List Int),I64 m,I64 n,I64 o]]) O ⟨O,O,ø⟩ Hr Zd O O O O) O ?_))))
     obtain⟨d9,h⟩:=Hw h
     refine JLh (.vec 1050 ((a.2.2.2.2.2.2.2.2.2.2.2.2++[(G6.mk i j d.Deck k 0 500000000 500000000 0 [] m n o)]).length) 12 ((a.2.2.2.2.2.2.2.2.2.2.2.2++[(G6.mk i j d.Deck k 0 500000000 500000000 0 [] m n o)]).length)) (G57 (f:=G6.av) (xs:=a.2.2.2.2.2.2.2.2.2.2.2.2) (ys:=[(G6.mk i j d.Deck k 0 500000000 500000000 0 [] m n o)]) (ver:=a.2.2.2.2.2.2.2.2.2.2.2.2.length) (ver1:=(a.2.2.2.2.2.2.2.2.2.2.2.2++[(G6.mk i j d.Deck k 0 500000000 500000000 0 [] m n o)]).length) rfl rfl rfl rfl Hr J45 d9 (fun _=>rfl) (.inl rfl) (by simp)) O (JLh (.ptr 1047 0) (J5 Ho O O) O (Hd (u:=.junk) (Gy (u:=.vec 1050 ((a.2.2.2.2.2.2.2.2.2.2.2.2++[(G6.mk i j d.Deck k 0 500000000 500000000 0 [] m n o)]).length) 12 ((a.2.2.2.2.2.2.2.2.2.2.2.2++[(G6.mk i j d.Deck k 0 500000000 500000000 0 [] m n o)]).length)) (ds:=[.vec 1050 ((a.2.2.2.2.2.2.2.2.2.2.2.2++[(G6.mk i j d.Deck k 0 500000000 500000000 0 [] m n o)]).length) 12 ((a.2.2.2.2.2.2.2.2.2.2.2.2++[(G6.mk i j d.Deck k 0 500000000 500000000 0 [] m n o)]).length),OW 1051 2 Gx.av a.1,I64 a.2.1,I64 a.2.2.1,I64 a.2.2.2.1,I64 a.2.2.2.2.1,E8 a.2.2.2.2.2.1,E9 a.2.2.2.2.2.2.1,Ea a.2.2.2.2.2.2.2.1,I64 a.2.2.2.2.2.2.2.2.1,I64 a.2.2.2.2.2.2.2.2.2.1,I64 a.2.2.2.2.2.2.2.2.2.2.1,I64 a.2.2.2.2.2.2.2.2.2.2.2.1]) H8d O O O O O O O O) (G4 ?_)))
     exact ej109 _ _ (a.2.2.2.2.2.2.2.2.2.2.2.2++[(G6.mk i j d.Deck k 0 500000000 500000000 0 [] m n o)]) h ⟨(.sm O O),⟨⟨_,rfl,.vec⟩,⟨_,rfl,.same⟩,fbQ O (.sm O O),fbQ O (.sm O O),ø⟩,rfl⟩
    ·
     refine Gn (ej109 _ _ a.2.2.2.2.2.2.2.2.2.2.2.2 h ⟨(.sm O O),⟨⟨_,rfl,.vec⟩,⟨_,rfl,.same⟩,fbQ O (.sm O O),fbQ O (.sm O O),ø⟩,rfl⟩)
  ·intro w h
   replace h:=app1 b0 h
   refine G2 (JLh (I64 ((q+1:Nat):Int)) (Ht (H7 a3 g2) O O O) O (JLm (I64 ((q+1:Nat):Int)) O (G4 (g4 _ _ (q+1) (a.1,a.2.1,a.2.2.1,a.2.2.2.1,a.2.2.2.2.1,a.2.2.2.2.2.1,a.2.2.2.2.2.2.1,a.2.2.2.2.2.2.2.1,a.2.2.2.2.2.2.2.2.1,a.2.2.2.2.2.2.2.2.2.1,a.2.2.2.2.2.2.2.2.2.2.1,a.2.2.2.2.2.2.2.2.2.2.2.1,w) (app1 c1 h) (by omega) ⟨(.sm O O),⟨⟨_,rfl,.vec⟩,⟨_,rfl,.same⟩,fbQ O (.sm O O),fbQ O (.sm O O),ø⟩,rfl⟩))))
 ·
  have h:=app1 a9 (Hm a2 (H6 hb))
  refine Hj (h8 ?_)
  obtain⟨e0,b2,h⟩:=Qr h
  refine Q0 (fun g:(List G6)=>e0 g=some r) (fun g=>[(1,.sc (.int .u32 covers)),(4,.ptr 1046 0),(5,.ptr 1047 0)]) (fun g=>[(1050,.vec 41 12 g.length (g.map G6.av)),(1051,.spare 137 2 a.1.length a.1.length),(1046,.box 34 Kd),(1047,.box 34 [.vec 1050 g.length 12 g.length,OW 1051 2 Gx.av a.1,I64 a.2.1,I64 a.2.2.1,I64 a.2.2.2.1,I64 a.2.2.2.2.1,E8 a.2.2.2.2.2.1,E9 a.2.2.2.2.2.2.1,Ea a.2.2.2.2.2.2.2.1,I64 a.2.2.2.2.2.2.2.2.1,I64 a.2.2.2.2.2.2.2.2.2.1,I64 a.2.2.2.2.2.2.2.2.2.2.1,I64 a.2.2.2.2.2.2.2.2.2.2.2.1])]) (fun Kj130 ej130=>?_) ?_
  ·
   refine Jr fun e1=>(JLh (.ptr 1047 0) (J5 Ho O O) O (JLh (.vec 1050 a.2.2.2.2.2.2.2.2.2.2.2.2.length 12 a.2.2.2.2.2.2.2.2.2.2.2.2.length) (Jg J2 O O O O) O (Q5b (f:=G6.av) (xs:=a.2.2.2.2.2.2.2.2.2.2.2.2) Hr O O O (fun i5=>?_) O O O)))
   refine JLh (BL (decide ((a.2.2.2.2.2.2.2.2.2.2.2.2.length:Int)=0))) (Qn O O O) O (G4 (e1 (JCc O h (fun h hb=>?_) (fun h hb=>?_))))
   ·
    refine G2 ?_
    refine JLh (.agg [I64 0,I64 0,BL false,I64 3,I64 0,I64 500000000,I64 500000000,I64 0,E5 ([]:List Int),I64 0,I64 0,I64 2000]) (J9 (cs:=[I64 0,I64 0,BL false,I64 3,I64 0,I64 500000000,I64 500000000,I64 0,E5 ([]:List Int),I64 0,I64 0,I64 2000]) [(0,1),(1,1),(2,1),(3,1),(4,1),(5,1),(6,1),(7,1),(8,1),(9,1),(10,1),(11,1)] [I64 0,I64 0,BL false,I64 0,I64 0,I64 0,I64 0,I64 0,E5 ([]:List Int),I64 0,I64 0,I64 0] [E0,E0,.bool false,E0,E0,E0,E0,E0,.slice none 0 0,E0,E0,E0] H1e H8c ⟨.inl O,.inl O,.inl O,.inl O,.inl O,.inl O,.inl O,.inl O,.inr ⟨_,O,O⟩,.inl O,.inl O,.inl O,ø⟩ O O) O (JLh (.vec 1050 (([(G6.mk 0 0 false 3 0 500000000 500000000 0 [] 0 0 2000)]).length) 12 (([(G6.mk 0 0 false 3 0 500000000 500000000 0 [] 0 0 2000)]).length)) (R31 1050 (f:=G6.av) ([(G6.mk 0 0 false 3 0 500000000 500000000 0 [] 0 0 2000)]) (ver1:=([(G6.mk 0 0 false 3 0 500000000 500000000 0 [] 0 0 2000)]).length) rfl ⟨rfl,rfl,ø⟩ Hr Zd rfl rfl rfl rfl rfl (by have hb_:=Kt hb; simp only [M5,List.length_nil]; omega)) O (JLh (.ptr 1047 0) (J5 Ho O O) O (Hd (u:=.junk) (Gy (u:=.vec 1050 (([(G6.mk 0 0 false 3 0 500000000 500000000 0 [] 0 0 2000)]).length) 12 (([(G6.mk 0 0 false 3 0 500000000 500000000 0 [] 0 0 2000)]).length)) (ds:=[.vec 1050 (([(G6.mk 0 0 false 3 0 500000000 500000000 0 [] 0 0 2000)]).length) 12 (([(G6.mk 0 0 false 3 0 500000000 500000000 0 [] 0 0 2000)]).length),OW 1051 2 Gx.av a.1,I64 a.2.1,I64 a.2.2.1,I64 a.2.2.2.1,I64 a.2.2.2.2.1,E8 a.2.2.2.2.2.1,E9 a.2.2.2.2.2.2.1,Ea a.2.2.2.2.2.2.2.1,I64 a.2.2.2.2.2.2.2.2.1,I64 a.2.2.2.2.2.2.2.2.2.1,I64 a.2.2.2.2.2.2.2.2.2.2.1,I64 a.2.2.2.2.2.2.2.2.2.2.2.1]) H8d O O O O O O O O) (G4 ?_))))
    exact ej130 _ _ ([(G6.mk 0 0 false 3 0 500000000 500000000 0 [] 0 0 2000)]) h ⟨(.sm O O),⟨⟨_,rfl,.vec⟩,⟨_,rfl,.same⟩,fbQ O (.sm O O),fbQ O (.sm O O),ø⟩,rfl⟩
   ·
    refine Gn (ej130 _ _ a.2.2.2.2.2.2.2.2.2.2.2.2 h ⟨(.sm O O),⟨⟨_,rfl,.vec⟩,⟨_,rfl,.same⟩,fbQ O (.sm O O),fbQ O (.sm O O),ø⟩,rfl⟩)
  ·intro g h
   replace h:=app1 b2 h
   refine Js fun e2=>Jr fun e3=>(JLm (I64 0) O (G4 (e3 (Gi ?_))))
   obtain⟨e4,h⟩:=Hw h
   obtain⟨h1,e5,e6,b3,h⟩:=G90 h
   refine Hf (fun e (c:(List Gx)×Int×Int×Int×Int×(List Row)×(List Frame)×(List Ja)×Int×Int×Int×Int)=>upto h1 e5 ((5:Int).toNat - e) e c=some r) (fun e c=>[(1,.sc (.int .u32 covers)),(4,.ptr 1046 0),(5,.ptr 1047 0),(11,Ek e)]) (fun e c=>[(1050,.vec 41 12 g.length (g.map G6.av)),(1051,.spare 137 2 c.1.length c.1.length),(1046,.box 34 Kd),(1047,.box 34 (Ke g c))]) (fun e=>(5:Int).toNat - e) 0 (a.1,a.2.1,a.2.2.1,a.2.2.2.1,a.2.2.2.2.1,a.2.2.2.2.2.1,a.2.2.2.2.2.2.1,a.2.2.2.2.2.2.2.1,a.2.2.2.2.2.2.2.2.1,a.2.2.2.2.2.2.2.2.2.1,a.2.2.2.2.2.2.2.2.2.2.1,a.2.2.2.2.2.2.2.2.2.2.2.1) h ⟨(.sm O O),⟨⟨_,rfl,.vec⟩,⟨_,rfl,.same⟩,fbQ O (.sm O O),fbQ O (.sm O O),ø⟩,rfl⟩ ?_
   clear h
   intro e c a7 i6 h2
   refine Js fun e7=>Jr fun e8=>(JLm (Ek e) O (JLh (BL (decide ((e:Int) < 5))) (J8 O O O) O (G4 (e8 (Gj O (fun hb=>?_) (fun hb=>?_))))))
   ·
    have a8:=G46 hb
    obtain⟨i2,e9,h⟩:=G41 a7 a8
    replace h:=Hef e6 h
    refine Gn (e7 ?_)
    obtain⟨f0,b4,h⟩:=Qr h
    refine Q0 (fun x:(List Gx)=>f0 x=some r) (fun x=>[(1,.sc (.int .u32 covers)),(4,.ptr 1046 0),(5,.ptr 1047 0),(11,Ek e)]) (fun x=>[(1050,.vec 41 12 g.length (g.map G6.av)),(1051,.spare 137 2 x.length x.length),(1046,.box 34 Kd),(1047,.box 34 [.vec 1050 g.length 12 g.length,OW 1051 2 Gx.av x,I64 c.2.1,I64 c.2.2.1,I64 c.2.2.2.1,I64 c.2.2.2.2.1,E8 c.2.2.2.2.2.1,E9 c.2.2.2.2.2.2.1,Ea c.2.2.2.2.2.2.2.1,I64 c.2.2.2.2.2.2.2.2.1,I64 c.2.2.2.2.2.2.2.2.2.1,I64 c.2.2.2.2.2.2.2.2.2.2.1,I64 c.2.2.2.2.2.2.2.2.2.2.2])]) (fun Kj203 ej203=>?_) ?_
    ·
     refine Gi ?_
     obtain⟨f1,b5,h⟩:=Qr h
     refine Q0 (fun t:(List Gx)=>f1 t=some r) (fun t=>[(1,.sc (.int .u32 covers)),(4,.ptr 1046 0),(5,.ptr 1047 0),(11,Ek e)]) (fun t=>[(1050,.vec 41 12 g.length (g.map G6.av)),(1051,.spare 137 2 t.length t.length),(1046,.box 34 Kd),(1047,.box 34 [.vec 1050 g.length 12 g.length,OW 1051 2 Gx.av t,I64 c.2.1,I64 c.2.2.1,I64 c.2.2.2.1,I64 c.2.2.2.2.1,E8 c.2.2.2.2.2.1,E9 c.2.2.2.2.2.2.1,Ea c.2.2.2.2.2.2.2.1,I64 c.2.2.2.2.2.2.2.2.1,I64 c.2.2.2.2.2.2.2.2.2.1,I64 c.2.2.2.2.2.2.2.2.2.2.1,I64 c.2.2.2.2.2.2.2.2.2.2.2])]) (fun Kj204 ej204=>?_) ?_
     ·
      refine Jr fun f2=>(JLm (.sc (.int .u32 covers)) O (JLm (Ek e) O ?_))
      obtain⟨h3,f3,h⟩:=Hx h
      refine JLh (I64 h3) (H66 f3 O O O) O ?_
      obtain⟨a0,f4,h⟩:=Gg h
      refine JLh (.sc (.int .u32 (Jef .u32 covers a0))) (R5f (s:=a0) (G85 f4).1 O O O) O (JLh (.sc (.int .u32 (Q53 .u32 (Jef .u32 covers a0) 1))) (R6a O O O) O (JLh (BL (decide ((Q53 .u32 (Jef .u32 covers a0) 1)=1))) (Qn O O O) O (G4 (f2 (JCc O h (fun h hb=>?_) (fun h hb=>?_))))))
      ·
       refine G2 (JLh (.ptr 1047 1) (J5 Zw O O) O (JLh (OW 1051 2 Gx.av c.1) (Jg G63 O O O O) O (JLm (Ek e) O (JLh (E5 [0,1]) (He (xs:=[I64 0,I64 1]) O ⟨O,O,O,O,ø⟩ Gv Rm O O O O) O (JLh (.agg [Ek e,E5 [0,1]]) (J9 (cs:=[Ek e,E5 [0,1]]) [(0,1),(1,1)] [I64 0,E5 ([]:List Int)] [E0,.slice none 0 0] H7b Hff ⟨.inl O,.inr ⟨_,O,O⟩,ø⟩ O O) O (JLh (Eb ([(Gx.mk (e:Int) [0,1])])) (He (xs:=[.agg [Ek e,E5 [0,1]]]) O ⟨O,O,ø⟩ Zf Gb5 O O O O) O ?_))))))
       obtain⟨f5,h⟩:=Hw h
       refine JLh (OW 1051 2 Gx.av (c.1++[(Gx.mk (e:Int) [0,1])])) (Qt (f:=Gx.av) (xs:=c.1) (ys:=[(Gx.mk (e:Int) [0,1])]) O O O O Zf J02 f5 (fun _=>O) (.inl O) O) O (JLh (.ptr 1047 1) (J5 Zw O O) O (Hd (u:=.junk) (Gy (u:=OW 1051 2 Gx.av (c.1++[(Gx.mk (e:Int) [0,1])])) (ds:=[.vec 1050 g.length 12 g.length,OW 1051 2 Gx.av (c.1++[(Gx.mk (e:Int) [0,1])]),I64 c.2.1,I64 c.2.2.1,I64 c.2.2.2.1,I64 c.2.2.2.2.1,E8 c.2.2.2.2.2.1,E9 c.2.2.2.2.2.2.1,Ea c.2.2.2.2.2.2.2.1,I64 c.2.2.2.2.2.2.2.2.1,I64 c.2.2.2.2.2.2.2.2.2.1,I64 c.2.2.2.2.2.2.2.2.2.2.1,I64 c.2.2.2.2.2.2.2.2.2.2.2]) J3b O O O O O O O O) (G4 ?_)))
       exact ej204 _ _ (c.1++[(Gx.mk (e:Int) [0,1])]) h ⟨(.sm O O),⟨⟨_,rfl,.vec⟩,⟨_,rfl,.same⟩,fbQ O (.sm O O),fbQ O (.sm O O),ø⟩,rfl⟩
      ·
       refine Gn (ej204 _ _ c.1 h ⟨(.sm O O),⟨⟨_,rfl,.vec⟩,⟨_,rfl,.same⟩,fbQ O (.sm O O),fbQ O (.sm O O),ø⟩,rfl⟩)
     ·intro t h
      replace h:=app1 b5 h
      refine Jr fun f6=>(JLm (.sc (.int .u32 covers)) O (JLm (Ek e) O ?_))
      obtain⟨h4,f7,h⟩:=Hx h
      refine JLh (I64 h4) (H66 f7 O O O) O ?_
      obtain⟨h5,f8,h⟩:=Hx h
      refine JLh (I64 h5) (Ht f8 O O O) O ?_
      obtain⟨a1,f9,h⟩:=Gg h
      refine JLh (.sc (.int .u32 (Jef .u32 covers a1))) (R5f (s:=a1) (G85 f9).1 O O O) O (JLh (.sc (.int .u32 (Q53 .u32 (Jef .u32 covers a1) 1))) (R6a O O O) O (JLh (BL (decide ((Q53 .u32 (Jef .u32 covers a1) 1)=1))) (Qn O O O) O (G4 (f6 (JCc O h (fun h hb=>?_) (fun h hb=>?_))))))
      ·
       refine G2 (JLh (.ptr 1047 1) (J5 Zw O O) O (JLh (OW 1051 2 Gx.av t) (Jg G63 O O O O) O (JLm (Ek e) O (JLh (E5 [2,3,4]) (He (xs:=[I64 2,I64 3,I64 4]) O ⟨O,O,O,O,O,O,ø⟩ Gv Rm O O O O) O (JLh (.agg [Ek e,E5 [2,3,4]]) (J9 (cs:=[Ek e,E5 [2,3,4]]) [(0,1),(1,1)] [I64 0,E5 ([]:List Int)] [E0,.slice none 0 0] H7b Hff ⟨.inl O,.inr ⟨_,O,O⟩,ø⟩ O O) O (JLh (Eb ([(Gx.mk (e:Int) [2,3,4])])) (He (xs:=[.agg [Ek e,E5 [2,3,4]]]) O ⟨O,O,ø⟩ Zf Gb5 O O O O) O ?_))))))
       obtain⟨g0,h⟩:=Hw h
       refine JLh (OW 1051 2 Gx.av (t++[(Gx.mk (e:Int) [2,3,4])])) (Qt (f:=Gx.av) (xs:=t) (ys:=[(Gx.mk (e:Int) [2,3,4])]) O O O O Zf J02 g0 (fun _=>O) (.inl O) O) O (JLh (.ptr 1047 1) (J5 Zw O O) O (Hd (u:=.junk) (Gy (u:=OW 1051 2 Gx.av (t++[(Gx.mk (e:Int) [2,3,4])])) (ds:=[.vec 1050 g.length 12 g.length,OW 1051 2 Gx.av (t++[(Gx.mk (e:Int) [2,3,4])]),I64 c.2.1,I64 c.2.2.1,I64 c.2.2.2.1,I64 c.2.2.2.2.1,E8 c.2.2.2.2.2.1,E9 c.2.2.2.2.2.2.1,Ea c.2.2.2.2.2.2.2.1,I64 c.2.2.2.2.2.2.2.2.1,I64 c.2.2.2.2.2.2.2.2.2.1,I64 c.2.2.2.2.2.2.2.2.2.2.1,I64 c.2.2.2.2.2.2.2.2.2.2.2]) J3b O O O O O O O O) (G4 ?_)))
       exact ej203 _ _ (t++[(Gx.mk (e:Int) [2,3,4])]) h ⟨(.sm O O),⟨⟨_,rfl,.vec⟩,⟨_,rfl,.same⟩,fbQ O (.sm O O),fbQ O (.sm O O),ø⟩,rfl⟩
      ·
       refine Gn (ej203 _ _ t h ⟨(.sm O O),⟨⟨_,rfl,.vec⟩,⟨_,rfl,.same⟩,fbQ O (.sm O O),fbQ O (.sm O O),ø⟩,rfl⟩)
    ·intro x h
     replace h:=app1 b4 h
     refine G2 (JLm (Ek e) O (JLh (I64 ((e+1:Nat):Int)) (Ht (H7 a8 (Z8 e4)) O O O) O (JLm (I64 ((e+1:Nat):Int)) O (G4 (h2 _ _ (e+1) (x,c.2.1,c.2.2.1,c.2.2.2.1,c.2.2.2.2.1,c.2.2.2.2.2.1,c.2.2.2.2.2.2.1,c.2.2.2.2.2.2.2.1,c.2.2.2.2.2.2.2.2.1,c.2.2.2.2.2.2.2.2.2.1,c.2.2.2.2.2.2.2.2.2.2.1,c.2.2.2.2.2.2.2.2.2.2.2) (app1 e9 h) (by omega) ⟨(.sm O O),⟨⟨_,rfl,.vec⟩,⟨_,rfl,.same⟩,fbQ O (.sm O O),fbQ O (.sm O O),ø⟩,rfl⟩)))))
   ·
    have h:=app1 b3 (G42 a7 (Y8 hb))
    refine Hj (e2 ?_)
    refine Jr fun g1=>(JLh (.agg (Ke g c)) (G01 J6 O O O O) O (Hd (u:=.junk) (Gy (u:=.agg (Ke g c)) (ds:=(Ke g c)) Gc7 O O O O O O O O) (G4 (g1 ?_))))
    refine Gw ?_
    obtain rfl:=Kz h
    exact⟨[.agg [.vec 1050 g.length 12 g.length,Eb c.1,I64 c.2.1,I64 c.2.2.1,I64 c.2.2.2.1,I64 c.2.2.2.2.1,E8 c.2.2.2.2.2.1,E9 c.2.2.2.2.2.2.1,Ea c.2.2.2.2.2.2.2.1,I64 c.2.2.2.2.2.2.2.2.1,I64 c.2.2.2.2.2.2.2.2.2.1,I64 c.2.2.2.2.2.2.2.2.2.2.1,I64 c.2.2.2.2.2.2.2.2.2.2.2]],[(1050,.vec 41 12 g.length (g.map G6.av))],⟨⟨_,O,.vec⟩,ø⟩,O,⟨⟨_,⟨_,_,_,_,O,O,O,.inl ⟨J6,O⟩⟩,.agg ⟨.same O,.list O,.same O,.same O,.same O,.same O,.same O,.same O,.same O,.same O,.same O,.same O,.same O,ø⟩⟩,ø⟩,g.length,O,O⟩
end
end Go.Proofs.YtibhpogonkdiaaaGreat
