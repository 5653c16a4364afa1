/- Walks of functions. -/
import Derived.Test.YtmfhaflabpnaoaaGreatSpecA
set_option maxRecDepth 100000
set_option maxHeartbeats 1000000
set_option linter.unusedVariables false
set_option linter.unusedSimpArgs false
namespace Go.Proofs.YtmfhaflabpnaoaaGreat
open Go.RowKit
noncomputable section
structure Slot where
 G1:Int
 Tier:Int
 Half:Int
 deriving DecidableEq,Inhabited
def Slot.cs (x:Slot):List AV:=[I64 x.G1,I64 x.Tier,U8 x.Half]
def Slot.av (x:Slot):AV:=.agg x.cs
abbrev Ei (x:Slot):AV:=.dptr (Slot.cs x)
abbrev E9:=LS 3 Slot.av
structure Move where
 Kind:Int
 Box:Int
 Slot:Slot
 Ga:Int
 deriving DecidableEq,Inhabited
def Move.cs (x:Move):List AV:=[U8 x.Kind,I64 x.Box,I64 x.Slot.G1,I64 x.Slot.Tier,U8 x.Slot.Half,I64 x.Ga]
def Move.av (x:Move):AV:=.agg x.cs
abbrev Ec (x:Move):AV:=.dptr (Move.cs x)
abbrev Ea:=LS 6 Move.av
namespace XLF
open XAF
theorem Y80 (a b:Move):J03 Ek 4 52 [.int .u8 a.Kind,.int .i64 a.Box,.int .i64 a.Slot.G1,.int .i64 a.Slot.Tier,.int .u8 a.Slot.Half,.int .i64 a.Ga] [.int .u8 b.Kind,.int .i64 b.Box,.int .i64 b.Slot.G1,.int .i64 b.Slot.Tier,.int .u8 b.Slot.Half,.int .i64 b.Ga]=some (decide (a=b)):=by
 refine(show _=some ((a.Kind==b.Kind)&&((a.Box==b.Box)&&(((a.Slot.G1==b.Slot.G1)&&((a.Slot.Tier==b.Slot.Tier)&&((a.Slot.Half==b.Slot.Half)&&true)))&&((a.Ga==b.Ga)&&true)))) by kernel_rfl).trans (congrArg some ?_)
 rw [Bool.eq_iff_iff]
 simp only [Me,beq_iff_eq,Mf,Bool.and_true]
 constructor
 ·intro h; obtain⟨_,_,⟨_,_,_⟩,_⟩:=a; obtain⟨_,_,⟨_,_,_⟩,_⟩:=b; simp_all
 ·intro h; subst h; simp
theorem G23:H10 Ek 52 6=true:=by kernel_rfl
theorem J9c:G3c Ek 52=true:=by kernel_rfl
theorem Jfc:H9 Ek 39=true:=by kernel_rfl
theorem R44:H9 Ek 70=true:=by kernel_rfl
theorem J17:Zd Ek 52 6 48=true:=by kernel_rfl
theorem Q72:Ek.eqGuardType Ek.depth 52=false:=by kernel_rfl
theorem Z6:placesOf Ek 52=some [(0,1),(1,1),(2,3),(5,1)]:=by kernel_rfl
theorem Je0:Zh Ek 52 6=true:=by kernel_rfl
theorem Jt:sliceB Ek 36 52 6=true:=by kernel_rfl
theorem G09:(Ek.info? 52).bind (fun i=>i.zero.map Value.cells)=some (List.toArray [.int .u8 0,E0,E0,E0,.int .u8 0,E0]):=by kernel_rfl
theorem J90:Yb Ek 52 6=true:=by kernel_rfl
end XLF
open XAF
open XLF

def G12 (k:Int) (i:Int):Option Int:=
 chk (k+7) fun a=>
 chk (1000003*a) fun b=>
 chk (b+i) fun c=>
 some c
theorem Hc6 (k:Int) (i:Int) (r:Int) (h:G12 k i=some r):Pure Ek 70 [I64 k,I64 i] (·=I64 r):=by
 unfold G12 at h
 refine H3 [.tmp 4] Tryz.func70 O O (Jr fun a=>(JLm (I64 0) O (G8 (a (Jr fun b=>(JLm (I64 k) O ?_))))))
 obtain⟨g,c,h⟩:=Zw h
 refine JLh (I64 g) (Jo c O O O) O ?_
 obtain⟨j,d,h⟩:=Zw h
 refine JLh (I64 j) (Yfa d O O O) O (JLm (I64 i) O ?_)
 obtain⟨e,f,h⟩:=Zw h
 refine JLh (I64 e) (Jo f O O O) O (JLm (I64 e) O (G8 (b (Gs (fin1 I64 h)))))

def R5 (k:Int) (i:Int):Option Move:=
 bnd (G12 k i) fun a=>
 some (Move.mk 0 a (Slot.mk 0 0 0) 0)
theorem G9d (k:Int) (i:Int) (r:Move) (h:R5 k i=some r):Pure Ek 39 [I64 k,I64 i] (·=.agg (Move.cs r)):=by
 unfold R5 at h
 refine H3 [.cell 4 52] Tryz.func39 O O (Jr fun b=>(JLh (.ptr 1056 0) (G8f 1056 [U8 0,I64 0,I64 0,I64 0,U8 0,I64 0] [.int .u8 0,E0,E0,E0,.int .u8 0,E0] G09 (zzQ O) O O) O (G8 (b (Jr fun c=>(JLm (I64 k) O (JLm (I64 i) O ?_)))))))
 obtain⟨a,d,h⟩:=Gj h
 refine JLh (I64 a) (Gw O (Hc6 k i a d) R44 ⟨O,O,O,O,G⟩) O (JLh (.agg [U8 0,I64 a,I64 0,I64 0,U8 0,I64 0]) (Hj (cs:=[U8 0,I64 a,I64 0,I64 0,U8 0,I64 0]) [(0,1),(1,1),(2,3),(5,1)] [U8 0,I64 0,I64 0,I64 0,U8 0,I64 0] [.int .u8 0,E0,E0,E0,.int .u8 0,E0] Z6 G09 (zzQ O) O O) O (J9 (u:=.junk) (He (u:=.agg [U8 0,I64 a,I64 0,I64 0,U8 0,I64 0]) (ds:=[U8 0,I64 a,I64 0,I64 0,U8 0,I64 0]) Je0 O O O O O O O O) (G8 (c (Gs (⟨[.agg [U8 0,I64 a,I64 0,I64 0,U8 0,I64 0]],[],G,O,⟨⟨_,⟨_,_,_,_,O,O,O,.inl ⟨G23,O⟩⟩,.conv (.same O)⟩,G⟩,O,congrArg (fun r:Move=>(.agg (Move.cs r):AV)) (M2 h)⟩))))))

def Qx (l:List Move):Option (Ln Move):=
 chk ((l.length:Int)+12) fun g=>
 bnd (Q22 g) fun e=>
 need (decide (48*e≤281474976710656∧e≤maxLen)) <|
 need (decide ((([]:List Move).length+l.length)*48≤140737488355328∧([]:List Move).length+l.length≤maxLen)) <|
 need (decide (12≤9223372036854775807)) <|
 upto (fun f (a:(List Move)) d=>
  bnd (R5 1 (f:Int)) fun b=>
  need (decide ((a.length+[b].length)*48≤140737488355328∧a.length+[b].length≤maxLen)) <|
  d (a++[b]))
 (fun(a:(List Move))=>
  bnd (H79 (l.length:Int) a.length) fun c=>
  some (a.take c,a.drop c)) (12:Int).toNat 0 (([]:List Move)++l)
theorem G83 (l:List Move) (r:(Ln Move)) (h:Qx l=some r):Pure Ek 10 [Ea l] (·=LT 6 Move.av r):=by
 unfold Qx at h
 refine H3 [.tmp 2] Tryz.func10 O O (Jr fun w=>(JLh (Ea ([]:List Move)) (Jb 6 O O) O (G8 (w (Jr fun x=>(JLm (Ea l) O (JLl Jt O O O fun b0=>?_)))))))
 obtain⟨v3,y,h⟩:=Zw h
 refine JLh (I64 v3) (Jo y O O O) O ?_
 obtain⟨m4,z,h⟩:=Gj h
 obtain⟨a0,h⟩:=Qa h
 refine JLh (OW 1019 6 Move.av ([]:List Move)) (Rf6 1019 O O O O Jt J17 O (Rdf z) a0) O (JLm (OW 1019 6 Move.av ([]:List Move)) O (G8 (x (Jr fun a1=>(JLm (OW 1019 6 Move.av ([]:List Move)) O (JLm (Ea l) O ?_))))))
 obtain⟨a2,h⟩:=Qa h
 refine JLh (OW 1019 6 Move.av (([]:List Move)++l)) (J01 (f:=Move.av) (xs:=([]:List Move)) (ys:=l) O O O O Jt J17 a2 (fun _=>O) (.inl O)) O (JLm (OW 1019 6 Move.av (([]:List Move)++l)) O (G8 (a1 (Js fun a3=>Jr fun a4=>(JLm (I64 0) O (G8 (a4 (Gx ?_))))))))
 obtain⟨j,h⟩:=Qa h
 obtain⟨a5,k,m,i,h⟩:=Jc8 h
 refine Hs (fun b (a:(List Move))=>upto a5 k ((12:Int).toNat - b) b a=some r) (fun b a=>[(0,Ea l),(3,OW 1019 6 Move.av a),(4,Ej b)]) (fun b a=>[(1019,.spare 52 6 a.length a.length)]) (fun b=>(12:Int).toNat - b) 0 (([]:List Move)++l) h ⟨(.sm O O),⟨⟨_,O,.same⟩,G⟩,O⟩ ?_
 clear h
 intro b a e b1 a6
 refine Js fun n=>Jr fun o=>(JLm (Ej b) O (JLh (BL (decide ((b:Int) < 12))) (Jq O O O) O (G8 (o (Gp O (fun hb=>?_) (fun hb=>?_))))))
 ·
  have g:=J4e hb
  obtain⟨a8,p,h⟩:=J36 e g
  replace h:=Jbd m h
  refine Gn (n (Js fun q=>Gx (G2 (JLm (OW 1019 6 Move.av a) O (JLm (Ej b) O ?_)))))
  obtain⟨c,s,h⟩:=Gj h
  refine JLh (.agg (Move.cs c)) (Gw O (G9d 1 (b:Int) c s) Jfc ⟨O,O,O,O,G⟩) O (JLh (Ea [c]) (J2 (xs:=[.agg (Move.cs c)]) O ⟨O,O,G⟩ Jt J90 O O O O) O ?_)
  obtain⟨t,h⟩:=Qa h
  refine JLh (OW 1019 6 Move.av (a++[c])) (Z1 (f:=Move.av) (xs:=a) (ys:=[c]) O O O O Jt J17 t (fun _=>O) (.inl O) O) O (JLm (OW 1019 6 Move.av (a++[c])) O (G8 (q (G2 (JLm (Ej b) O (JLh (I64 ((b+1:Nat):Int)) (Jo (Hw g (Heb j)) O O O) O (JLm (I64 ((b+1:Nat):Int)) O (G8 (a6 _ _ (b+1) (a++[c]) (app1 p h) (by omega) ⟨(.sm O O),⟨⟨_,rfl,.same⟩,G⟩,rfl⟩)))))))))
 ·
  have h:=app1 i (J37 e (H22 hb))
  refine Hy (a3 (Jr fun u=>(JLm (OW 1019 6 Move.av a) O (JLm (Ea l) O (JLl Jt O O O fun a9=>?_)))))
  obtain⟨d,v,h⟩:=Gj h
  refine JLh (LT 6 Move.av (a.take d,a.drop d)) (Z01 (f:=Move.av) (xs:=a) O O O Jt (J72 v)) O (JLm (LT 6 Move.av (a.take d,a.drop d)) O (G8 (u (Gs (fin1 (fun r:(Ln Move)=>(LT 6 Move.av r:AV)) h)))))

def Ru (out:Ln Move) (l:List Move):Option Bool:=
 bif decide ((out.1.length:Int)≠(l.length:Int)) then
 (some false)
 else
 (chk ((l.length:Int)+12) fun h=>
  bnd (H79 h (out.1++out.2).length) fun i=>
  each (fun b a (e:Unit) d=>
   bnd (bif decide ((a:Int) < (l.length:Int)) then Qr l (a:Int) some else some default) fun c=>
   bnd (bif ((!((decide ((a:Int) < (l.length:Int)))&&(!(decide (b=c)))))&&(decide ((l.length:Int)≤(a:Int)))) then chk ((a:Int) - (l.length:Int)) some else some 0) fun f=>
   bnd (bif ((!((decide ((a:Int) < (l.length:Int)))&&(!(decide (b=c)))))&&(decide ((l.length:Int)≤(a:Int)))) then R5 1 f else some default) fun g=>
   bif (((decide ((a:Int) < (l.length:Int)))&&(!(decide (b=c))))||((decide ((l.length:Int)≤(a:Int)))&&(!(decide (b=g))))) then
   (some false)
   else
   (d ()))
  (fun(e:Unit)=>
   some true) ((out.1++out.2).take i) 0 ())
theorem H45 (out:Ln Move) (l:List Move) (r:Bool) (h:Ru out l=some r):Pure Ek 13 [LT 6 Move.av out,Ea l] (·=BL r):=by
 unfold Ru at h
 refine H3 [.tmp 4] Tryz.func13 O O (Jr fun a5=>(JLm (BL false) O (G8 (a5 (Js fun a6=>Jr fun a7=>(JLm (LT 6 Move.av out) O (JLl Jt O O O fun c0=>(JLm (Ea l) O (JLl Jt O O O fun b6=>(JLh (BL (decide ((out.1.length:Int)≠(l.length:Int)))) (G2c O O O) O (G8 (a7 (JCc O h (fun h hb=>?_) (fun h hb=>?_))))))))))))))
 ·
  refine Jr fun a8=>(JLm (BL false) O (G8 (a8 (Gs (fin1 BL h)))))
 ·
  refine Gn (a6 (Jr fun a9=>(JLm (LT 6 Move.av out) O (JLm (Ea l) O (JLl Jt O O O fun b7=>?_)))))
  obtain⟨v6,b0,h⟩:=Zw h
  refine JLh (I64 v6) (Jo b0 O O O) O ?_
  obtain⟨i,b1,h⟩:=Gj h
  refine JLh (Ea ((out.1++out.2).take i)) (Y71 (f:=Move.av) (e:=out) O O O Jt (J72 b1)) O (JLm (Ea ((out.1++out.2).take i)) O (G8 (a9 (Js fun b2=>Jr fun b3=>(JLm (I64 0) O (G8 (b3 (Gx ?_))))))))
  obtain⟨b4,q,s,p,h⟩:=Jf h
  refine Hs (fun c (j:Unit)=>each b4 q (List.drop c ((out.1++out.2).take i)) c j=some r) (fun c j=>[(1,Ea l),(5,Ea ((out.1++out.2).take i)),(6,Ej c)]) (fun c j=>[]) (fun c=>((out.1++out.2).take i).length - c) 0 () h ⟨(.sm O O),G,O⟩ ?_
  clear h
  intro c j k c1 b5
  refine Js fun t=>Jr fun u=>(JLm (Ej c) O (JLm (Ea ((out.1++out.2).take i)) O (JLl Jt O O O fun v=>(JLh (BL (decide ((c:Int) < (((out.1++out.2).take i).length:Int)))) (Jq O O O) O (G8 (u (Gp O (fun hb=>?_) (fun hb=>?_))))))))
  ·
   have m:=Q4 hb
   obtain⟨a,b9,n,w,h⟩:=Hz k m
   replace h:=Zi s h
   refine Gn (t (Js fun x=>Gx (Js fun z=>?_)))
   obtain⟨d,a0,h⟩:=Gj h
   obtain⟨o,a1,h⟩:=Gj h
   obtain⟨g,a2,h⟩:=Gj h
   refine JC_d0 Ho (by kernel_rfl) (Dq (Ej c) (G7 O O) O (Dq (Ea l) (G7 O O) O (Dq (Ej l.length) (G2d (f:=Move.av) (xs:=l) Jt O O) O (Dq (BL (decide ((c:Int) < (l.length:Int)))) (Jq O O O) O (Dq (BL (decide ((c:Int) < (l.length:Int)))) (G7 O O) O (Do (Ea ((out.1++out.2).take i)) [] O .sct G (fun hc=>G7 O O) O (Do (Ej c) [] O .sct G (fun hc=>G7 O O) O (Do (Ec a) [28,29] O .sct ⟨Ua,Ua,G⟩ (fun hc=>H0 (f:=Move.av) (xs:=((out.1++out.2).take i)) (y:=a) O O O Jt n O) O (Do (.agg (Move.cs a)) [30] O .sct ⟨Ua,G⟩ (fun hc=>Gt G23 O O O) O (Do (Ea l) [] O .sct G (fun hc=>G7 O O) O (Do (Ej c) [] O .sct G (fun hc=>G7 O O) O (Do (Ec d) [32,33] O .sct ⟨Ua,Ua,G⟩ (fun hc=>(match R1 (H1 hc a0) with | ⟨_,hm_,hy_⟩=>H0 (f:=Move.av) (xs:=l) (y:=d) O O O Jt hy_ hm_)) O (Do (.agg (Move.cs d)) [34] O .sct ⟨Ua,G⟩ (fun hc=>Gt G23 O O O) O ?_)))))))))))))
   refine Do (BL (decide (a=d))) [31,35] O .sct ⟨Ua,Ua,G⟩ (fun hc=>Jd7 (vs:=[.int .u8 a.Kind,.int .i64 a.Box,.int .i64 a.Slot.G1,.int .i64 a.Slot.Tier,.int .u8 a.Slot.Half,.int .i64 a.Ga]) (us:=[.int .u8 d.Kind,.int .i64 d.Box,.int .i64 d.Slot.G1,.int .i64 d.Slot.Tier,.int .u8 d.Slot.Half,.int .i64 d.Ga]) 4 O (Y80 a d) J9c Q72 O O O) O (Do (BL (!(decide (a=d)))) [36] O .sct ⟨Ua,G⟩ (fun hc=>R2 (b:=decide (a=d)) O O) O (Dq (BL ((decide ((c:Int) < (l.length:Int)))&&(!(decide (a=d))))) (Jv O O O O) O (Dq (BL ((decide ((c:Int) < (l.length:Int)))&&(!(decide (a=d))))) (G7 O O) O (Do (Ej c) [] O .scf G (fun hc=>G7 O O) O (Do (Ea l) [] O .scf G (fun hc=>G7 O O) O (Do (Ej l.length) [41] O .scf ⟨Ua,G⟩ (fun hc=>G2d (f:=Move.av) (xs:=l) Jt O O) O (Do (BL (decide ((l.length:Int)≤(c:Int)))) [40,42] O .scf ⟨Ua,Ua,G⟩ (fun hc=>G4b O O O) O (Do (BL (decide ((l.length:Int)≤(c:Int)))) [43] O .scf ⟨Ua,G⟩ (fun hc=>G7 O O) O (Do (Ea ((out.1++out.2).take i)) [] O .optt G (fun hc=>G7 O O) O (Do (Ej c) [] O .optt G (fun hc=>G7 O O) O (Do (Ec a) [45,46] O .optt ⟨Ua,Ua,G⟩ (fun hc=>H0 (f:=Move.av) (xs:=((out.1++out.2).take i)) (y:=a) O O O Jt n O) O (Do (.agg (Move.cs a)) [47] O .optt ⟨Ua,G⟩ (fun hc=>Gt G23 O O O) O (Do (Ej c) [] O .optt G (fun hc=>G7 O O) O ?_)))))))))))))
   refine Do (Ea l) [] O .optt G (fun hc=>G7 O O) O (Do (Ej l.length) [50] O .optt ⟨Ua,G⟩ (fun hc=>G2d (f:=Move.av) (xs:=l) Jt O O) O (Do (I64 o) [49,51] O .optt ⟨Ua,Ua,G⟩ (fun hc=>H90 (G65 (H1 hc a1)) O O O) O (Do (.agg (Move.cs g)) [52] O .optt ⟨Ua,G⟩ (fun hc=>Gw (args:=[I64 1,I64 o]) O (G9d 1 o g (H1 hc a2)) Jfc ⟨O,O,O,O,G⟩) O (Do (BL (decide (a=g))) [48,53] O .optt ⟨Ua,Ua,G⟩ (fun hc=>Jd7 (vs:=[.int .u8 a.Kind,.int .i64 a.Box,.int .i64 a.Slot.G1,.int .i64 a.Slot.Tier,.int .u8 a.Slot.Half,.int .i64 a.Ga]) (us:=[.int .u8 g.Kind,.int .i64 g.Box,.int .i64 g.Slot.G1,.int .i64 g.Slot.Tier,.int .u8 g.Slot.Half,.int .i64 g.Ga]) 4 O (Y80 a g) J9c Q72 O O O) O (Do (BL (!(decide (a=g)))) [54] O .optt ⟨Ua,G⟩ (fun hc=>R2 (b:=decide (a=g)) O O) O (Dg (.opt (!((decide ((c:Int) < (l.length:Int)))&&(!(decide (a=d))))) (BL ((decide ((l.length:Int)≤(c:Int)))&&(!(decide (a=g)))))) (Gk [(44,BL (decide ((l.length:Int)≤(c:Int)))),(55,_)] O O O .scf ⟨.all id,.part,G⟩ (fun hc=>Jv O O O O) O) O (Dq (BL (((decide ((c:Int) < (l.length:Int)))&&(!(decide (a=d))))||((decide ((l.length:Int)≤(c:Int)))&&(!(decide (a=g)))))) (Ya O O O O) O (Dnil ?_))))))))
   refine z (JCc O h (fun h hb=>?_) (fun h hb=>?_))
   ·
    refine Jr fun a3=>(JLm (BL false) O (G8 (a3 (Gs (fin1 BL h)))))
   ·
    refine Gn (x (G2 (JLm (Ej c) O (JLh (I64 ((c+1:Nat):Int)) (Jo (Hw m v) O O O) O (JLm (I64 ((c+1:Nat):Int)) O (G8 (b5 _ _ (c+1) () (app1 w h) (by omega) ⟨(.sm O O),G,rfl⟩)))))))
  ·
   have h:=app1 p (J0 k (Hd hb))
   refine Hy (b2 (Jr fun a4=>(JLm (BL true) O (G8 (a4 (Gs (fin1 BL h)))))))
end
end Go.Proofs.YtmfhaflabpnaoaaGreat
