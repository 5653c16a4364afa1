/- Walks of functions. -/
import Derived.Test.YtgcpimpnpcdmmaaGreatXV
set_option maxRecDepth 100000
set_option maxHeartbeats 1000000
set_option linter.unusedVariables false
set_option linter.unusedSimpArgs false
namespace Go.Proofs.YtgcpimpnpcdmmaaGreat
open Go.RowKit
noncomputable section
def J33:ByteArray:=ByteArray.mk #[0,1,2,2,3,3,3,3,4,4,4,4,4,4,4,4,5,5,5,5,5,5,5,5,5,5,5,5,5,5,5,5,6,6,6,6,6,6,6,6,6,6,6,6,6,6,6,6,6,6,6,6,6,6,6,6,6,6,6,6,6,6,6,6,7,7,7,7,7,7,7,7,7,7,7,7,7,7,7,7,7,7,7,7,7,7,7,7,7,7,7,7,7,7,7,7,7,7,7,7,7,7,7,7,7,7,7,7,7,7,7,7,7,7,7,7,7,7,7,7,7,7,7,7,7,7,7,7,8,8,8,8,8,8,8,8,8,8,8,8,8,8,8,8,8,8,8,8,8,8,8,8,8,8,8,8,8,8,8,8,8,8,8,8,8,8,8,8,8,8,8,8,8,8,8,8,8,8,8,8,8,8,8,8,8,8,8,8,8,8,8,8,8,8,8,8,8,8,8,8,8,8,8,8,8,8,8,8,8,8,8,8,8,8,8,8,8,8,8,8,8,8,8,8,8,8,8,8,8,8,8,8,8,8,8,8,8,8,8,8,8,8,8,8,8,8,8,8,8,8,8,8,8,8,8,8]
namespace XMF
open XAF
open XCF
open XSF
open XKF
open XTF
open XUF
open XVF
theorem Rb6:H0 En 102=true:=by kernel_rfl
theorem Rb5:H0 En 103=true:=by kernel_rfl
theorem Q3d:H0 En 104=true:=by kernel_rfl
theorem Q3c:H0 En 105=true:=by kernel_rfl
theorem Q3b:H0 En 106=true:=by kernel_rfl
theorem Rb4:H0 En 107=true:=by kernel_rfl
theorem Rb3:H0 En 108=true:=by kernel_rfl
theorem Hfd:H0 En 12=true:=by kernel_rfl
theorem J3c:H0 En 127=true:=by kernel_rfl
theorem Ra7:H0 En 136=true:=by kernel_rfl
theorem Ra5:H0 En 139=true:=by kernel_rfl
theorem Ra4:H0 En 140=true:=by kernel_rfl
theorem Ra3:H0 En 141=true:=by kernel_rfl
theorem Q34:H0 En 164=true:=by kernel_rfl
theorem R9c:H0 En 165=true:=by kernel_rfl
theorem R9b:H0 En 171=true:=by kernel_rfl
theorem Y29:H0 En 30=true:=by kernel_rfl
theorem Y22:H0 En 39=true:=by kernel_rfl
theorem Hfb:H0 En 55=true:=by kernel_rfl
theorem Qa4:H0 En 56=true:=by kernel_rfl
theorem Qa3:H0 En 57=true:=by kernel_rfl
theorem H84:H0 En 58=true:=by kernel_rfl
theorem Qa2:H0 En 59=true:=by kernel_rfl
theorem R1d:H0 En 9=true:=by kernel_rfl
theorem Y0a:H0 En 91=true:=by kernel_rfl
theorem Q9b:H0 En 92=true:=by kernel_rfl
theorem Q94:Z9 En 59 6 48=true:=by kernel_rfl
theorem Q88:J7f En 160 .u64=true:=by kernel_rfl
theorem Y07:J7f En 200 .u64=true:=by kernel_rfl
theorem Yt:placesOf En 59=some [(0,1),(1,1),(2,3),(5,1)]:=by kernel_rfl
theorem Hfa:R5 En 45=true:=by kernel_rfl
theorem Q82:Y7 En 45 1=true:=by kernel_rfl
theorem J99:Y7 En 59 6=true:=by kernel_rfl
theorem Zo:sliceB En 45 59 6=true:=by kernel_rfl
theorem R94:Ya8 En 9=true:=by kernel_rfl
theorem Y03:(En.info? 45).bind (fun i=>i.zero.map Value.cells)=some (List.toArray [.slice none 0 0]):=by kernel_rfl
theorem G0e:(En.info? 59).bind (fun i=>i.zero.map Value.cells)=some (List.toArray [.int .u8 0,E0,E0,E0,.int .u8 0,E0]):=by kernel_rfl
theorem H4d:R1 En 59 6=true:=by kernel_rfl
end XMF
open XAF
open XCF
open XSF
open XKF
open XTF
open XUF
open XVF
open XMF

def H1a (x:Int):Option Int:=
 jp (fun c=>
  bif decide (4294967296≤x) then
  (c (Ge9 .u64 x 32,32))
  else
  (c (x,0))) fun(a:Int×Int)=>
 jp (fun d=>
  bif decide (65536≤a.1) then
  (chk (a.2+16) fun k=>
   d (Ge9 .u64 a.1 16,k))
  else
  (d (a.1,a.2))) fun(b:Int×Int)=>
 jp (fun e=>
  bif decide (256≤b.1) then
  (chk (b.2+8) fun f=>
   e (Ge9 .u64 b.1 8,f))
  else
  (e (b.1,b.2))) fun(g:Int×Int)=>
 bnd (Z42 J33 (IntKind.u8.wrap g.1)) fun h=>
 chk (h) fun i=>
 chk (g.2+i) fun j=>
 some j
theorem J84 (x:Int) (r:Int) (h:H1a x=some r):Pure En 136 [.sc (.int .u64 x)] (·=I64 r):=by
 unfold H1a at h
 refine Gx [.tmp 2] Tryz.func136 O O (Jr fun t=>(JLm (I64 0) O (G5 (t ?_))))
 obtain⟨u,f,h⟩:=Rm h
 refine Qi (fun a:Int×Int=>u a=some r) (fun a=>[(0,.sc (.int .u64 a.1)),(2,I64 a.2)]) (fun a=>[]) (fun Kj2 ej2=>?_) ?_
 ·
  refine Jr fun v=>(JLm (.sc (.int .u64 x)) O (JLh (BL (decide (4294967296≤x))) (H24 O O O) O (G5 (v (JCc O h (fun h hb=>?_) (fun h hb=>?_))))))
  ·
   refine Jr fun w=>(JLm (.sc (.int .u64 x)) O (JLh (.sc (.int .u64 (Ge9 .u64 x 32))) (Jbd (s:=32) O O O O) O (JLm (.sc (.int .u64 (Ge9 .u64 x 32))) O (G5 (w (G2 (JLm (I64 32) O (G5 (ej2 _ _ (Ge9 .u64 x 32,32) h ⟨(.sm O O),ø,O⟩)))))))))
  ·
   refine Gm (ej2 _ _ (x,0) h ⟨(.sm O O),ø,O⟩)
 ·intro a h
  replace h:=app1 f h
  obtain⟨y,g,h⟩:=Rm h
  refine Qi (fun b:Int×Int=>y b=some r) (fun b=>[(0,.sc (.int .u64 b.1)),(2,I64 b.2)]) (fun b=>[]) (fun Kj5 ej5=>?_) ?_
  ·
   refine Jr fun z=>(JLm (.sc (.int .u64 a.1)) O (JLh (BL (decide (65536≤a.1))) (H24 O O O) O (G5 (z (JCc O h (fun h hb=>?_) (fun h hb=>?_))))))
   ·
    refine Jr fun a0=>(JLm (.sc (.int .u64 a.1)) O (JLh (.sc (.int .u64 (Ge9 .u64 a.1 16))) (Jbd (s:=16) O O O O) O (JLm (.sc (.int .u64 (Ge9 .u64 a.1 16))) O (G5 (a0 (G2 (JLm (I64 a.2) O ?_)))))))
    obtain⟨i,a1,h⟩:=J0 h
    refine JLh (I64 i) (Ja a1 O O O) O (JLm (I64 i) O (G5 (ej5 _ _ (Ge9 .u64 a.1 16,i) h ⟨(.sm O O),ø,O⟩)))
   ·
    refine Gm (ej5 _ _ (a.1,a.2) h ⟨(.sm O O),ø,O⟩)
  ·intro b h
   replace h:=app1 g h
   obtain⟨a2,j,h⟩:=Rm h
   refine Qi (fun c:Int×Int=>a2 c=some r) (fun c=>[(0,.sc (.int .u64 c.1)),(2,I64 c.2)]) (fun c=>[]) (fun Kj9 ej9=>?_) ?_
   ·
    refine Jr fun k=>(JLm (.sc (.int .u64 b.1)) O (JLh (BL (decide (256≤b.1))) (H24 O O O) O (G5 (k (JCc O h (fun h hb=>?_) (fun h hb=>?_))))))
    ·
     refine Jr fun l=>(JLm (.sc (.int .u64 b.1)) O (JLh (.sc (.int .u64 (Ge9 .u64 b.1 8))) (Jbd (s:=8) O O O O) O (JLm (.sc (.int .u64 (Ge9 .u64 b.1 8))) O (G5 (l (G2 (JLm (I64 b.2) O ?_)))))))
     obtain⟨d,m,h⟩:=J0 h
     refine JLh (I64 d) (Ja m O O O) O (JLm (I64 d) O (G5 (ej9 _ _ (Ge9 .u64 b.1 8,d) h ⟨(.sm O O),ø,O⟩)))
    ·
     refine Gm (ej9 _ _ (b.1,b.2) h ⟨(.sm O O),ø,O⟩)
   ·intro c h
    replace h:=app1 j h
    refine Jr fun n=>(JLm (I64 c.2) O (JLm (.sc (.int .u64 c.1)) O (JLh (U8 (IntKind.u8.wrap c.1)) (Gcd G38 Y07 O O O) O ?_)))
    obtain⟨a3,o,h⟩:=Ge h
    refine JLh (U8 a3) (Rf4 R94 O O O o) O ?_
    obtain⟨a4,p,h⟩:=J0 h
    refine JLh (I64 a4) (Gcd G39 G38 p O O) O ?_
    obtain⟨e,q,h⟩:=J0 h
    refine JLh (I64 e) (Ja q O O O) O (JLm (I64 e) O (G5 (n (Gs (fin1 I64 h)))))

def G33 (x:Int):Option Int:=
 bnd (H1a x) fun a=>
 some a
theorem Hbe (x:Int) (r:Int) (h:G33 x=some r):Pure En 92 [.sc (.int .u64 x)] (·=I64 r):=by
 unfold G33 at h
 refine Gx [.tmp 2] Tryz.func92 O O (Jr fun b=>(JLm (I64 0) O (G5 (b (Js fun c=>G2d O (Gm (c (Jr fun d=>(JLm (.sc (.int .u64 x)) O ?_)))))))))
 obtain⟨a,e,h⟩:=Ge h
 refine JLh (I64 a) (Gu O (J84 x a e) Ra7 ⟨O,O,ø⟩) O (JLm (I64 a) O (G5 (d (Gs (fin1 I64 h)))))

def G05 (kind:Int) (l:List G1) (d:List Move):Option (List Move):=
 each (fun a e (b:(List Move)) c=>
  need (decide ((b.length+[(Move.mk kind a.Box a.Slot 0)].length)*48≤140737488355328∧b.length+[(Move.mk kind a.Box a.Slot 0)].length≤maxLen)) <|
  c (b++[(Move.mk kind a.Box a.Slot 0)]))
 (fun(b:(List Move))=>
  some b) l 0 d
theorem Gbf (kind:Int) (l:List G1) (d:List Move) (r:(List Move)) (h:G05 kind l d=some r):J5 En 55 [U8 kind,E1 l,.ptr 1050 0] [(1050,.box 45 [OW 1051 6 Move.av d]),(1051,.spare 59 6 d.length d.length)] (fun av L'=>av=.tup []∧L'=[(1050,.box 45 [OW 1051 6 Move.av r]),(1051,.spare 59 6 r.length r.length)]):=by
 unfold G05 at h
 refine Jk [1050,1051] [] Tryz.func55 O O (G18 O) (Jr fun v=>(JLm (E1 l) O (JLl H3 O O O fun w=>(JLm (I64 0) O (G5 (v (Gq ?_)))))))
 obtain⟨x,j,k,i,h⟩:=Jc h
 refine Hn (fun c (b:(List Move))=>each x j (List.drop c l) c b=some r) (fun c b=>[(0,U8 kind),(2,.ptr 1050 0),(7,E1 l),(8,Em l.length),(9,Em c)]) (fun c b=>[(1051,.spare 59 6 b.length b.length),(1050,.box 45 [OW 1051 6 Move.av b])]) (fun c=>l.length - c) 0 d h ⟨(.sm O O),⟨⟨_,rfl,.same⟩,fbQ O ⟨.same rfl,ø⟩,ø⟩,rfl⟩ ?_
 clear h
 intro c b e a1 z
 refine Jr fun m=>(JLh (BL (decide ((c:Int) < (l.length:Int)))) (Jo O O O) O (G5 (m (Js fun n=>Gr O (fun hb=>?_) (fun hb=>?_)))))
 ·
  have g:=Q1 hb
  obtain⟨a,a0,o,p,h⟩:=Ht e g
  replace h:=Zn k h
  refine Gm (n (Js fun q=>Gq (Jr fun s=>(JLh (Eh a) (Hb (f:=G1.av) (xs:=l) (y:=a) O O O H3 o O) O (JLh (.agg (G1.cs a)) (Gk Qd O O O) O (JLh (.ptr 1106 0) (Hk 1106 4 Jy O O) O (Ho (u:=.junk) (H7 (u:=.agg (G1.cs a)) (ds:=[I64 a.Box,I64 a.Slot.G3,I64 a.Slot.Tier,U8 a.Slot.Half]) Rk O O O O O O O O) (G5 (s (fzQ [(0,U8 kind),(2,.ptr 1050 0),(6,Eh a),(7,E1 l),(8,Em l.length),(9,Em c)] [(1051,.spare 59 6 b.length b.length),(1050,.box 45 [OW 1051 6 Move.av b])] 1106 rfl rfl rfl ⟨⟨_,rfl,.same⟩,⟨_,rfl,.boxEq rfl rfl⟩,ø⟩ rfl (G2 ?_)))))))))))
  refine JLh (OW 1051 6 Move.av b) (J1 Hfa O O O O) O (JLm (U8 kind) O (JLh (Eh a) (Ga J6 O O O) O (JLh (I64 a.Box) (Gg Gb O O O) O (JLh (.dptr ((G1.cs a).drop 1)) (Ga Jn O O O) O (JLh (.agg ((G1.cs a).drop 1)) (Gk J2 O O O) O (JLh (.agg [U8 kind,I64 a.Box,I64 a.Slot.G3,I64 a.Slot.Tier,U8 a.Slot.Half,I64 0]) (Hg (cs:=[U8 kind,I64 a.Box,I64 a.Slot.G3,I64 a.Slot.Tier,U8 a.Slot.Half,I64 0]) [(0,1),(1,1),(2,3),(5,1)] [U8 0,I64 0,I64 0,I64 0,U8 0,I64 0] [.int .u8 0,E0,E0,E0,.int .u8 0,E0] Yt G0e (zzQ O) O O) O (JLh (Ea [(Move.mk kind a.Box a.Slot 0)]) (He (xs:=[.agg [U8 kind,I64 a.Box,I64 a.Slot.G3,I64 a.Slot.Tier,U8 a.Slot.Half,I64 0]]) O ⟨O,O,ø⟩ Zo H4d O O O O) O ?_)))))))
  obtain⟨t,h⟩:=Ji h
  refine JLh (OW 1051 6 Move.av (b++[(Move.mk kind a.Box a.Slot 0)])) (Yb (f:=Move.av) (xs:=b) (ys:=[(Move.mk kind a.Box a.Slot 0)]) O O O O Zo Q94 t (fun _=>O) (.inl O) O) O (Ho (u:=.junk) (H7 (u:=OW 1051 6 Move.av (b++[(Move.mk kind a.Box a.Slot 0)])) (ds:=[OW 1051 6 Move.av (b++[(Move.mk kind a.Box a.Slot 0)])]) Q82 O O O O O O O O) (G5 (q (G2 (JLh (I64 ((c+1:Nat):Int)) (Ja (Hp g w) O O O) O (JLm (I64 ((c+1:Nat):Int)) O (G5 (z _ _ (c+1) (b++[(Move.mk kind a.Box a.Slot 0)]) (app1 p h) (by omega) ⟨(.sm O O),⟨⟨_,rfl,.same⟩,fbQ O ⟨.same rfl,ø⟩,ø⟩,rfl⟩))))))))
 ·
  have h:=app1 i (Hu e (Hh hb))
  refine Hr ?_
  obtain rfl:=M7 h
  exact⟨[],[(1050,.box 45 [OW 1051 6 Move.av b]),(1051,.spare 59 6 b.length b.length)],⟨⟨_,O,.boxL O ⟨.same O,ø⟩⟩,⟨_,O,.same⟩,ø⟩,O,ø,O,O⟩

def G61 (kind:Int) (l:List Int) (d:List Move):Option (List Move):=
 each (fun b e (a:(List Move)) c=>
  need (decide ((a.length+[(Move.mk kind 0 (Slot.mk 0 0 0) b)].length)*48≤140737488355328∧a.length+[(Move.mk kind 0 (Slot.mk 0 0 0) b)].length≤maxLen)) <|
  c (a++[(Move.mk kind 0 (Slot.mk 0 0 0) b)]))
 (fun(a:(List Move))=>
  some a) l 0 d
theorem Hef (kind:Int) (l:List Int) (d:List Move) (r:(List Move)) (h:G61 kind l d=some r):J5 En 56 [U8 kind,E2 l,.ptr 1050 0] [(1050,.box 45 [OW 1051 6 Move.av d]),(1051,.spare 59 6 d.length d.length)] (fun av L'=>av=.tup []∧L'=[(1050,.box 45 [OW 1051 6 Move.av r]),(1051,.spare 59 6 r.length r.length)]):=by
 unfold G61 at h
 refine Jk [1050,1051] [] Tryz.func56 O O (G18 O) (Jr fun v=>(JLm (E2 l) O (JLl H1 O O O fun w=>(JLm (I64 0) O (G5 (v (Gq ?_)))))))
 obtain⟨x,j,k,i,h⟩:=Jc h
 refine Hn (fun c (a:(List Move))=>each x j (List.drop c l) c a=some r) (fun c a=>[(0,U8 kind),(2,.ptr 1050 0),(7,E2 l),(8,Em l.length),(9,Em c)]) (fun c a=>[(1051,.spare 59 6 a.length a.length),(1050,.box 45 [OW 1051 6 Move.av a])]) (fun c=>l.length - c) 0 d h ⟨(.sm O O),⟨⟨_,rfl,.same⟩,fbQ O ⟨.same rfl,ø⟩,ø⟩,rfl⟩ ?_
 clear h
 intro c a e a1 z
 refine Jr fun m=>(JLh (BL (decide ((c:Int) < (l.length:Int)))) (Jo O O O) O (G5 (m (Js fun n=>Gr O (fun hb=>?_) (fun hb=>?_)))))
 ·
  have g:=Q1 hb
  obtain⟨b,a0,o,p,h⟩:=Ht e g
  replace h:=Zn k h
  refine Gm (n (Js fun q=>Gq (Jr fun s=>(JLh (.dptr [I64 b]) (Hb (f:=I64) (xs:=l) (y:=b) O O O H1 o O) O (JLh (I64 b) (Gg Gb O O O) O (JLm (I64 b) O (G5 (s (G2 ?_)))))))))
  refine JLh (OW 1051 6 Move.av a) (J1 Hfa O O O O) O (JLm (U8 kind) O (JLm (I64 b) O (JLh (.agg [U8 kind,I64 0,I64 0,I64 0,U8 0,I64 b]) (Hg (cs:=[U8 kind,I64 0,I64 0,I64 0,U8 0,I64 b]) [(0,1),(1,1),(2,3),(5,1)] [U8 0,I64 0,I64 0,I64 0,U8 0,I64 0] [.int .u8 0,E0,E0,E0,.int .u8 0,E0] Yt G0e (zzQ O) O O) O (JLh (Ea [(Move.mk kind 0 (Slot.mk 0 0 0) b)]) (He (xs:=[.agg [U8 kind,I64 0,I64 0,I64 0,U8 0,I64 b]]) O ⟨O,O,ø⟩ Zo H4d O O O O) O ?_))))
  obtain⟨t,h⟩:=Ji h
  refine JLh (OW 1051 6 Move.av (a++[(Move.mk kind 0 (Slot.mk 0 0 0) b)])) (Yb (f:=Move.av) (xs:=a) (ys:=[(Move.mk kind 0 (Slot.mk 0 0 0) b)]) O O O O Zo Q94 t (fun _=>O) (.inl O) O) O (Ho (u:=.junk) (H7 (u:=OW 1051 6 Move.av (a++[(Move.mk kind 0 (Slot.mk 0 0 0) b)])) (ds:=[OW 1051 6 Move.av (a++[(Move.mk kind 0 (Slot.mk 0 0 0) b)])]) Q82 O O O O O O O O) (G5 (q (G2 (JLh (I64 ((c+1:Nat):Int)) (Ja (Hp g w) O O O) O (JLm (I64 ((c+1:Nat):Int)) O (G5 (z _ _ (c+1) (a++[(Move.mk kind 0 (Slot.mk 0 0 0) b)]) (app1 p h) (by omega) ⟨(.sm O O),⟨⟨_,rfl,.same⟩,fbQ O ⟨.same rfl,ø⟩,ø⟩,rfl⟩))))))))
 ·
  have h:=app1 i (Hu e (Hh hb))
  refine Hr ?_
  obtain rfl:=M7 h
  exact⟨[],[(1050,.box 45 [OW 1051 6 Move.av a]),(1051,.spare 59 6 a.length a.length)],⟨⟨_,O,.boxL O ⟨.same O,ø⟩⟩,⟨_,O,.same⟩,ø⟩,O,ø,O,O⟩

def R7 (s:List Int) (v:Int):Option Int:=
 each (fun b c (d:Unit) a=>
  bif decide (v=b) then
  (some (c:Int))
  else
  (a ()))
 (fun(d:Unit)=>
  some (-1)) s 0 ()
theorem J54 (s:List Int) (v:Int) (r:Int) (h:R7 s v=some r):Pure En 39 [E2 s,I64 v] (·=I64 r):=by
 unfold R7 at h
 refine Gx [.tmp 4] Tryz.func39 O O (Jr fun w=>(JLm (I64 0) O (G5 (w (Js fun x=>Jr fun z=>(JLm (E2 s) O (JLl H1 O O O fun a0=>(JLm (I64 0) O (G5 (z (Gq ?_)))))))))))
 obtain⟨a1,i,j,g,h⟩:=Jc h
 refine Hn (fun a (b:Unit)=>each a1 i (List.drop a s) a b=some r) (fun a b=>[(0,E2 s),(1,I64 v),(7,Em s.length),(8,Em a)]) (fun a b=>[]) (fun a=>s.length - a) 0 () h ⟨(.sm O O),ø,rfl⟩ ?_
 clear h
 intro a b d a4 a2
 refine Jr fun k=>(JLh (BL (decide ((a:Int) < (s.length:Int)))) (Jo O O O) O (G5 (k (Js fun l=>Gr O (fun hb=>?_) (fun hb=>?_)))))
 ·
  have e:=Q1 hb
  obtain⟨c,a3,m,n,h⟩:=Ht d e
  replace h:=Zn j h
  refine Gm (l (Js fun o=>Gq (Jr fun p=>(JLm (Em a) O (JLm (Em a) O (G5 (p (Jr fun q=>(JLm (I64 v) O (JLm (E2 s) O (JLm (Em a) O (JLh (.dptr [I64 c]) (Hb (f:=I64) (xs:=s) (y:=c) O O O H1 m O) O (JLh (I64 c) (Gg Gb O O O) O (JLh (BL (decide (v=c))) (Qk O O O) O (G5 (q (JCc O h (fun h hb=>?_) (fun h hb=>?_))))))))))))))))))
  ·
   refine Jr fun t=>(JLm (Em a) O (JLm (Em a) O (G5 (t (Gs (fin1 I64 h))))))
  ·
   refine Gm (o (G2 (JLh (I64 ((a+1:Nat):Int)) (Ja (Hp e a0) O O O) O (JLm (I64 ((a+1:Nat):Int)) O (G5 (a2 _ _ (a+1) () (app1 n h) (by omega) ⟨(.sm O O),ø,rfl⟩))))))
 ·
  have h:=app1 g (Hu d (Hh hb))
  refine Hr (x (Jr fun u=>(JLm (I64 (-1)) O (G5 (u (Gs (fin1 I64 h)))))))

def Je (s:List Int) (v:Int):Option Bool:=
 bnd (R7 s v) fun a=>
 some (decide (0≤a))
theorem G0b (s:List Int) (v:Int) (r:Bool) (h:Je s v=some r):Pure En 12 [E2 s,I64 v] (·=BL r):=by
 unfold Je at h
 refine Gx [.tmp 4] Tryz.func12 O O (Jr fun b=>(JLm (BL false) O (G5 (b (Jr fun c=>(JLm (E2 s) O (JLm (I64 v) O ?_)))))))
 obtain⟨a,d,h⟩:=Ge h
 refine JLh (I64 a) (Gu O (J54 s v a d) Y22 ⟨O,O,O,O,ø⟩) O (JLh (BL (decide (0≤a))) (H24 O O O) O (JLm (BL (decide (0≤a))) O (G5 (c (Gs (fin1 BL h))))))

def G46 (x:Int):Option Bool:=
 some (decide (x≠x))
theorem H6d (x:Int) (r:Bool) (h:G46 x=some r):Pure En 164 [U8 x] (·=BL r):=by
 unfold G46 at h
 refine Gx [.tmp 2] Tryz.func164 O O (Jr fun a=>(JLm (BL false) O (G5 (a (Jr fun b=>(JLm (U8 x) O (JLm (U8 x) O (JLh (BL (decide (x≠x))) (Gca O O O) O (JLm (BL (decide (x≠x))) O (G5 (b (Gs (fin1 BL h)))))))))))))

def G1a (x:Int) (y:Int):Option Int:=
 bnd (G46 x) fun b=>
 bnd (G46 y) fun a=>
 bif b then
 (bif a then
  (some 0)
  else
  (some (-1)))
 else
 (bif a then
  (some 1)
  else
  (bif decide (x < y) then
   (some (-1))
   else
   (bif decide (y < x) then
    (some 1)
    else
    (some 0))))
theorem J30 (x:Int) (y:Int) (r:Int) (h:G1a x y=some r):Pure En 140 [U8 x,U8 y] (·=I64 r):=by
 unfold G1a at h
 refine Gx [.tmp 4] Tryz.func140 O O (Jr fun p=>(JLm (I64 0) O (G5 (p (Jr fun q=>(JLm (U8 x) O ?_))))))
 obtain⟨b,s,h⟩:=Ge h
 refine JLh (BL b) (Gu O (H6d x b s) Q34 ⟨O,O,ø⟩) O (JLm (BL b) O (G5 (q (Jr fun t=>(JLm (U8 y) O ?_)))))
 obtain⟨a,u,h⟩:=Ge h
 refine JLh (BL a) (Gu O (H6d y a u) Q34 ⟨O,O,ø⟩) O (JLm (BL a) O (G5 (t (Js fun v=>Jr fun w=>(JLm (BL b) O (G5 (w (JCc O h (fun h hb=>?_) (fun h hb=>?_)))))))))
 ·
  refine Js fun z=>Jr fun a0=>(JLm (BL a) O (G5 (a0 (JCc O h (fun h hb=>?_) (fun h hb=>?_)))))
  ·
   refine Jr fun c=>(JLm (I64 0) O (G5 (c (Gs (fin1 I64 h)))))
  ·
   refine Gm (z (Jr fun d=>(JLm (I64 (-1)) O (G5 (d (Gs (fin1 I64 h)))))))
 ·
  refine Gm (v (Js fun e=>Jr fun f=>(JLm (BL a) O (G5 (f (JCc O h (fun h hb=>?_) (fun h hb=>?_)))))))
  ·
   refine Jr fun g=>(JLm (I64 1) O (G5 (g (Gs (fin1 I64 h)))))
  ·
   refine Gm (e (Js fun i=>Jr fun j=>(JLm (U8 x) O (JLm (U8 y) O (JLh (BL (decide (x < y))) (Jo O O O) O (G5 (j (JCc O h (fun h hb=>?_) (fun h hb=>?_)))))))))
   ·
    refine Jr fun k=>(JLm (I64 (-1)) O (G5 (k (Gs (fin1 I64 h)))))
   ·
    refine Gm (i (Js fun l=>Jr fun m=>(JLm (U8 x) O (JLm (U8 y) O (JLh (BL (decide (y < x))) (H01 O O O) O (G5 (m (JCc O h (fun h hb=>?_) (fun h hb=>?_)))))))))
    ·
     refine Jr fun n=>(JLm (I64 1) O (G5 (n (Gs (fin1 I64 h)))))
    ·
     refine Gm (l (Jr fun o=>(JLm (I64 0) O (G5 (o (Gs (fin1 I64 h)))))))

def Gc0 (vals:List Int):Option Int:=
 each (fun a d (c:Unit) b=>
  bif decide (a≠0) then
  (some a)
  else
  (b ()))
 (fun(c:Unit)=>
  some 0) vals 0 ()
theorem J58 (vals:List Int) (r:Int) (h:Gc0 vals=some r):Pure En 106 [E2 vals] (·=I64 r):=by
 unfold Gc0 at h
 refine Gx [.tmp 2] Tryz.func106 O O (Jr fun u=>(JLm (I64 0) O (G5 (u (Jr fun v=>(JLm (I64 0) O (G5 (v (Js fun w=>Jr fun x=>(JLm (E2 vals) O (JLl H1 O O O fun z=>(JLm (I64 0) O (G5 (x (Gq ?_)))))))))))))))
 obtain⟨a0,i,j,g,h⟩:=Jc h
 refine Hn (fun a (c:Unit)=>each a0 i (List.drop a vals) a c=some r) (fun a c=>[(3,I64 0),(6,E2 vals),(7,Em vals.length),(8,Em a)]) (fun a c=>[]) (fun a=>vals.length - a) 0 () h ⟨(.sm O O),ø,rfl⟩ ?_
 clear h
 intro a c d a3 a1
 refine Jr fun k=>(JLh (BL (decide ((a:Int) < (vals.length:Int)))) (Jo O O O) O (G5 (k (Js fun l=>Gr O (fun hb=>?_) (fun hb=>?_)))))
 ·
  have e:=Q1 hb
  obtain⟨b,a2,m,n,h⟩:=Ht d e
  replace h:=Zn j h
  refine Gm (l (Js fun o=>Gq (Jr fun p=>(JLh (.dptr [I64 b]) (Hb (f:=I64) (xs:=vals) (y:=b) O O O H1 m O) O (JLh (I64 b) (Gg Gb O O O) O (JLm (I64 b) O (G5 (p (Jr fun q=>(JLm (I64 b) O (JLm (I64 0) O (JLh (BL (decide (b≠0))) (Gca O O O) O (G5 (q (JCc O h (fun h hb=>?_) (fun h hb=>?_))))))))))))))))
  ·
   refine Jr fun s=>(JLm (I64 b) O (JLm (I64 b) O (G5 (s (Gs (fin1 I64 h))))))
  ·
   refine Gm (o (G2 (JLh (I64 ((a+1:Nat):Int)) (Ja (Hp e z) O O O) O (JLm (I64 ((a+1:Nat):Int)) O (G5 (a1 _ _ (a+1) () (app1 n h) (by omega) ⟨(.sm O O),ø,rfl⟩))))))
 ·
  have h:=app1 g (Hu d (Hh hb))
  refine Hr (w (Jr fun t=>(JLm (I64 0) O (JLm (I64 0) O (G5 (t (Gs (fin1 I64 h))))))))

def Ga3 (a:Slot) (b:Slot):Option Int:=
 bnd (Qr a.G3 b.G3) fun c=>
 bnd (Qr a.Tier b.Tier) fun d=>
 bnd (G1a a.Half b.Half) fun e=>
 bnd (Gc0 [c,d,e]) fun f=>
 some f
theorem Q20 (a:Slot) (b:Slot) (r:Int) (h:Ga3 a b=some r):Pure En 107 [.agg [I64 a.G3,I64 a.Tier,U8 a.Half],.agg [I64 b.G3,I64 b.Tier,U8 b.Half]] (·=I64 r):=by
 unfold Ga3 at h
 refine Gx [.tmp 4] Tryz.func107 O O (Jr fun g=>(JLh (.ptr 1177 0) (Q4 (cs:=[I64 a.G3,I64 a.Tier,U8 a.Half]) 1177 O O O O O) O (JLh (.ptr 1178 0) (Q4 (cs:=[I64 b.G3,I64 b.Tier,U8 b.Half]) 1178 O O O O O) O (JLm (I64 0) O (G5 (g (Gn [(2,.dptr [I64 a.G3,I64 a.Tier,U8 a.Half]),(3,.ptr 1178 0)] [(1178,.box 57 [I64 b.G3,I64 b.Tier,U8 b.Half])] 1177 rfl rfl rfl ⟨⟨_,rfl,.boxEq rfl rfl⟩,ø⟩ rfl (by exact⟨.ptr,.conv (.same rfl),ø⟩) (Gn [(2,.dptr [I64 a.G3,I64 a.Tier,U8 a.Half]),(3,.dptr [I64 b.G3,I64 b.Tier,U8 b.Half])] [] 1178 rfl rfl rfl ø rfl (by exact⟨.conv (.same rfl),.ptr,ø⟩) (Js fun i=>?_)))))))))
 obtain⟨c,j,h⟩:=Ge h
 obtain⟨d,k,h⟩:=Ge h
 obtain⟨e,l,h⟩:=Ge h
 obtain⟨f,m,h⟩:=Ge h
 refine JC_d0 J9 (by kernel_rfl) (Dq (.dptr [I64 a.G3,I64 a.Tier,U8 a.Half]) (Ga J7 O O O) O (Dq (I64 a.G3) (Gg Gb O O O) O (Dq (.dptr [I64 b.G3,I64 b.Tier,U8 b.Half]) (Ga J7 O O O) O (Dq (I64 b.G3) (Gg Gb O O O) O (Dq (I64 c) (Gu (args:=[I64 a.G3,I64 b.G3]) O (Zm a.G3 b.G3 c j) H29 ⟨O,O,O,O,ø⟩) O (Dq (.dptr [I64 a.Tier,U8 a.Half]) (Ga Qv O O O) O (Dq (I64 a.Tier) (Gg Gb O O O) O (Dq (.dptr [I64 b.Tier,U8 b.Half]) (Ga Qv O O O) O (Dq (I64 b.Tier) (Gg Gb O O O) O (Dq (I64 d) (Gu (args:=[I64 a.Tier,I64 b.Tier]) O (Zm a.Tier b.Tier d k) H29 ⟨O,O,O,O,ø⟩) O (Dq (.dptr [U8 a.Half]) (Ga Qu O O O) O (Dq (U8 a.Half) (Gg Hx O O O) O (Dq (.dptr [U8 b.Half]) (Ga Qu O O O) O ?_)))))))))))))
 refine Dq (U8 b.Half) (Gg Hx O O O) O (Dq (I64 e) (Gu (args:=[U8 a.Half,U8 b.Half]) O (J30 a.Half b.Half e l) Ra4 ⟨O,O,O,O,ø⟩) O (Dq (E2 [c,d,e]) (He (xs:=[I64 c,I64 d,I64 e]) O ⟨O,O,O,O,O,O,ø⟩ H1 Y0 O O O O) O (Dq (I64 f) (Gu (args:=[E2 [c,d,e]]) O (J58 [c,d,e] f m) Q3b ⟨O,O,ø⟩) O (Dq (I64 f) (G7 O O) O (Dnil (i (Gs (fin1 I64 h))))))))

def G2c (a:G1) (b:G1):Option Int:=
 bnd (Qr a.Slot.Tier b.Slot.Tier) fun c=>
 bnd (Ga3 a.Slot b.Slot) fun d=>
 bnd (Gc0 [c,d]) fun e=>
 some e
theorem Hed (a:G1) (b:G1) (r:Int) (h:G2c a b=some r):Pure En 105 [.agg (G1.cs a),.agg (G1.cs b)] (·=I64 r):=by
 unfold G2c at h
 refine Gx [.tmp 4] Tryz.func105 O O (Jr fun f=>(JLh (.ptr 1175 0) (Q4 (cs:=[I64 a.Box,I64 a.Slot.G3,I64 a.Slot.Tier,U8 a.Slot.Half]) 1175 O O O O O) O (JLh (.ptr 1176 0) (Q4 (cs:=[I64 b.Box,I64 b.Slot.G3,I64 b.Slot.Tier,U8 b.Slot.Half]) 1176 O O O O O) O (JLm (I64 0) O (G5 (f (Gn [(2,Eh a),(3,.ptr 1176 0)] [(1176,.box 64 [I64 b.Box,I64 b.Slot.G3,I64 b.Slot.Tier,U8 b.Slot.Half])] 1175 rfl rfl rfl ⟨⟨_,rfl,.boxEq rfl rfl⟩,ø⟩ rfl (by exact⟨.ptr,.conv (.same rfl),ø⟩) (Gn [(2,Eh a),(3,Eh b)] [] 1176 rfl rfl rfl ø rfl (by exact⟨.conv (.same rfl),.ptr,ø⟩) (Js fun g=>?_)))))))))
 obtain⟨c,i,h⟩:=Ge h
 obtain⟨d,j,h⟩:=Ge h
 obtain⟨e,k,h⟩:=Ge h
 refine JC_d0 J9 (by kernel_rfl) (Dq (.dptr ((G1.cs a).drop 1)) (Ga Jn O O O) O (Dq (.dptr [I64 a.Slot.Tier,U8 a.Slot.Half]) (Ga Qv O O O) O (Dq (I64 a.Slot.Tier) (Gg Gb O O O) O (Dq (.dptr ((G1.cs b).drop 1)) (Ga Jn O O O) O (Dq (.dptr [I64 b.Slot.Tier,U8 b.Slot.Half]) (Ga Qv O O O) O (Dq (I64 b.Slot.Tier) (Gg Gb O O O) O (Dq (I64 c) (Gu (args:=[I64 a.Slot.Tier,I64 b.Slot.Tier]) O (Zm a.Slot.Tier b.Slot.Tier c i) H29 ⟨O,O,O,O,ø⟩) O (Dq (.dptr ((G1.cs a).drop 1)) (Ga Jn O O O) O (Dq (.agg ((G1.cs a).drop 1)) (Gk J2 O O O) O (Dq (.dptr ((G1.cs b).drop 1)) (Ga Jn O O O) O (Dq (.agg ((G1.cs b).drop 1)) (Gk J2 O O O) O (Dq (I64 d) (Gu (args:=[.agg ((G1.cs a).drop 1),.agg ((G1.cs b).drop 1)]) O (Q20 a.Slot b.Slot d j) Rb4 ⟨O,O,O,O,ø⟩) O (Dq (E2 [c,d]) (He (xs:=[I64 c,I64 d]) O ⟨O,O,O,O,ø⟩ H1 Y0 O O O O) O ?_)))))))))))))
 refine Dq (I64 e) (Gu (args:=[E2 [c,d]]) O (J58 [c,d] e k) Q3b ⟨O,O,ø⟩) O (Dq (I64 e) (G7 O O) O (Dnil (g (Gs (fin1 I64 h)))))

def Jb (F:Nat) (data:List G1) (a:Int) (b:Int) (cmp:G1→G1→Option Int):Option (List G1):=
 chk (a+1) fun q=>
 loop (fun h (d:Int×(List G1))=>
  bif decide (d.1 < b) then
  (loop (fun g (c:Int×(List G1))=>
    bnd (bif decide (a < c.1) then Qw c.2 c.1 some else some default) fun i=>
    bnd (bif decide (a < c.1) then chk (c.1 - 1) some else some 0) fun j=>
    bnd (bif decide (a < c.1) then Qw c.2 j some else some default) fun k=>
    bnd (bif decide (a < c.1) then cmp i k else some default) fun l=>
    bif ((decide (a < c.1))&&(decide (l < 0))) then
    (chk (c.1 - 1) fun e=>
     chk (c.1 - 1) fun m=>
     Qw c.2 m fun f=>
     Qw c.2 c.1 fun n=>
     Qw c.2 c.1 fun r=>
     Qw (c.2.set c.1.toNat f) e fun s=>
     chk (c.1 - 1) fun o=>
     g (o,((c.2.set c.1.toNat f).set e.toNat n)))
    else
    (chk (d.1+1) fun p=>
     h (p,c.2))) F (d.1,d.2))
  else
  (some d.2)) F (q,data)
theorem Qh (F:Nat) (data:List G1) (data_q:Nat) (a:Int) (b:Int) (cmp:G1→G1→Option Int) (cmp_f:FuncId) (cmp_c:List AV) (cmp_B:H0 En cmp_f=true) (cmp_d:Q9 (fun _=>false) cmp_c=true) (cmp_w:∀ a0 a1 q,cmp a0 a1=some q→Pure En cmp_f ([.agg (G1.cs a0),.agg (G1.cs a1)]++cmp_c) (·=I64 q)) (r:(List G1)) (h:Jb F data a b cmp=some r):J5 En 127 [.vec 1110 data_q 4 data.length,I64 a,I64 b,.fn cmp_f cmp_c] [(1110,.vec 64 4 data_q (data.map G1.av))] (fun av L'=>av=.tup []∧L'=[(1110,.vec 64 4 data_q (r.map G1.av))]):=by
 unfold Jb at h
 refine Jk [1110] [] Tryz.func127 O O (G18 O) (Jr fun c3=>(JLm (I64 a) O ?_))
 obtain⟨v2,c4,h⟩:=J0 h
 refine JLh (I64 v2) (Ja c4 O O O) O (JLm (I64 v2) O (G5 (c3 (Gq ?_))))
 obtain⟨b3,c5,h⟩:=H41 h
 refine Hn (fun o (d:Int×(List G1))=>loop b3 o d=some r) (fun o d=>[(0,.vec 1110 data_q 4 data.length),(1,I64 a),(2,I64 b),(3,.fn cmp_f cmp_c),(8,I64 d.1)]) (fun o d=>[(1110,.vec 64 4 data_q (d.2.map G1.av))]) (fun o=>o) F (v2,data) h ⟨⟨.same O,.same O,.same O,.same (Hi _ _ cmp_d),.same O,ø⟩,⟨⟨_,O,.vec⟩,ø⟩,O⟩ ?_
 clear h
 intro o d c6 K3 e3
 obtain⟨m3,e1,hm_3,c7,h⟩:=Gd3 c6
 replace h:=R11 c5 h
 refine Js fun c8=>Jr fun c9=>(JLm (I64 d.1) O (JLm (I64 b) O (JLh (BL (decide (d.1 < b))) (Jo O O O) O (G5 (c9 (JCc O h (fun h hb=>?_) (fun h hb=>?_)))))))
 ·
  refine Gm (c8 (Js fun d0=>Gq (Jr fun d1=>(JLm (I64 d.1) O (JLm (I64 d.1) O (G5 (d1 (Gq ?_))))))))
  obtain⟨d2,b1,h⟩:=H41 h
  refine Hn (fun g (c:Int×(List G1))=>loop d2 g c=some r) (fun g c=>[(0,.vec 1110 data_q 4 data.length),(1,I64 a),(2,I64 b),(3,.fn cmp_f cmp_c),(8,I64 d.1),(9,I64 c.1)]) (fun g c=>[(1110,.vec 64 4 data_q (c.2.map G1.av))]) (fun g=>g) F (d.1,d.2) h ⟨⟨.same O,.same O,.same O,.same (Hi _ _ cmp_d),.same O,.same O,ø⟩,⟨⟨_,O,.vec⟩,ø⟩,O⟩ ?_
  clear h
  intro g c b2 e2 d3
  obtain⟨d4,e0,hm_58,b4,h⟩:=Gd3 b2
  replace h:=R11 b1 h
  refine Js fun b5=>Js fun b6=>Qs (l':=[(0,.vec 1110 data_q 4 data.length),(1,I64 a),(2,I64 b),(3,.fn cmp_f cmp_c),(8,I64 d.1),(9,I64 c.1)]) (L':=[(1110,.vec 64 4 data_q (c.2.map G1.av))]) ⟨⟨.same O,.same O,.same O,.same (Hi _ _ cmp_d),.same O,.same O,ø⟩,⟨⟨_,O,.vec⟩,ø⟩,O⟩ ?_
  obtain⟨j,l,h⟩:=Ge h
  obtain⟨a8,b7,h⟩:=Ge h
  obtain⟨k,m,h⟩:=Ge h
  obtain⟨p,b8,h⟩:=Ge h
  refine JC_d0 J9 (by kernel_rfl) (Dq (I64 c.1) (G6 O O) O (Dq (I64 a) (G6 O O) O (Dq (BL (decide (a < c.1))) (H01 O O O) O (Dq (BL (decide (a < c.1))) (G6 O O) O (Do (.fn cmp_f cmp_c) [] O .sct ø (fun hc=>G6 O O) O (Do (.vec 1110 data_q 4 data.length) [] O .sct ø (fun hc=>G6 O O) O (Do (I64 c.1) [] O .sct ø (fun hc=>G6 O O) O (Do (.vptr 1110 data_q c.1.toNat 0) [23,24] O .sct ⟨Ua,Ua,ø⟩ (fun hc=>Gc2 (f:=G1.av) (xs:=c.2) (y:=j) O O O O H3 (G9f (H4 hc l)) (J0e (H4 hc l))) O (Do (.agg (G1.cs j)) [25] O .sct ⟨Ua,ø⟩ (fun hc=>Hc4 (f:=G1.av) (xs:=c.2) (y:=j) Qd O O O (G9f (H4 hc l)) O O) O (Do (.vec 1110 data_q 4 data.length) [] O .sct ø (fun hc=>G6 O O) O (Do (I64 c.1) [] O .sct ø (fun hc=>G6 O O) O (Do (I64 a8) [28] O .sct ⟨Ua,ø⟩ (fun hc=>G84 (He6 (H4 hc b7)) O O O) O (Do (.vptr 1110 data_q a8.toNat 0) [27,29] O .sct ⟨Ua,Ua,ø⟩ (fun hc=>Gc2 (f:=G1.av) (xs:=c.2) (y:=k) O O O O H3 (G9f (H4 hc m)) (J0e (H4 hc m))) O ?_)))))))))))))
  refine Do (.agg (G1.cs k)) [30] O .sct ⟨Ua,ø⟩ (fun hc=>Hc4 (f:=G1.av) (xs:=c.2) (y:=k) Qd O O O (G9f (H4 hc m)) O O) O (Do (I64 p) [22,26,31] O .sct ⟨Ua,Ua,Ua,ø⟩ (fun hc=>G1b (args:=[.agg (G1.cs j),.agg (G1.cs k)]) (caps:=cmp_c) O O (cmp_w j k _ (H4 hc b8)) cmp_B ⟨O,O,O,O,ø⟩ cmp_d) O (Do (BL (decide (p < 0))) [32] O .sct ⟨Ua,ø⟩ (fun hc=>Jo O O O) O (Dq (BL ((decide (a < c.1))&&(decide (p < 0)))) (Y4 O O O O) O (Dnil (b6 (JCc O h (fun h hb=>?_) (fun h hb=>?_)))))))
  ·
   refine Gm (b5 (Js fun b9=>Gq (Qs (l':=[(0,.vec 1110 data_q 4 data.length),(1,I64 a),(2,I64 b),(3,.fn cmp_f cmp_c),(8,I64 d.1),(9,I64 c.1)]) (L':=[(1110,.vec 64 4 data_q (c.2.map G1.av))]) ⟨⟨.same O,.same O,.same O,.same (Hi _ _ cmp_d),.same O,.same O,ø⟩,⟨⟨_,O,.vec⟩,ø⟩,O⟩ ?_)))
   obtain⟨n,s,h⟩:=J0 h
   obtain⟨a9,c0,h⟩:=J0 h
   obtain⟨e,a4,t,h⟩:=Gbb h
   obtain⟨i,a5,v,h⟩:=Gbb h
   obtain⟨d5,a6,w,h⟩:=Gbb h
   obtain⟨d6,a7,x,h⟩:=Gbb h
   refine Jq [15,17] [0,0,0,0,0,0,0,0,0,0,0,0,0,0,0,0,1,0] [0,0,1,1,1,0,0,0,0,0,0,0,0,0,0,0,1,0] [[(1110,.vec 64 4 data_q (c.2.map G1.av))],((1110,.vec 64 4 data_q ((c.2.set c.1.toNat e).map G1.av))::[(1110,.vec 64 4 data_q (c.2.map G1.av))]),((1110,.vec 64 4 data_q (((c.2.set c.1.toNat e).set n.toNat i).map G1.av))::((1110,.vec 64 4 data_q ((c.2.set c.1.toNat e).map G1.av))::[(1110,.vec 64 4 data_q (c.2.map G1.av))]))] J9 (by kernel_rfl) rfl rfl ?_
   refine Gd (u:=.vec 1110 data_q 4 data.length) O O ⟨Gh (G6 O O) O,ø⟩ (Gd (u:=I64 c.1) O O ⟨Gh (G6 O O) O,ø⟩ (Gd (u:=.vec 1110 data_q 4 data.length) O O ⟨Gh (G6 O O) O,Gh (G6 O O) O,ø⟩ (Gd (u:=I64 c.1) O O ⟨Gh (G6 O O) O,Gh (G6 O O) O,ø⟩ (Gd (u:=I64 n) O O ⟨Gh (G84 s O O O) O,Gh (G84 s O O O) O,ø⟩ (Gd (u:=.vec 1110 data_q 4 data.length) O O ⟨Gh (G6 O O) O,ø⟩ (Gd (u:=I64 c.1) O O ⟨Gh (G6 O O) O,ø⟩ (Gd (u:=I64 a9) O O ⟨Gh (G84 c0 O O O) O,ø⟩ (Gd (u:=.vptr 1110 data_q a9.toNat 0) O O ⟨Gh (Gc2 (f:=G1.av) (xs:=c.2) (y:=e) O O O O H3 t a4) O,ø⟩ (Gd (u:=.agg (G1.cs e)) O O ⟨Gh (Hc4 (f:=G1.av) (xs:=c.2) (y:=e) Qd O O O t O O) O,ø⟩ (Gd (u:=.vec 1110 data_q 4 data.length) O O ⟨Gh (G6 O O) O,ø⟩ (Gd (u:=I64 c.1) O O ⟨Gh (G6 O O) O,ø⟩ (Gd (u:=.vptr 1110 data_q c.1.toNat 0) O O ⟨Gh (Gc2 (f:=G1.av) (xs:=c.2) (y:=i) O O O O H3 v a5) O,ø⟩ (Gd (u:=.agg (G1.cs i)) O O ⟨Gh (Hc4 (f:=G1.av) (xs:=c.2) (y:=i) Qd O O O v O O) O,ø⟩ ?_)))))))))))))
   refine Gd (u:=.vptr 1110 data_q c.1.toNat 0) O O ⟨Gh (Gc2 (f:=G1.av) (xs:=c.2) (y:=d5) O O O O H3 w a6) O,ø⟩ (H3a (u:=.junk) O O O O (Gh (J7a (f:=G1.av) (xs:=c.2) (z:=e) Rk O O O O (M5 w).1 O O O O) O) (Gd (u:=.vptr 1110 data_q n.toNat 0) O O ⟨Gh (Gc2 (f:=G1.av) (xs:=(c.2.set c.1.toNat e)) (y:=d6) O O O O H3 x a7) O,ø⟩ (H3a (u:=.junk) O O O O (Gh (J7a (f:=G1.av) (xs:=(c.2.set c.1.toNat e)) (z:=i) Rk O O O O (M5 x).1 O O O O) O) (Rj (b9 (G2 (JLm (I64 c.1) O ?_)))))))
   obtain⟨a2,c1,h⟩:=J0 h
   refine JLh (I64 a2) (G84 c1 O O O) O (JLm (I64 a2) O (G5 (d3 _ _ d4 (a2,((c.2.set c.1.toNat e).set n.toNat i)) (app1 b4 h) (by omega) ⟨⟨.same rfl,.same rfl,.same rfl,.same (Hi _ _ cmp_d),.same rfl,.same rfl,ø⟩,⟨⟨_,rfl,.vec⟩,ø⟩,rfl⟩)))
  ·
   refine Hr (d0 (G2 (JLm (I64 d.1) O ?_)))
   obtain⟨a3,c2,h⟩:=J0 h
   refine JLh (I64 a3) (Ja c2 O O O) O (JLm (I64 a3) O (G5 (e3 _ _ m3 (a3,c.2) (app1 c7 h) (by omega) ⟨⟨.same rfl,.same rfl,.same rfl,.same (Hi _ _ cmp_d),.same rfl,ø⟩,⟨⟨_,rfl,.vec⟩,ø⟩,rfl⟩)))
 ·
  refine Hr ?_
  obtain rfl:=M7 h
  exact⟨[],[(1110,.vec 64 4 data_q (d.2.map G1.av))],⟨⟨_,O,.vec⟩,ø⟩,O,ø,O,O⟩

def Rc (F:Nat) (data:List G1) (a:Int) (b:Int) (limit:Int) (cmp:G1→G1→Option Int):Option (List G1):=
 loop (fun f (c:Int×Int×Int×Bool×Bool)=>
  chk (c.2.1 - c.1) fun d=>
  bif decide (d≤12) then
  (bnd (Jb F data c.1 c.2.1 cmp) fun e=>
   some e)
  else
  (bif decide (c.2.2.1=0) then
   (none)
   else
   (bif (!c.2.2.2.1) then
    (none)
    else
    (none)))) F (a,b,limit,true,true)
theorem G57 (F:Nat) (data:List G1) (data_q:Nat) (a:Int) (b:Int) (limit:Int) (cmp:G1→G1→Option Int) (cmp_f:FuncId) (cmp_c:List AV) (cmp_B:H0 En cmp_f=true) (cmp_d:Q9 (fun _=>false) cmp_c=true) (cmp_w:∀ a0 a1 q,cmp a0 a1=some q→Pure En cmp_f ([.agg (G1.cs a0),.agg (G1.cs a1)]++cmp_c) (·=I64 q)) (r:(List G1)) (h:Rc F data a b limit cmp=some r):J5 En 91 [.vec 1110 data_q 4 data.length,I64 a,I64 b,I64 limit,.fn cmp_f cmp_c] [(1110,.vec 64 4 data_q (data.map G1.av))] (fun av L'=>av=.tup []∧L'=[(1110,.vec 64 4 data_q (r.map G1.av))]):=by
 unfold Rc at h
 refine Jk [1110] [] Tryz.func91 O O (G18 O) (Jr fun v=>(JLm (BL true) O (G5 (v (Jr fun w=>(JLm (BL true) O (G5 (w (Gq ?_)))))))))
 obtain⟨x,g,h⟩:=H41 h
 refine Hn (fun d (c:Int×Int×Int×Bool×Bool)=>loop x d c=some r) (fun d c=>[(0,.vec 1110 data_q 4 data.length),(1,I64 c.1),(2,I64 c.2.1),(3,I64 c.2.2.1),(4,.fn cmp_f cmp_c),(10,BL c.2.2.2.1),(11,BL c.2.2.2.2)]) (fun d c=>[(1110,.vec 64 4 data_q (data.map G1.av))]) (fun d=>d) F (a,b,limit,true,true) h ⟨⟨.same O,.same O,.same O,.same O,.same (Hi _ _ cmp_d),.same O,.same O,ø⟩,⟨⟨_,O,.vec⟩,ø⟩,O⟩ ?_
 clear h
 intro d c i a5 a6
 obtain⟨a7,y,hm_23,z,h⟩:=Gd3 i
 replace h:=R11 g h
 refine Gq (Jr fun j=>(JLm (I64 c.2.1) O (JLm (I64 c.1) O ?_)))
 obtain⟨e,k,h⟩:=J0 h
 refine JLh (I64 e) (G84 k O O O) O (JLm (I64 e) O (G5 (j (Js fun l=>Jr fun m=>(JLm (I64 e) O (JLh (BL (decide (e≤12))) (Hc5 O O O) O (G5 (m (JCc O h (fun h hb=>?_) (fun h hb=>?_))))))))))
 ·
  refine Jr fun n=>(JLm (.vec 1110 data_q 4 data.length) O (JLm (I64 c.1) O (JLm (I64 c.2.1) O (JLm (.fn cmp_f cmp_c) O ?_))))
  obtain⟨f,o,h⟩:=Ge h
  refine JLh (.tup []) (Yv (args:=[.vec 1110 data_q 4 data.length,I64 c.1,I64 c.2.1,.fn cmp_f cmp_c]) (L0:=[(1110,.vec 64 4 data_q (data.map G1.av))]) (Lr:=[(1110,.vec 64 4 data_q (f.map G1.av))]) O (Qh F data data_q c.1 c.2.1 cmp cmp_f cmp_c cmp_B cmp_d cmp_w f o) J3c ⟨.inl O,O,.inl O,O,.inl O,O,.inl O,(Hi _ _ cmp_d),ø⟩ ⟨O,ø⟩ O O O) O (G5 (n (Gs ?_)))
  obtain rfl:=M7 h
  exact⟨[],[(1110,.vec 64 4 data_q (f.map G1.av))],⟨⟨_,O,.vec⟩,ø⟩,O,ø,O,O⟩
 ·
  refine Gm (l (Js fun p=>Jr fun s=>(JLm (I64 c.2.2.1) O (JLh (BL (decide (c.2.2.1=0))) (Qk O O O) O (G5 (s (JCc O h (fun h hb=>?_) (fun h hb=>?_))))))))
  ·
   refine Js fun a2=>?_
   cases h
  ·
   refine Gm (p (Js fun t=>Jr fun u=>(JLm (BL c.2.2.2.1) O (JLh (BL (!c.2.2.2.1)) (Y8 (b:=c.2.2.2.1) O O) O (G5 (u (JCc O h (fun h hb=>?_) (fun h hb=>?_))))))))
   ·
    refine Js fun a3=>?_
    cases h
   ·
    refine Gm (t (Js fun a4=>?_))
    cases h

def Rr (F:Nat) (x:List G1) (cmp:G1→G1→Option Int):Option (List G1):=
 bnd (G33 (IntKind.u64.wrap (x.length:Int))) fun a=>
 bnd (Rc F x 0 (x.length:Int) a cmp) fun b=>
 some b
theorem Ga5 (F:Nat) (x:List G1) (x_q:Nat) (cmp:G1→G1→Option Int) (cmp_f:FuncId) (cmp_c:List AV) (cmp_B:H0 En cmp_f=true) (cmp_d:Q9 (fun _=>false) cmp_c=true) (cmp_w:∀ a0 a1 q,cmp a0 a1=some q→Pure En cmp_f ([.agg (G1.cs a0),.agg (G1.cs a1)]++cmp_c) (·=I64 q)) (r:(List G1)) (h:Rr F x cmp=some r):J5 En 45 [.vec 1110 x_q 4 x.length,.fn cmp_f cmp_c] [(1110,.vec 64 4 x_q (x.map G1.av))] (fun av L'=>av=.tup []∧L'=[(1110,.vec 64 4 x_q (r.map G1.av))]):=by
 unfold Rr at h
 refine Jk [1110] [] Tryz.func45 O O (G18 O) (Jr fun c=>(JLm (.vec 1110 x_q 4 x.length) O (Jf5 (f:=G1.av) (xs:=x) H3 O O O (fun g=>?_) O O O)))
 refine JLm (Em x.length) O (G5 (c (G2 (JLm (.vec 1110 x_q 4 x.length) O (JLm (Em x.length) O (JLm (Em x.length) O (JLh (.sc (.int .u64 (IntKind.u64.wrap (x.length:Int)))) (Gcd Q88 G39 O O O) O ?_)))))))
 obtain⟨a,d,h⟩:=Ge h
 refine JLh (I64 a) (Gu O (Hbe (IntKind.u64.wrap (x.length:Int)) a d) Q9b ⟨O,O,ø⟩) O (JLm (.fn cmp_f cmp_c) O ?_)
 obtain⟨b,e,h⟩:=Ge h
 refine JLh (.tup []) (Yv (args:=[.vec 1110 x_q 4 x.length,I64 0,Em x.length,I64 a,.fn cmp_f cmp_c]) (L0:=[(1110,.vec 64 4 x_q (x.map G1.av))]) (Lr:=[(1110,.vec 64 4 x_q (b.map G1.av))]) O (G57 F x x_q 0 (x.length:Int) a cmp cmp_f cmp_c cmp_B cmp_d cmp_w b e) Y0a ⟨.inl O,O,.inl O,O,.inl O,O,.inl O,O,.inl O,(Hi _ _ cmp_d),ø⟩ ⟨O,ø⟩ O O O) O (G5 ?_)
 obtain rfl:=M7 h
 exact⟨[],[(1110,.vec 64 4 x_q (b.map G1.av))],⟨⟨_,O,.vec⟩,ø⟩,O,ø,O,O⟩

def G00 (F:Nat) (l:List G1) (compare:G1→G1→Option Int):Option (List G1):=
 bnd (Rr F l compare) fun a=>
 some a
theorem G25 (F:Nat) (l:List G1) (l_q:Nat) (compare:G1→G1→Option Int) (compare_f:FuncId) (compare_c:List AV) (compare_B:H0 En compare_f=true) (compare_d:Q9 (fun _=>false) compare_c=true) (compare_w:∀ a0 a1 q,compare a0 a1=some q→Pure En compare_f ([.agg (G1.cs a0),.agg (G1.cs a1)]++compare_c) (·=I64 q)) (r:(List G1)) (h:G00 F l compare=some r):J5 En 104 [.vec 1110 l_q 4 l.length,.fn compare_f compare_c] [(1110,.vec 64 4 l_q (l.map G1.av))] (fun av L'=>∃ p:Nat,av=.vec 1110 p 4 r.length∧L'=[(1110,.vec 64 4 p (r.map G1.av))]):=by
 unfold G00 at h
 refine Jk [1110] [.tmp 4] Tryz.func104 O O (G18 O) (Jr fun b=>(JLh (.vec 1174 (([]:List G1).length) 4 (([]:List G1).length)) (G93 1174 64 4 O O O) O (G5 (b (Jr fun c=>(JLm (.vec 1110 l_q 4 l.length) O (JLm (.fn compare_f compare_c) O ?_)))))))
 obtain⟨a,d,h⟩:=Ge h
 refine JLh (.tup []) (Yv (args:=[.vec 1110 l_q 4 l.length,.fn compare_f compare_c]) (L0:=[(1110,.vec 64 4 l_q (l.map G1.av))]) (Lr:=[(1110,.vec 64 4 l_q (a.map G1.av))]) O (Ga5 F l l_q compare compare_f compare_c compare_B compare_d compare_w a d) Ja2 ⟨.inl O,O,.inl O,(Hi _ _ compare_d),ø⟩ ⟨O,ø⟩ O O O) O (G5 (c (Jr fun e=>(JLm (.vec 1110 l_q 4 l.length) O (JLm (.vec 1110 l_q 4 l.length) O (G5 (e (G52 4 O O (fun hn_=>Gs ?_)))))))))
 obtain rfl:=M7 h
 exact⟨[.vec 1110 l_q 4 l.length],[(1110,.vec 64 4 l_q (a.map G1.av))],⟨⟨_,O,.vec⟩,ø⟩,O,⟨⟨_,O,.conv (.same O)⟩,ø⟩,l_q,congrArg (fun n_:Nat=>(.vec 1110 l_q 4 n_:AV)) (hn_.trans (Mm _)),O⟩

def Zj (F:Nat) (s:Gi) (l:List G1) (lf:List Int) (bay:Int) (deck:Bool):Option (List G1):=
 each (fun b i (a:(List G1)) e=>
  jp (fun d=>
   Qw s.Columns b.Slot.G3 fun c=>
   bnd (bif ((decide (c.Bay=bay))&&(c.Deck==deck)) then Je lf b.Box else some default) fun f=>
   bif (((decide (c.Bay=bay))&&(c.Deck==deck))&&f) then
   (need (decide ((a.length+[b].length)*32≤140737488355328∧a.length+[b].length≤maxLen)) <|
    d (a++[b]))
   else
   (d a)) fun(g:(List G1))=>
  e g)
 (fun(a:(List G1))=>
  bnd (G00 F a (fun z0 z1=>G2c z0 z1)) fun h=>
  some h) l 0 []
theorem H9e (F:Nat) (s:Gi) (l:List G1) (lf:List Int) (bay:Int) (deck:Bool) (r:(List G1)) (h:Zj F s l lf bay deck=some r):Pure En 58 [.agg (Gi.cs s),E1 l,E2 lf,I64 bay,BL deck] (·=E1 r):=by
 unfold Zj at h
 refine Gx [.tmp 10] Tryz.func58 O O (Jr fun b1=>(JLh (.ptr 1108 0) (Q4 (cs:=(Gi.cs s)) 1108 O O O O O) O (JLh (E1 ([]:List G1)) (Jh 4 O O) O (G5 (b1 (fzQ [(1,E1 l),(2,E2 lf),(3,I64 bay),(4,BL deck),(5,Ee s)] [] 1108 rfl rfl rfl ø rfl (Jr fun b2=>(JLh (.vec 1110 (([]:List G1).length) 4 (([]:List G1).length)) (G93 1110 64 4 O O O) O (G5 (b2 (Js fun b3=>?_)))))))))))
 refine Jr fun b4=>(JLm (E1 l) O (JLl H3 O O O fun o=>(JLm (I64 0) O (G5 (b4 (Gq ?_))))))
 obtain⟨b5,t,v,m,h⟩:=Jc h
 refine Hn (fun d (a:(List G1))=>each b5 t (List.drop d l) d a=some r) (fun d a=>[(2,E2 lf),(3,I64 bay),(4,BL deck),(5,Ee s),(11,.vec 1110 a.length 4 a.length),(15,E1 l),(16,Em l.length),(17,Em d)]) (fun d a=>[(1110,.vec 64 4 a.length (a.map G1.av))]) (fun d=>l.length - d) 0 [] h ⟨(.sm O O),⟨⟨_,rfl,.vec⟩,ø⟩,rfl⟩ ?_
 clear h
 intro d a i b9 b6
 refine Jr fun w=>(JLh (BL (decide ((d:Int) < (l.length:Int)))) (Jo O O O) O (G5 (w (Js fun x=>Gr O (fun hb=>?_) (fun hb=>?_)))))
 ·
  have j:=Q1 hb
  obtain⟨b,b8,z,a0,h⟩:=Ht i j
  replace h:=Zn v h
  refine Gm (x ?_)
  obtain⟨a1,n,h⟩:=Rm h
  refine Qi (fun e:(List G1)=>a1 e=some r) (fun e=>[(2,E2 lf),(3,I64 bay),(4,BL deck),(5,Ee s),(11,.vec 1110 e.length 4 e.length),(15,E1 l),(16,Em l.length),(17,Em d)]) (fun e=>[(1110,.vec 64 4 e.length (e.map G1.av))]) (fun Kj52 ej52=>?_) ?_
  ·
   refine Gq (Jr fun a2=>(JLh (Eh b) (Hb (f:=G1.av) (xs:=l) (y:=b) O O O H3 z O) O (JLh (.agg (G1.cs b)) (Gk Qd O O O) O (JLh (.ptr 1111 0) (Hk 1111 4 Jy O O) O (Ho (u:=.junk) (H7 (u:=.agg (G1.cs b)) (ds:=[I64 b.Box,I64 b.Slot.G3,I64 b.Slot.Tier,U8 b.Slot.Half]) Rk O O O O O O O O) (G5 (a2 (fzQ [(2,E2 lf),(3,I64 bay),(4,BL deck),(5,Ee s),(11,.vec 1110 a.length 4 a.length),(13,Eh b),(15,E1 l),(16,Em l.length),(17,Em d)] [(1110,.vec 64 4 a.length (a.map G1.av))] 1111 rfl rfl rfl ⟨⟨_,rfl,.vec⟩,ø⟩ rfl ?_))))))))
   refine Jr fun a3=>(JLh (Ee s) (Ga J8 O O O) O (JLh (E3 s.Columns) (Gg Jp O O O) O (JLh (.dptr ((G1.cs b).drop 1)) (Ga Jn O O O) O (JLh (.dptr ((G1.cs b).drop 1)) (Ga J7 O O O) O (JLh (I64 b.Slot.G3) (Gg Gb O O O) O ?_)))))
   obtain⟨c0,c,a4,a5,h⟩:=Yc h
   refine JLh (Ej c) (Hb (f:=G3.av) (xs:=s.Columns) (y:=c) O O O Hy a5 a4) O (JLh (.agg (G3.cs c)) (Gk Gb3 O O O) O (JLh (.ptr 1112 0) (Hk 1112 12 G35 O O) O (Ho (u:=.junk) (H7 (u:=.agg (G3.cs c)) (ds:=(G3.cs c)) H27 O O O O O O O O) (G5 (a3 ?_)))))
   refine fzQ [(2,E2 lf),(3,I64 bay),(4,BL deck),(5,Ee s),(11,.vec 1110 a.length 4 a.length),(13,Eh b),(14,Ej c),(15,E1 l),(16,Em l.length),(17,Em d)] [(1110,.vec 64 4 a.length (a.map G1.av))] 1112 rfl rfl rfl ⟨⟨_,rfl,.vec⟩,ø⟩ rfl ?_
   refine Jr fun a6=>(JLh (Ej c) (Ga G20 O O O) O (JLh (I64 c.Bay) (Gg Gb O O O) O (JLm (I64 bay) O (JLh (BL (decide (c.Bay=bay))) (Qk O O O) O (JLm (BL (decide (c.Bay=bay))) O (JLo (.dptr ((G3.cs c).drop 2)) [] O .sct ø (fun hc=>Ga Yj O O O) O (JLo (BL c.Deck) [33] O .sct ⟨Ua,ø⟩ (fun hc=>Gg Qb O O O) O (JLo (BL deck) [] O .sct ø (fun hc=>G6 O O) O (JLo (BL (c.Deck==deck)) [34,35] O .sct ⟨Ua,Ua,ø⟩ (fun hc=>Q00 H7b O O O) O (JLh (BL ((decide (c.Bay=bay))&&(c.Deck==deck))) (Y4 O O O O) O (JLm (BL ((decide (c.Bay=bay))&&(c.Deck==deck))) O (JLo (E2 lf) [] O .sct ø (fun hc=>G6 O O) O (JLo (Eh b) [] O .sct ø (fun hc=>Ga J6 O O O) O ?_)))))))))))))
   refine JLo (I64 b.Box) [40] O .sct ⟨Ua,ø⟩ (fun hc=>Gg Gb O O O) O ?_
   obtain⟨k,a7,h⟩:=Ge h
   refine JLo (BL k) [39,41] O .sct ⟨Ua,Ua,ø⟩ (fun hc=>Gu (args:=[E2 lf,I64 b.Box]) O (G0b lf b.Box k (H4 hc a7)) Hfd ⟨O,O,O,O,ø⟩) O (JLh (BL (((decide (c.Bay=bay))&&(c.Deck==deck))&&k)) (Y4 O O O O) O (G5 (a6 (JCc O h (fun h hb=>?_) (fun h hb=>?_)))))
   ·
    refine G2 (JLm (.vec 1110 a.length 4 a.length) O (JLh (.agg (G1.cs b)) (Gk Qd O O O) O (JLh (E1 [b]) (He (xs:=[.agg (G1.cs b)]) O ⟨O,O,ø⟩ H3 Jy O O O O) O ?_)))
    obtain⟨a8,h⟩:=Ji h
    refine JLh (.vec 1110 ((a++[b]).length) 4 ((a++[b]).length)) (G4f (f:=G1.av) (xs:=a) (ys:=[b]) (ver:=a.length) (ver1:=(a++[b]).length) rfl rfl rfl rfl H3 Ge6 a8 (fun _=>rfl) (.inl rfl) (by simp)) O (JLm (.vec 1110 ((a++[b]).length) 4 ((a++[b]).length)) O (G5 (ej52 _ _ (a++[b]) h ⟨(.sm O O),⟨⟨_,rfl,.vec⟩,ø⟩,rfl⟩)))
   ·
    refine Gm (ej52 _ _ a h ⟨(.sm O O),⟨⟨_,rfl,.vec⟩,ø⟩,rfl⟩)
  ·intro e h
   replace h:=app1 n h
   refine G2 (JLh (I64 ((d+1:Nat):Int)) (Ja (Hp j o) O O O) O (JLm (I64 ((d+1:Nat):Int)) O (G5 (b6 _ _ (d+1) e (app1 a0 h) (by omega) ⟨(.sm O O),⟨⟨_,rfl,.vec⟩,ø⟩,rfl⟩))))
 ·
  have h:=app1 m (Hu i (Hh hb))
  refine Hr (b3 (Jr fun a9=>(JLm (.vec 1110 a.length 4 a.length) O ?_)))
  obtain⟨g,b0,h⟩:=Ge h
  refine Yf O O O (Ge1 (args:=[.vec 1110 a.length 4 a.length,.fn 105 []]) (L0:=[(1110,.vec 64 4 a.length (a.map G1.av))]) (u:=fun p=>.vec 1110 p 4 g.length) (Lr:=fun p=>[(1110,.vec 64 4 p (g.map G1.av))]) O (G25 F a a.length (fun z0 z1=>G2c z0 z1) 105 [] Q3c O (fun z0 z1 q hq=>Hed z0 z1 q hq) g b0) Q3d ⟨.inl O,O,.inl O,O,ø⟩ ⟨O,ø⟩ O (fun _=>O)) ?_
  rintro u_ L_ ⟨b7,rfl,rfl⟩
  refine JLm (.vec 1110 b7 4 g.length) O (G5 (a9 (Ha1 [(10,E1 g)] [] 1110 rfl rfl ø rfl (by exact⟨.vec,ø⟩) (Gs (fin1 (fun r:(List G1)=>(E1 r:AV)) h)))))

def Zk (a:G1) (b:G1):Option Int:=
 bnd (Qr b.Slot.Tier a.Slot.Tier) fun c=>
 some c
theorem J2f (a:G1) (b:G1) (r:Int) (h:Zk a b=some r):Pure En 103 [.agg (G1.cs a),.agg (G1.cs b)] (·=I64 r):=by
 unfold Zk at h
 refine Gx [.tmp 4] Tryz.func103 O O (Jr fun d=>(JLh (.ptr 1172 0) (Q4 (cs:=[I64 a.Box,I64 a.Slot.G3,I64 a.Slot.Tier,U8 a.Slot.Half]) 1172 O O O O O) O (JLh (.ptr 1173 0) (Q4 (cs:=[I64 b.Box,I64 b.Slot.G3,I64 b.Slot.Tier,U8 b.Slot.Half]) 1173 O O O O O) O (JLm (I64 0) O (G5 (d (Gn [(2,Eh a),(3,.ptr 1173 0)] [(1173,.box 64 [I64 b.Box,I64 b.Slot.G3,I64 b.Slot.Tier,U8 b.Slot.Half])] 1172 rfl rfl rfl ⟨⟨_,rfl,.boxEq rfl rfl⟩,ø⟩ rfl (by exact⟨.ptr,.conv (.same rfl),ø⟩) (Gn [(2,Eh a),(3,Eh b)] [] 1173 rfl rfl rfl ø rfl (by exact⟨.conv (.same rfl),.ptr,ø⟩) ?_))))))))
 refine Jr fun e=>(JLh (.dptr ((G1.cs b).drop 1)) (Ga Jn O O O) O (JLh (.dptr [I64 b.Slot.Tier,U8 b.Slot.Half]) (Ga Qv O O O) O (JLh (I64 b.Slot.Tier) (Gg Gb O O O) O (JLh (.dptr ((G1.cs a).drop 1)) (Ga Jn O O O) O (JLh (.dptr [I64 a.Slot.Tier,U8 a.Slot.Half]) (Ga Qv O O O) O (JLh (I64 a.Slot.Tier) (Gg Gb O O O) O ?_))))))
 obtain⟨c,f,h⟩:=Ge h
 refine JLh (I64 c) (Gu O (Zm b.Slot.Tier a.Slot.Tier c f) H29 ⟨O,O,O,O,ø⟩) O (JLm (I64 c) O (G5 (e (Gs (fin1 I64 h)))))

def Re (F:Nat) (data:List Int) (a:Int) (b:Int) (cmp:Int→Int→Option Int):Option (List Int):=
 chk (a+1) fun q=>
 loop (fun h (d:Int×(List Int))=>
  bif decide (d.1 < b) then
  (loop (fun g (c:Int×(List Int))=>
    bnd (bif decide (a < c.1) then Qw c.2 c.1 some else some default) fun i=>
    bnd (bif decide (a < c.1) then chk (c.1 - 1) some else some 0) fun j=>
    bnd (bif decide (a < c.1) then Qw c.2 j some else some default) fun k=>
    bnd (bif decide (a < c.1) then cmp i k else some default) fun l=>
    bif ((decide (a < c.1))&&(decide (l < 0))) then
    (chk (c.1 - 1) fun e=>
     chk (c.1 - 1) fun m=>
     Qw c.2 m fun f=>
     Qw c.2 c.1 fun n=>
     Qw c.2 c.1 fun r=>
     Qw (c.2.set c.1.toNat f) e fun s=>
     chk (c.1 - 1) fun o=>
     g (o,((c.2.set c.1.toNat f).set e.toNat n)))
    else
    (chk (d.1+1) fun p=>
     h (p,c.2))) F (d.1,d.2))
  else
  (some d.2)) F (q,data)
theorem G58 (F:Nat) (data:List Int) (data_q:Nat) (a:Int) (b:Int) (cmp:Int→Int→Option Int) (cmp_f:FuncId) (cmp_c:List AV) (cmp_B:H0 En cmp_f=true) (cmp_d:Q9 (fun _=>false) cmp_c=true) (cmp_w:∀ a0 a1 q,cmp a0 a1=some q→Pure En cmp_f ([I64 a0,I64 a1]++cmp_c) (·=I64 q)) (r:(List Int)) (h:Re F data a b cmp=some r):J5 En 171 [.vec 1114 data_q 1 data.length,I64 a,I64 b,.fn cmp_f cmp_c] [(1114,.vec 3 1 data_q (data.map I64))] (fun av L'=>av=.tup []∧L'=[(1114,.vec 3 1 data_q (r.map I64))]):=by
 unfold Re at h
 refine Jk [1114] [] Tryz.func171 O O (G18 O) (Jr fun c3=>(JLm (I64 a) O ?_))
 obtain⟨v2,c4,h⟩:=J0 h
 refine JLh (I64 v2) (Ja c4 O O O) O (JLm (I64 v2) O (G5 (c3 (Gq ?_))))
 obtain⟨b3,c5,h⟩:=H41 h
 refine Hn (fun o (d:Int×(List Int))=>loop b3 o d=some r) (fun o d=>[(0,.vec 1114 data_q 1 data.length),(1,I64 a),(2,I64 b),(3,.fn cmp_f cmp_c),(8,I64 d.1)]) (fun o d=>[(1114,.vec 3 1 data_q (d.2.map I64))]) (fun o=>o) F (v2,data) h ⟨⟨.same O,.same O,.same O,.same (Hi _ _ cmp_d),.same O,ø⟩,⟨⟨_,O,.vec⟩,ø⟩,O⟩ ?_
 clear h
 intro o d c6 K3 e3
 obtain⟨m3,e1,hm_3,c7,h⟩:=Gd3 c6
 replace h:=R11 c5 h
 refine Js fun c8=>Jr fun c9=>(JLm (I64 d.1) O (JLm (I64 b) O (JLh (BL (decide (d.1 < b))) (Jo O O O) O (G5 (c9 (JCc O h (fun h hb=>?_) (fun h hb=>?_)))))))
 ·
  refine Gm (c8 (Js fun d0=>Gq (Jr fun d1=>(JLm (I64 d.1) O (JLm (I64 d.1) O (G5 (d1 (Gq ?_))))))))
  obtain⟨d2,b1,h⟩:=H41 h
  refine Hn (fun g (c:Int×(List Int))=>loop d2 g c=some r) (fun g c=>[(0,.vec 1114 data_q 1 data.length),(1,I64 a),(2,I64 b),(3,.fn cmp_f cmp_c),(8,I64 d.1),(9,I64 c.1)]) (fun g c=>[(1114,.vec 3 1 data_q (c.2.map I64))]) (fun g=>g) F (d.1,d.2) h ⟨⟨.same O,.same O,.same O,.same (Hi _ _ cmp_d),.same O,.same O,ø⟩,⟨⟨_,O,.vec⟩,ø⟩,O⟩ ?_
  clear h
  intro g c b2 e2 d3
  obtain⟨d4,e0,hm_58,b4,h⟩:=Gd3 b2
  replace h:=R11 b1 h
  refine Js fun b5=>Js fun b6=>Qs (l':=[(0,.vec 1114 data_q 1 data.length),(1,I64 a),(2,I64 b),(3,.fn cmp_f cmp_c),(8,I64 d.1),(9,I64 c.1)]) (L':=[(1114,.vec 3 1 data_q (c.2.map I64))]) ⟨⟨.same O,.same O,.same O,.same (Hi _ _ cmp_d),.same O,.same O,ø⟩,⟨⟨_,O,.vec⟩,ø⟩,O⟩ ?_
  obtain⟨j,l,h⟩:=Ge h
  obtain⟨a8,b7,h⟩:=Ge h
  obtain⟨k,m,h⟩:=Ge h
  obtain⟨p,b8,h⟩:=Ge h
  refine JC_d0 J9 (by kernel_rfl) (Dq (I64 c.1) (G6 O O) O (Dq (I64 a) (G6 O O) O (Dq (BL (decide (a < c.1))) (H01 O O O) O (Dq (BL (decide (a < c.1))) (G6 O O) O (Do (.fn cmp_f cmp_c) [] O .sct ø (fun hc=>G6 O O) O (Do (.vec 1114 data_q 1 data.length) [] O .sct ø (fun hc=>G6 O O) O (Do (I64 c.1) [] O .sct ø (fun hc=>G6 O O) O (Do (.vptr 1114 data_q c.1.toNat 0) [23,24] O .sct ⟨Ua,Ua,ø⟩ (fun hc=>Gc2 (f:=I64) (xs:=c.2) (y:=j) O O O O H1 (G9f (H4 hc l)) (J0e (H4 hc l))) O (Do (I64 j) [25] O .sct ⟨Ua,ø⟩ (fun hc=>Jfe (f:=I64) (xs:=c.2) (y:=j) Gb O O O (G9f (H4 hc l)) O O) O (Do (.vec 1114 data_q 1 data.length) [] O .sct ø (fun hc=>G6 O O) O (Do (I64 c.1) [] O .sct ø (fun hc=>G6 O O) O (Do (I64 a8) [28] O .sct ⟨Ua,ø⟩ (fun hc=>G84 (He6 (H4 hc b7)) O O O) O (Do (.vptr 1114 data_q a8.toNat 0) [27,29] O .sct ⟨Ua,Ua,ø⟩ (fun hc=>Gc2 (f:=I64) (xs:=c.2) (y:=k) O O O O H1 (G9f (H4 hc m)) (J0e (H4 hc m))) O ?_)))))))))))))
  refine Do (I64 k) [30] O .sct ⟨Ua,ø⟩ (fun hc=>Jfe (f:=I64) (xs:=c.2) (y:=k) Gb O O O (G9f (H4 hc m)) O O) O (Do (I64 p) [22,26,31] O .sct ⟨Ua,Ua,Ua,ø⟩ (fun hc=>G1b (args:=[I64 j,I64 k]) (caps:=cmp_c) O O (cmp_w j k _ (H4 hc b8)) cmp_B ⟨O,O,O,O,ø⟩ cmp_d) O (Do (BL (decide (p < 0))) [32] O .sct ⟨Ua,ø⟩ (fun hc=>Jo O O O) O (Dq (BL ((decide (a < c.1))&&(decide (p < 0)))) (Y4 O O O O) O (Dnil (b6 (JCc O h (fun h hb=>?_) (fun h hb=>?_)))))))
  ·
   refine Gm (b5 (Js fun b9=>Gq (Qs (l':=[(0,.vec 1114 data_q 1 data.length),(1,I64 a),(2,I64 b),(3,.fn cmp_f cmp_c),(8,I64 d.1),(9,I64 c.1)]) (L':=[(1114,.vec 3 1 data_q (c.2.map I64))]) ⟨⟨.same O,.same O,.same O,.same (Hi _ _ cmp_d),.same O,.same O,ø⟩,⟨⟨_,O,.vec⟩,ø⟩,O⟩ ?_)))
   obtain⟨n,s,h⟩:=J0 h
   obtain⟨a9,c0,h⟩:=J0 h
   obtain⟨e,a4,t,h⟩:=Gbb h
   obtain⟨i,a5,v,h⟩:=Gbb h
   obtain⟨d5,a6,w,h⟩:=Gbb h
   obtain⟨d6,a7,x,h⟩:=Gbb h
   refine Jq [15,17] [0,0,0,0,0,0,0,0,0,0,0,0,0,0,0,0,1,0] [0,0,1,1,1,0,0,0,0,0,0,0,0,0,0,0,1,0] [[(1114,.vec 3 1 data_q (c.2.map I64))],((1114,.vec 3 1 data_q ((c.2.set c.1.toNat e).map I64))::[(1114,.vec 3 1 data_q (c.2.map I64))]),((1114,.vec 3 1 data_q (((c.2.set c.1.toNat e).set n.toNat i).map I64))::((1114,.vec 3 1 data_q ((c.2.set c.1.toNat e).map I64))::[(1114,.vec 3 1 data_q (c.2.map I64))]))] J9 (by kernel_rfl) rfl rfl ?_
   refine Gd (u:=.vec 1114 data_q 1 data.length) O O ⟨Gh (G6 O O) O,ø⟩ (Gd (u:=I64 c.1) O O ⟨Gh (G6 O O) O,ø⟩ (Gd (u:=.vec 1114 data_q 1 data.length) O O ⟨Gh (G6 O O) O,Gh (G6 O O) O,ø⟩ (Gd (u:=I64 c.1) O O ⟨Gh (G6 O O) O,Gh (G6 O O) O,ø⟩ (Gd (u:=I64 n) O O ⟨Gh (G84 s O O O) O,Gh (G84 s O O O) O,ø⟩ (Gd (u:=.vec 1114 data_q 1 data.length) O O ⟨Gh (G6 O O) O,ø⟩ (Gd (u:=I64 c.1) O O ⟨Gh (G6 O O) O,ø⟩ (Gd (u:=I64 a9) O O ⟨Gh (G84 c0 O O O) O,ø⟩ (Gd (u:=.vptr 1114 data_q a9.toNat 0) O O ⟨Gh (Gc2 (f:=I64) (xs:=c.2) (y:=e) O O O O H1 t a4) O,ø⟩ (Gd (u:=I64 e) O O ⟨Gh (Jfe (f:=I64) (xs:=c.2) (y:=e) Gb O O O t O O) O,ø⟩ (Gd (u:=.vec 1114 data_q 1 data.length) O O ⟨Gh (G6 O O) O,ø⟩ (Gd (u:=I64 c.1) O O ⟨Gh (G6 O O) O,ø⟩ (Gd (u:=.vptr 1114 data_q c.1.toNat 0) O O ⟨Gh (Gc2 (f:=I64) (xs:=c.2) (y:=i) O O O O H1 v a5) O,ø⟩ (Gd (u:=I64 i) O O ⟨Gh (Jfe (f:=I64) (xs:=c.2) (y:=i) Gb O O O v O O) O,ø⟩ ?_)))))))))))))
   refine Gd (u:=.vptr 1114 data_q c.1.toNat 0) O O ⟨Gh (Gc2 (f:=I64) (xs:=c.2) (y:=d5) O O O O H1 w a6) O,ø⟩ (H3a (u:=.junk) O O O O (Gh (J7a (f:=I64) (xs:=c.2) (z:=e) G53 O O O O (M5 w).1 O O O O) O) (Gd (u:=.vptr 1114 data_q n.toNat 0) O O ⟨Gh (Gc2 (f:=I64) (xs:=(c.2.set c.1.toNat e)) (y:=d6) O O O O H1 x a7) O,ø⟩ (H3a (u:=.junk) O O O O (Gh (J7a (f:=I64) (xs:=(c.2.set c.1.toNat e)) (z:=i) G53 O O O O (M5 x).1 O O O O) O) (Rj (b9 (G2 (JLm (I64 c.1) O ?_)))))))
   obtain⟨a2,c1,h⟩:=J0 h
   refine JLh (I64 a2) (G84 c1 O O O) O (JLm (I64 a2) O (G5 (d3 _ _ d4 (a2,((c.2.set c.1.toNat e).set n.toNat i)) (app1 b4 h) (by omega) ⟨⟨.same rfl,.same rfl,.same rfl,.same (Hi _ _ cmp_d),.same rfl,.same rfl,ø⟩,⟨⟨_,rfl,.vec⟩,ø⟩,rfl⟩)))
  ·
   refine Hr (d0 (G2 (JLm (I64 d.1) O ?_)))
   obtain⟨a3,c2,h⟩:=J0 h
   refine JLh (I64 a3) (Ja c2 O O O) O (JLm (I64 a3) O (G5 (e3 _ _ m3 (a3,c.2) (app1 c7 h) (by omega) ⟨⟨.same rfl,.same rfl,.same rfl,.same (Hi _ _ cmp_d),.same rfl,ø⟩,⟨⟨_,rfl,.vec⟩,ø⟩,rfl⟩)))
 ·
  refine Hr ?_
  obtain rfl:=M7 h
  exact⟨[],[(1114,.vec 3 1 data_q (d.2.map I64))],⟨⟨_,O,.vec⟩,ø⟩,O,ø,O,O⟩

def Z7 (F:Nat) (data:List Int) (a:Int) (b:Int) (limit:Int) (cmp:Int→Int→Option Int):Option (List Int):=
 loop (fun f (c:Int×Int×Int×Bool×Bool)=>
  chk (c.2.1 - c.1) fun d=>
  bif decide (d≤12) then
  (bnd (Re F data c.1 c.2.1 cmp) fun e=>
   some e)
  else
  (bif decide (c.2.2.1=0) then
   (none)
   else
   (bif (!c.2.2.2.1) then
    (none)
    else
    (none)))) F (a,b,limit,true,true)
theorem Ga4 (F:Nat) (data:List Int) (data_q:Nat) (a:Int) (b:Int) (limit:Int) (cmp:Int→Int→Option Int) (cmp_f:FuncId) (cmp_c:List AV) (cmp_B:H0 En cmp_f=true) (cmp_d:Q9 (fun _=>false) cmp_c=true) (cmp_w:∀ a0 a1 q,cmp a0 a1=some q→Pure En cmp_f ([I64 a0,I64 a1]++cmp_c) (·=I64 q)) (r:(List Int)) (h:Z7 F data a b limit cmp=some r):J5 En 165 [.vec 1114 data_q 1 data.length,I64 a,I64 b,I64 limit,.fn cmp_f cmp_c] [(1114,.vec 3 1 data_q (data.map I64))] (fun av L'=>av=.tup []∧L'=[(1114,.vec 3 1 data_q (r.map I64))]):=by
 unfold Z7 at h
 refine Jk [1114] [] Tryz.func165 O O (G18 O) (Jr fun v=>(JLm (BL true) O (G5 (v (Jr fun w=>(JLm (BL true) O (G5 (w (Gq ?_)))))))))
 obtain⟨x,g,h⟩:=H41 h
 refine Hn (fun d (c:Int×Int×Int×Bool×Bool)=>loop x d c=some r) (fun d c=>[(0,.vec 1114 data_q 1 data.length),(1,I64 c.1),(2,I64 c.2.1),(3,I64 c.2.2.1),(4,.fn cmp_f cmp_c),(10,BL c.2.2.2.1),(11,BL c.2.2.2.2)]) (fun d c=>[(1114,.vec 3 1 data_q (data.map I64))]) (fun d=>d) F (a,b,limit,true,true) h ⟨⟨.same O,.same O,.same O,.same O,.same (Hi _ _ cmp_d),.same O,.same O,ø⟩,⟨⟨_,O,.vec⟩,ø⟩,O⟩ ?_
 clear h
 intro d c i a5 a6
 obtain⟨a7,y,hm_23,z,h⟩:=Gd3 i
 replace h:=R11 g h
 refine Gq (Jr fun j=>(JLm (I64 c.2.1) O (JLm (I64 c.1) O ?_)))
 obtain⟨e,k,h⟩:=J0 h
 refine JLh (I64 e) (G84 k O O O) O (JLm (I64 e) O (G5 (j (Js fun l=>Jr fun m=>(JLm (I64 e) O (JLh (BL (decide (e≤12))) (Hc5 O O O) O (G5 (m (JCc O h (fun h hb=>?_) (fun h hb=>?_))))))))))
 ·
  refine Jr fun n=>(JLm (.vec 1114 data_q 1 data.length) O (JLm (I64 c.1) O (JLm (I64 c.2.1) O (JLm (.fn cmp_f cmp_c) O ?_))))
  obtain⟨f,o,h⟩:=Ge h
  refine JLh (.tup []) (Yv (args:=[.vec 1114 data_q 1 data.length,I64 c.1,I64 c.2.1,.fn cmp_f cmp_c]) (L0:=[(1114,.vec 3 1 data_q (data.map I64))]) (Lr:=[(1114,.vec 3 1 data_q (f.map I64))]) O (G58 F data data_q c.1 c.2.1 cmp cmp_f cmp_c cmp_B cmp_d cmp_w f o) R9b ⟨.inl O,O,.inl O,O,.inl O,O,.inl O,(Hi _ _ cmp_d),ø⟩ ⟨O,ø⟩ O O O) O (G5 (n (Gs ?_)))
  obtain rfl:=M7 h
  exact⟨[],[(1114,.vec 3 1 data_q (f.map I64))],⟨⟨_,O,.vec⟩,ø⟩,O,ø,O,O⟩
 ·
  refine Gm (l (Js fun p=>Jr fun s=>(JLm (I64 c.2.2.1) O (JLh (BL (decide (c.2.2.1=0))) (Qk O O O) O (G5 (s (JCc O h (fun h hb=>?_) (fun h hb=>?_))))))))
  ·
   refine Js fun a2=>?_
   cases h
  ·
   refine Gm (p (Js fun t=>Jr fun u=>(JLm (BL c.2.2.2.1) O (JLh (BL (!c.2.2.2.1)) (Y8 (b:=c.2.2.2.1) O O) O (G5 (u (JCc O h (fun h hb=>?_) (fun h hb=>?_))))))))
   ·
    refine Js fun a3=>?_
    cases h
   ·
    refine Gm (t (Js fun a4=>?_))
    cases h

def Zs (F:Nat) (x:List Int) (cmp:Int→Int→Option Int):Option (List Int):=
 bnd (G33 (IntKind.u64.wrap (x.length:Int))) fun a=>
 bnd (Z7 F x 0 (x.length:Int) a cmp) fun b=>
 some b
theorem H15 (F:Nat) (x:List Int) (x_q:Nat) (cmp:Int→Int→Option Int) (cmp_f:FuncId) (cmp_c:List AV) (cmp_B:H0 En cmp_f=true) (cmp_d:Q9 (fun _=>false) cmp_c=true) (cmp_w:∀ a0 a1 q,cmp a0 a1=some q→Pure En cmp_f ([I64 a0,I64 a1]++cmp_c) (·=I64 q)) (r:(List Int)) (h:Zs F x cmp=some r):J5 En 141 [.vec 1114 x_q 1 x.length,.fn cmp_f cmp_c] [(1114,.vec 3 1 x_q (x.map I64))] (fun av L'=>av=.tup []∧L'=[(1114,.vec 3 1 x_q (r.map I64))]):=by
 unfold Zs at h
 refine Jk [1114] [] Tryz.func141 O O (G18 O) (Jr fun c=>(JLm (.vec 1114 x_q 1 x.length) O (Jf5 (f:=I64) (xs:=x) H1 O O O (fun g=>?_) O O O)))
 refine JLm (Em x.length) O (G5 (c (G2 (JLm (.vec 1114 x_q 1 x.length) O (JLm (Em x.length) O (JLm (Em x.length) O (JLh (.sc (.int .u64 (IntKind.u64.wrap (x.length:Int)))) (Gcd Q88 G39 O O O) O ?_)))))))
 obtain⟨a,d,h⟩:=Ge h
 refine JLh (I64 a) (Gu O (Hbe (IntKind.u64.wrap (x.length:Int)) a d) Q9b ⟨O,O,ø⟩) O (JLm (.fn cmp_f cmp_c) O ?_)
 obtain⟨b,e,h⟩:=Ge h
 refine JLh (.tup []) (Yv (args:=[.vec 1114 x_q 1 x.length,I64 0,Em x.length,I64 a,.fn cmp_f cmp_c]) (L0:=[(1114,.vec 3 1 x_q (x.map I64))]) (Lr:=[(1114,.vec 3 1 x_q (b.map I64))]) O (Ga4 F x x_q 0 (x.length:Int) a cmp cmp_f cmp_c cmp_B cmp_d cmp_w b e) R9c ⟨.inl O,O,.inl O,O,.inl O,O,.inl O,O,.inl O,(Hi _ _ cmp_d),ø⟩ ⟨O,ø⟩ O O O) O (G5 ?_)
 obtain rfl:=M7 h
 exact⟨[],[(1114,.vec 3 1 x_q (b.map I64))],⟨⟨_,O,.vec⟩,ø⟩,O,ø,O,O⟩

def G74 (F:Nat) (l:List Int) (compare:Int→Int→Option Int):Option (List Int):=
 bnd (Zs F l compare) fun a=>
 some a
theorem H5e (F:Nat) (l:List Int) (l_q:Nat) (compare:Int→Int→Option Int) (compare_f:FuncId) (compare_c:List AV) (compare_B:H0 En compare_f=true) (compare_d:Q9 (fun _=>false) compare_c=true) (compare_w:∀ a0 a1 q,compare a0 a1=some q→Pure En compare_f ([I64 a0,I64 a1]++compare_c) (·=I64 q)) (r:(List Int)) (h:G74 F l compare=some r):J5 En 108 [.vec 1114 l_q 1 l.length,.fn compare_f compare_c] [(1114,.vec 3 1 l_q (l.map I64))] (fun av L'=>∃ p:Nat,av=.vec 1114 p 1 r.length∧L'=[(1114,.vec 3 1 p (r.map I64))]):=by
 unfold G74 at h
 refine Jk [1114] [.tmp 4] Tryz.func108 O O (G18 O) (Jr fun b=>(JLh (.vec 1179 (([]:List Int).length) 1 (([]:List Int).length)) (G93 1179 3 1 O O O) O (G5 (b (Jr fun c=>(JLm (.vec 1114 l_q 1 l.length) O (JLm (.fn compare_f compare_c) O ?_)))))))
 obtain⟨a,d,h⟩:=Ge h
 refine JLh (.tup []) (Yv (args:=[.vec 1114 l_q 1 l.length,.fn compare_f compare_c]) (L0:=[(1114,.vec 3 1 l_q (l.map I64))]) (Lr:=[(1114,.vec 3 1 l_q (a.map I64))]) O (H15 F l l_q compare compare_f compare_c compare_B compare_d compare_w a d) Ra3 ⟨.inl O,O,.inl O,(Hi _ _ compare_d),ø⟩ ⟨O,ø⟩ O O O) O (G5 (c (Jr fun e=>(JLm (.vec 1114 l_q 1 l.length) O (JLm (.vec 1114 l_q 1 l.length) O (G5 (e (G52 4 O O (fun hn_=>Gs ?_)))))))))
 obtain rfl:=M7 h
 exact⟨[.vec 1114 l_q 1 l.length],[(1114,.vec 3 1 l_q (a.map I64))],⟨⟨_,O,.vec⟩,ø⟩,O,⟨⟨_,O,.conv (.same O)⟩,ø⟩,l_q,congrArg (fun n_:Nat=>(.vec 1114 l_q 1 n_:AV)) (hn_.trans (Mm _)),O⟩

def G60 (F:Nat) (s:Gi) (bf:List G1) (af:List G1) (lf:List Int) (bay:Int):Option (List Int):=
 each (fun l n (d:(List Int)) f=>
  bnd (Zj F s l lf bay false) fun g=>
  each (fun h m (a:(List Int)) e=>
   jp (fun c=>
    bnd (Rb s h.Slot.G3) fun b=>
    bnd (bif decide (0≤b) then Je a b else some default) fun i=>
    bif ((decide (0≤b))&&(!i)) then
    (need (decide ((a.length+[b].length)*8≤140737488355328∧a.length+[b].length≤maxLen)) <|
     c (a++[b]))
    else
    (c a)) fun(j:(List Int))=>
   e j)
  (fun(a:(List Int))=>
   f a) g 0 d)
 (fun(d:(List Int))=>
  bnd (G74 F d (fun z0 z1=>Qr z0 z1)) fun k=>
  some k) [bf,af] 0 []
theorem Hee (F:Nat) (s:Gi) (bf:List G1) (af:List G1) (lf:List Int) (bay:Int) (r:(List Int)) (h:G60 F s bf af lf bay=some r):Pure En 59 [.agg (Gi.cs s),E1 bf,E1 af,E2 lf,I64 bay] (·=E2 r):=by
 unfold G60 at h
 refine Gx [.tmp 10] Tryz.func59 O O (Jr fun c1=>(JLh (.ptr 1113 0) (Q4 (cs:=(Gi.cs s)) 1113 O O O O O) O (JLh (E2 ([]:List Int)) (Jh 1 O O) O (G5 (c1 (fzQ [(1,E1 bf),(2,E1 af),(3,E2 lf),(4,I64 bay),(5,Ee s)] [] 1113 rfl rfl rfl ø rfl (Jr fun c2=>(JLh (.vec 1114 (([]:List Int).length) 1 (([]:List Int).length)) (G93 1114 3 1 O O O) O (G5 (c2 (Js fun c3=>?_)))))))))))
 refine Jr fun c4=>(JLm (E1 bf) O (JLm (E1 af) O (JLh (LS 1 (E1) [bf,af]) (He (xs:=[E1 bf,E1 af]) O ⟨O,O,O,O,ø⟩ Jz Had O O O O) O (JLl Jz O O O fun a0=>(JLm (I64 0) O (G5 (c4 (Gq ?_))))))))
 obtain⟨b5,c5,c6,a1,h⟩:=Jc h
 refine Hn (fun j (i:(List Int))=>each b5 c5 (List.drop j [bf,af]) j i=some r) (fun j i=>[(3,E2 lf),(4,I64 bay),(5,Ee s),(11,.vec 1114 i.length 1 i.length),(19,LS 1 (E1) [bf,af]),(20,I64 ([bf,af].length:Int)),(21,Em j)]) (fun j i=>[(1114,.vec 3 1 i.length (i.map I64))]) (fun j=>[bf,af].length - j) 0 [] h ⟨(.sm O O),⟨⟨_,rfl,.vec⟩,ø⟩,rfl⟩ ?_
 clear h
 intro j i x K5 e5
 refine Jr fun c7=>(JLh (BL (decide ((j:Int) < ([bf,af].length:Int)))) (Jo O O O) O (G5 (c7 (Js fun c8=>Gr O (fun hb=>?_) (fun hb=>?_)))))
 ·
  have z:=Q1 hb
  obtain⟨n,d9,c9,d0,h⟩:=Ht x z
  replace h:=Zn c6 h
  refine Gm (c8 (Js fun d1=>Gq (Jr fun d2=>(JLh (.dptr [E1 n]) (Hb (f:=(E1)) (xs:=[bf,af]) (y:=n) O O O Jz c9 O) O (JLh (E1 n) (Gg Ze O O O) O (JLm (E1 n) O (G5 (d2 (Jr fun a2=>(JLh (.agg (Gi.cs s)) (Gk Jd O O O) O (JLm (E1 n) O (JLm (E2 lf) O (JLm (I64 bay) O ?_)))))))))))))
  obtain⟨g,a3,h⟩:=Ge h
  refine JLh (E1 g) (Gu O (H9e F s n lf bay false g a3) H84 ⟨O,O,O,O,O,O,O,O,O,O,ø⟩) O (JLl H3 O O O fun a4=>(JLm (I64 0) O (G5 (a2 (Gq ?_)))))
  obtain⟨d3,a5,a6,v,h⟩:=Jc h
  refine Hn (fun d (a:(List Int))=>each d3 a5 (List.drop d g) d a=some r) (fun d a=>[(3,E2 lf),(4,I64 bay),(5,Ee s),(11,.vec 1114 a.length 1 a.length),(19,LS 1 (E1) [bf,af]),(20,I64 ([bf,af].length:Int)),(21,Em j),(29,E1 g),(30,Em g.length),(31,Em d)]) (fun d a=>[(1114,.vec 3 1 a.length (a.map I64))]) (fun d=>g.length - d) 0 i h ⟨(.sm O O),⟨⟨_,rfl,.vec⟩,ø⟩,rfl⟩ ?_
  clear h
  intro d a o e0 d4
  refine Jr fun a7=>(JLh (BL (decide ((d:Int) < (g.length:Int)))) (Jo O O O) O (G5 (a7 (Js fun a8=>Gr O (fun hb=>?_) (fun hb=>?_)))))
  ·
   have t:=Q1 hb
   obtain⟨e,d8,a9,b0,h⟩:=Ht o t
   replace h:=Zn a6 h
   refine Gm (a8 ?_)
   obtain⟨b1,w,h⟩:=Rm h
   refine Qi (fun k:(List Int)=>b1 k=some r) (fun k=>[(3,E2 lf),(4,I64 bay),(5,Ee s),(11,.vec 1114 k.length 1 k.length),(19,LS 1 (E1) [bf,af]),(20,I64 ([bf,af].length:Int)),(21,Em j),(29,E1 g),(30,Em g.length),(31,Em d)]) (fun k=>[(1114,.vec 3 1 k.length (k.map I64))]) (fun Kj55 ej55=>?_) ?_
   ·
    refine Gq (Jr fun b2=>(JLh (Eh e) (Hb (f:=G1.av) (xs:=g) (y:=e) O O O H3 a9 O) O (JLh (.agg (G1.cs e)) (Gk Qd O O O) O (JLh (.ptr 1115 0) (Hk 1115 4 Jy O O) O (Ho (u:=.junk) (H7 (u:=.agg (G1.cs e)) (ds:=[I64 e.Box,I64 e.Slot.G3,I64 e.Slot.Tier,U8 e.Slot.Half]) Rk O O O O O O O O) (G5 (b2 ?_)))))))
    refine fzQ [(3,E2 lf),(4,I64 bay),(5,Ee s),(11,.vec 1114 a.length 1 a.length),(15,Eh e),(19,LS 1 (E1) [bf,af]),(20,I64 ([bf,af].length:Int)),(21,Em j),(29,E1 g),(30,Em g.length),(31,Em d)] [(1114,.vec 3 1 a.length (a.map I64))] 1115 rfl rfl rfl ⟨⟨_,rfl,.vec⟩,ø⟩ rfl (Jr fun b3=>(JLh (.agg (Gi.cs s)) (Gk Jd O O O) O (JLh (.dptr ((G1.cs e).drop 1)) (Ga Jn O O O) O (JLh (.dptr ((G1.cs e).drop 1)) (Ga J7 O O O) O (JLh (I64 e.Slot.G3) (Gg Gb O O O) O ?_)))))
    obtain⟨c,b4,h⟩:=Ge h
    refine JLh (I64 c) (Gu O (G5f s e.Slot.G3 c b4) H83 ⟨O,O,O,O,ø⟩) O (JLm (I64 c) O (G5 (b3 (Jr fun b6=>(JLm (I64 c) O (JLh (BL (decide (0≤c))) (H24 O O O) O (JLm (BL (decide (0≤c))) O (JLo (.vec 1114 a.length 1 a.length) [] O .sct ø (fun hc=>G6 O O) O (JLo (I64 c) [] O .sct ø (fun hc=>G6 O O) O ?_)))))))))
    obtain⟨l,b7,h⟩:=Ge h
    refine JLo (BL l) [43,44] O .sct ⟨Ua,Ua,ø⟩ (fun hc=>Y6b (args:=[E2 a,I64 c]) O (G0b a c l (H4 hc b7)) Hfd ⟨.vec O,.data O O,ø⟩ O) O (JLo (BL (!l)) [45] O .sct ⟨Ua,ø⟩ (fun hc=>Y8 (b:=l) O O) O (JLh (BL ((decide (0≤c))&&(!l))) (Y4 O O O O) O (G5 (b6 (JCc O h (fun h hb=>?_) (fun h hb=>?_))))))
    ·
     refine G2 (JLm (.vec 1114 a.length 1 a.length) O (JLm (I64 c) O (JLh (E2 [c]) (He (xs:=[I64 c]) O ⟨O,O,ø⟩ H1 Y0 O O O O) O ?_)))
     obtain⟨b8,h⟩:=Ji h
     refine JLh (.vec 1114 ((a++[c]).length) 1 ((a++[c]).length)) (G4f (f:=I64) (xs:=a) (ys:=[c]) (ver:=a.length) (ver1:=(a++[c]).length) rfl rfl rfl rfl H1 G89 b8 (fun _=>rfl) (.inl rfl) (by simp)) O (JLm (.vec 1114 ((a++[c]).length) 1 ((a++[c]).length)) O (G5 (ej55 _ _ (a++[c]) h ⟨(.sm O O),⟨⟨_,rfl,.vec⟩,ø⟩,rfl⟩)))
    ·
     refine Gm (ej55 _ _ a h ⟨(.sm O O),⟨⟨_,rfl,.vec⟩,ø⟩,rfl⟩)
   ·intro k h
    replace h:=app1 w h
    refine G2 (JLh (I64 ((d+1:Nat):Int)) (Ja (Hp t a4) O O O) O (JLm (I64 ((d+1:Nat):Int)) O (G5 (d4 _ _ (d+1) k (app1 b0 h) (by omega) ⟨(.sm O O),⟨⟨_,rfl,.vec⟩,ø⟩,rfl⟩))))
  ·
   have h:=app1 v (Hu o (Hh hb))
   refine Hr (d1 (G2 (JLh (I64 ((j+1:Nat):Int)) (Ja (Hp z a0) O O O) O (JLm (I64 ((j+1:Nat):Int)) O (G5 (e5 _ _ (j+1) a (app1 d0 h) (by omega) ⟨(.sm O O),⟨⟨_,rfl,.vec⟩,ø⟩,rfl⟩))))))
 ·
  have h:=app1 a1 (Hu x (Hh hb))
  refine Hr (c3 (Jr fun b9=>(JLm (.vec 1114 i.length 1 i.length) O ?_)))
  obtain⟨m,c0,h⟩:=Ge h
  refine Yf O O O (Ge1 (args:=[.vec 1114 i.length 1 i.length,.fn 47 []]) (L0:=[(1114,.vec 3 1 i.length (i.map I64))]) (u:=fun p=>.vec 1114 p 1 m.length) (Lr:=fun p=>[(1114,.vec 3 1 p (m.map I64))]) O (H5e F i i.length (fun z0 z1=>Qr z0 z1) 47 [] H29 O (fun z0 z1 q hq=>Zm z0 z1 q hq) m c0) Rb3 ⟨.inl O,O,.inl O,O,ø⟩ ⟨O,ø⟩ O (fun _=>O)) ?_
  rintro u_ L_ ⟨d5,rfl,rfl⟩
  refine JLm (.vec 1114 d5 1 m.length) O (G5 (b9 (Ha1 [(10,E2 m)] [] 1114 rfl rfl ø rfl (by exact⟨.vec,ø⟩) (Gs (fin1 (fun r:(List Int)=>(E2 r:AV)) h)))))


theorem J56 (F:Nat) (s:Gi) (l:List G1) (lf:List Int) (bay:Int) (deck:Bool) (r:(List G1)) (h:Zj F s l lf bay deck=some r):J5 En 58 [.agg (Gi.cs s),E1 l,E2 lf,I64 bay,BL deck] [] (fun av L'=>∃ p:Nat,av=.vec 1110 p 4 r.length∧L'=[(1110,.vec 64 4 p (r.map G1.av))]):=by
 unfold Zj at h
 refine Jk [] [.tmp 10] Tryz.func58 O O (G18 O) (Jr fun b2=>(JLh (.ptr 1108 0) (Q4 (cs:=(Gi.cs s)) 1108 O O O O O) O (JLh (.vec 1109 (([]:List G1).length) 4 (([]:List G1).length)) (G93 1109 64 4 O O O) O (G5 (b2 (fzQ [(1,E1 l),(2,E2 lf),(3,I64 bay),(4,BL deck),(5,Ee s)] [(1109,.vec 64 4 (([]:List G1).length) (([]:List G1).map G1.av))] 1108 rfl rfl rfl ⟨⟨_,rfl,.vec⟩,ø⟩ rfl ?_))))))
 refine Jr fun b3=>(JLh (.vec 1110 (([]:List G1).length) 4 (([]:List G1).length)) (G93 1110 64 4 O O O) O (G5 (b3 (Js fun b4=>Jr fun b5=>(JLm (E1 l) O (JLl H3 O O O fun t=>(JLm (I64 0) O (G5 (b5 (Gq ?_))))))))))
 obtain⟨b6,v,w,n,h⟩:=Jc h
 refine Hn (fun d (a:(List G1))=>each b6 v (List.drop d l) d a=some r) (fun d a=>[(2,E2 lf),(3,I64 bay),(4,BL deck),(5,Ee s),(11,.vec 1110 a.length 4 a.length),(15,E1 l),(16,Em l.length),(17,Em d)]) (fun d a=>[(1109,.vec 64 4 (([]:List G1).length) (([]:List G1).map G1.av)),(1110,.vec 64 4 a.length (a.map G1.av))]) (fun d=>l.length - d) 0 [] h ⟨(.sm O O),⟨⟨_,rfl,.vec⟩,⟨_,rfl,.vec⟩,ø⟩,rfl⟩ ?_
 clear h
 intro d a j b9 b7
 refine Jr fun x=>(JLh (BL (decide ((d:Int) < (l.length:Int)))) (Jo O O O) O (G5 (x (Js fun z=>Gr O (fun hb=>?_) (fun hb=>?_)))))
 ·
  have k:=Q1 hb
  obtain⟨b,b8,a0,a1,h⟩:=Ht j k
  replace h:=Zn w h
  refine Gm (z ?_)
  obtain⟨a2,o,h⟩:=Rm h
  refine Qi (fun e:(List G1)=>a2 e=some r) (fun e=>[(2,E2 lf),(3,I64 bay),(4,BL deck),(5,Ee s),(11,.vec 1110 e.length 4 e.length),(15,E1 l),(16,Em l.length),(17,Em d)]) (fun e=>[(1109,.vec 64 4 (([]:List G1).length) (([]:List G1).map G1.av)),(1110,.vec 64 4 e.length (e.map G1.av))]) (fun Kj52 ej52=>?_) ?_
  ·
   refine Gq (Jr fun a3=>(JLh (Eh b) (Hb (f:=G1.av) (xs:=l) (y:=b) O O O H3 a0 O) O (JLh (.agg (G1.cs b)) (Gk Qd O O O) O (JLh (.ptr 1111 0) (Hk 1111 4 Jy O O) O (Ho (u:=.junk) (H7 (u:=.agg (G1.cs b)) (ds:=[I64 b.Box,I64 b.Slot.G3,I64 b.Slot.Tier,U8 b.Slot.Half]) Rk O O O O O O O O) (G5 (a3 ?_)))))))
   refine fzQ [(2,E2 lf),(3,I64 bay),(4,BL deck),(5,Ee s),(11,.vec 1110 a.length 4 a.length),(13,Eh b),(15,E1 l),(16,Em l.length),(17,Em d)] [(1109,.vec 64 4 (([]:List G1).length) (([]:List G1).map G1.av)),(1110,.vec 64 4 a.length (a.map G1.av))] 1111 rfl rfl rfl ⟨⟨_,rfl,.vec⟩,⟨_,rfl,.vec⟩,ø⟩ rfl (Jr fun a4=>(JLh (Ee s) (Ga J8 O O O) O (JLh (E3 s.Columns) (Gg Jp O O O) O (JLh (.dptr ((G1.cs b).drop 1)) (Ga Jn O O O) O (JLh (.dptr ((G1.cs b).drop 1)) (Ga J7 O O O) O (JLh (I64 b.Slot.G3) (Gg Gb O O O) O ?_))))))
   obtain⟨c0,c,a5,a6,h⟩:=Yc h
   refine JLh (Ej c) (Hb (f:=G3.av) (xs:=s.Columns) (y:=c) O O O Hy a6 a5) O (JLh (.agg (G3.cs c)) (Gk Gb3 O O O) O (JLh (.ptr 1112 0) (Hk 1112 12 G35 O O) O (Ho (u:=.junk) (H7 (u:=.agg (G3.cs c)) (ds:=(G3.cs c)) H27 O O O O O O O O) (G5 (a4 ?_)))))
   refine fzQ [(2,E2 lf),(3,I64 bay),(4,BL deck),(5,Ee s),(11,.vec 1110 a.length 4 a.length),(13,Eh b),(14,Ej c),(15,E1 l),(16,Em l.length),(17,Em d)] [(1109,.vec 64 4 (([]:List G1).length) (([]:List G1).map G1.av)),(1110,.vec 64 4 a.length (a.map G1.av))] 1112 rfl rfl rfl ⟨⟨_,rfl,.vec⟩,⟨_,rfl,.vec⟩,ø⟩ rfl ?_
   refine Jr fun a7=>(JLh (Ej c) (Ga G20 O O O) O (JLh (I64 c.Bay) (Gg Gb O O O) O (JLm (I64 bay) O (JLh (BL (decide (c.Bay=bay))) (Qk O O O) O (JLm (BL (decide (c.Bay=bay))) O (JLo (.dptr ((G3.cs c).drop 2)) [] O .sct ø (fun hc=>Ga Yj O O O) O (JLo (BL c.Deck) [33] O .sct ⟨Ua,ø⟩ (fun hc=>Gg Qb O O O) O (JLo (BL deck) [] O .sct ø (fun hc=>G6 O O) O (JLo (BL (c.Deck==deck)) [34,35] O .sct ⟨Ua,Ua,ø⟩ (fun hc=>Q00 H7b O O O) O (JLh (BL ((decide (c.Bay=bay))&&(c.Deck==deck))) (Y4 O O O O) O (JLm (BL ((decide (c.Bay=bay))&&(c.Deck==deck))) O (JLo (E2 lf) [] O .sct ø (fun hc=>G6 O O) O (JLo (Eh b) [] O .sct ø (fun hc=>Ga J6 O O O) O ?_)))))))))))))
   refine JLo (I64 b.Box) [40] O .sct ⟨Ua,ø⟩ (fun hc=>Gg Gb O O O) O ?_
   obtain⟨m,a8,h⟩:=Ge h
   refine JLo (BL m) [39,41] O .sct ⟨Ua,Ua,ø⟩ (fun hc=>Gu (args:=[E2 lf,I64 b.Box]) O (G0b lf b.Box m (H4 hc a8)) Hfd ⟨O,O,O,O,ø⟩) O (JLh (BL (((decide (c.Bay=bay))&&(c.Deck==deck))&&m)) (Y4 O O O O) O (G5 (a7 (JCc O h (fun h hb=>?_) (fun h hb=>?_)))))
   ·
    refine G2 (JLm (.vec 1110 a.length 4 a.length) O (JLh (.agg (G1.cs b)) (Gk Qd O O O) O (JLh (E1 [b]) (He (xs:=[.agg (G1.cs b)]) O ⟨O,O,ø⟩ H3 Jy O O O O) O ?_)))
    obtain⟨a9,h⟩:=Ji h
    refine JLh (.vec 1110 ((a++[b]).length) 4 ((a++[b]).length)) (G4f (f:=G1.av) (xs:=a) (ys:=[b]) (ver:=a.length) (ver1:=(a++[b]).length) rfl rfl rfl rfl H3 Ge6 a9 (fun _=>rfl) (.inl rfl) (by simp)) O (JLm (.vec 1110 ((a++[b]).length) 4 ((a++[b]).length)) O (G5 (ej52 _ _ (a++[b]) h ⟨(.sm O O),⟨⟨_,rfl,.vec⟩,⟨_,rfl,.vec⟩,ø⟩,rfl⟩)))
   ·
    refine Gm (ej52 _ _ a h ⟨(.sm O O),⟨⟨_,rfl,.vec⟩,⟨_,rfl,.vec⟩,ø⟩,rfl⟩)
  ·intro e h
   replace h:=app1 o h
   refine G2 (JLh (I64 ((d+1:Nat):Int)) (Ja (Hp k t) O O O) O (JLm (I64 ((d+1:Nat):Int)) O (G5 (b7 _ _ (d+1) e (app1 a1 h) (by omega) ⟨(.sm O O),⟨⟨_,rfl,.vec⟩,⟨_,rfl,.vec⟩,ø⟩,rfl⟩))))
 ·
  have h:=app1 n (Hu j (Hh hb))
  refine Hr (b4 (Jr fun b0=>(JLm (.vec 1110 a.length 4 a.length) O ?_)))
  obtain⟨g,b1,h⟩:=Ge h
  refine Yf O O O (Ge1 (args:=[.vec 1110 a.length 4 a.length,.fn 105 []]) (L0:=[(1110,.vec 64 4 a.length (a.map G1.av))]) (u:=fun p=>.vec 1110 p 4 g.length) (Lr:=fun p=>[(1110,.vec 64 4 p (g.map G1.av))]) O (G25 F a a.length (fun z0 z1=>G2c z0 z1) 105 [] Q3c O (fun z0 z1 q hq=>Hed z0 z1 q hq) g b1) Q3d ⟨.inl O,O,.inl O,O,ø⟩ ⟨O,ø⟩ O (fun _=>O)) ?_
  rintro u_ L_ ⟨i,rfl,rfl⟩
  refine JLm (.vec 1110 i 4 g.length) O (G5 (b0 (G52 10 O O (fun hn_=>Gs ?_))))
  obtain rfl:=M7 h
  exact⟨[.vec 1110 i 4 g.length],[(1110,.vec 64 4 i (g.map G1.av))],⟨⟨_,O,.vec⟩,ø⟩,O,⟨⟨_,O,.conv (.same O)⟩,ø⟩,i,congrArg (fun n_:Nat=>(.vec 1110 i 4 n_:AV)) (hn_.trans (Mm _)),O⟩

def Rq (F:Nat) (data:List G1) (n:Int) (cmp:G1→G1→Option Int):Option (List G1):=
 loop (fun d (a:Int×Int×(List G1))=>
  bif decide (a.2.1≤n) then
  (bnd (Jb F a.2.2 a.1 a.2.1 cmp) fun f=>
   chk (a.2.1+20) fun g=>
   d (a.2.1,g,f))
  else
  (bnd (Jb F a.2.2 a.1 n cmp) fun h=>
   loop (fun e (b:Int)=>
    bif decide (b < n) then
    (chk (2*b) fun i=>
     loop (fun l (c:Int×Int)=>
      bif decide (c.2≤n) then
      (none)
      else
      (chk (c.1+b) fun j=>
       bif decide (j < n) then
       (none)
       else
       (chk (b*2) fun k=>
        e k))) F (0,i))
    else
    (some h)) F 20)) F (0,20,data)
theorem G62 (F:Nat) (data:List G1) (data_q:Nat) (n:Int) (cmp:G1→G1→Option Int) (cmp_f:FuncId) (cmp_c:List AV) (cmp_B:H0 En cmp_f=true) (cmp_d:Q9 (fun _=>false) cmp_c=true) (cmp_w:∀ a0 a1 q,cmp a0 a1=some q→Pure En cmp_f ([.agg (G1.cs a0),.agg (G1.cs a1)]++cmp_c) (·=I64 q)) (r:(List G1)) (h:Rq F data n cmp=some r):J5 En 139 [.vec 1110 data_q 4 data.length,I64 n,.fn cmp_f cmp_c] [(1110,.vec 64 4 data_q (data.map G1.av))] (fun av L'=>av=.tup []∧L'=[(1110,.vec 64 4 data_q (r.map G1.av))]):=by
 unfold Rq at h
 refine Jk [1110] [] Tryz.func139 O O (G18 O) (Jr fun c2=>(JLm (I64 20) O (G5 (c2 (Jr fun c3=>(JLm (I64 20) O (JLm (I64 0) O (JLm (I64 20) O (G5 (c3 (Js fun c4=>Gq ?_)))))))))))
 obtain⟨c5,o,h⟩:=H41 h
 refine Hn (fun d (a:Int×Int×(List G1))=>loop c5 d a=some r) (fun d a=>[(0,.vec 1110 data_q 4 data.length),(1,I64 n),(2,.fn cmp_f cmp_c),(6,I64 20),(7,I64 a.1),(8,I64 a.2.1)]) (fun d a=>[(1110,.vec 64 4 data_q (a.2.2.map G1.av))]) (fun d=>d) F (0,20,data) h ⟨⟨.same O,.same O,.same (Hi _ _ cmp_d),.same O,.same O,.same O,ø⟩,⟨⟨_,O,.vec⟩,ø⟩,O⟩ ?_
 clear h
 intro d a p d7 c6
 obtain⟨c7,d2,hm_19,s,h⟩:=Gd3 p
 replace h:=R11 o h
 refine Js fun t=>Jr fun u=>(JLm (I64 a.2.1) O (JLm (I64 n) O (JLh (BL (decide (a.2.1≤n))) (Hc5 O O O) O (G5 (u (JCc O h (fun h hb=>?_) (fun h hb=>?_)))))))
 ·
  refine Gm (t (Gq (Jr fun v=>(JLm (.vec 1110 data_q 4 data.length) O (JLm (I64 a.1) O (JLm (I64 a.2.1) O (JLm (.fn cmp_f cmp_c) O ?_)))))))
  obtain⟨j,w,h⟩:=Ge h
  refine Y93 14 O O (fun x=>JLh (.tup []) (Yv (args:=[.vec 1110 data_q 4 a.2.2.length,I64 a.1,I64 a.2.1,.fn cmp_f cmp_c]) (L0:=[(1110,.vec 64 4 data_q (a.2.2.map G1.av))]) (Lr:=[(1110,.vec 64 4 data_q (j.map G1.av))]) O (Qh F a.2.2 data_q a.1 a.2.1 cmp cmp_f cmp_c cmp_B cmp_d cmp_w j w) J3c ⟨.inl (congrArg (fun n_:Nat=>(.vec 1110 data_q 4 n_:AV)) (x.trans (Mm _))),O,.inl O,O,.inl O,O,.inl O,(Hi _ _ cmp_d),ø⟩ ⟨O,ø⟩ O O O) O (G5 (v (Jr fun y=>(JLm (I64 a.2.1) O (JLm (I64 a.2.1) O (G5 (y (G2 (JLm (I64 a.2.1) O (JLm (I64 20) O ?_)))))))))))
  obtain⟨k,z,h⟩:=J0 h
  refine JLh (I64 k) (Ja z O O O) O (JLm (I64 k) O (G5 (c6 _ _ c7 (a.2.1,k,j) (app1 s h) (by omega) ⟨⟨.same rfl,.same rfl,.same (Hi _ _ cmp_d),.same rfl,.same rfl,.same rfl,ø⟩,⟨⟨_,rfl,.vec⟩,ø⟩,rfl⟩)))
 ·
  refine Hr (c4 (Jr fun a2=>(JLm (.vec 1110 data_q 4 data.length) O (JLm (I64 a.1) O (JLm (I64 n) O (JLm (.fn cmp_f cmp_c) O ?_))))))
  obtain⟨g,a3,h⟩:=Ge h
  refine Y93 23 O O (fun a4=>JLh (.tup []) (Yv (args:=[.vec 1110 data_q 4 a.2.2.length,I64 a.1,I64 n,.fn cmp_f cmp_c]) (L0:=[(1110,.vec 64 4 data_q (a.2.2.map G1.av))]) (Lr:=[(1110,.vec 64 4 data_q (g.map G1.av))]) O (Qh F a.2.2 data_q a.1 n cmp cmp_f cmp_c cmp_B cmp_d cmp_w g a3) J3c ⟨.inl (congrArg (fun n_:Nat=>(.vec 1110 data_q 4 n_:AV)) (a4.trans (Mm _))),O,.inl O,O,.inl O,O,.inl O,(Hi _ _ cmp_d),ø⟩ ⟨O,ø⟩ O O O) O (G5 (a2 (Gq ?_))))
  obtain⟨c8,a5,h⟩:=H41 h
  refine Hn (fun e (b:Int)=>loop c8 e b=some r) (fun e b=>[(0,.vec 1110 data_q 4 data.length),(1,I64 n),(2,.fn cmp_f cmp_c),(6,I64 b)]) (fun e b=>[(1110,.vec 64 4 data_q (g.map G1.av))]) (fun e=>e) F 20 h ⟨⟨.same O,.same O,.same (Hi _ _ cmp_d),.same O,ø⟩,⟨⟨_,O,.vec⟩,ø⟩,O⟩ ?_
  clear h
  intro e b a6 d8 c9
  obtain⟨d0,d3,hm_30,a7,h⟩:=Gd3 a6
  replace h:=R11 a5 h
  refine Js fun a8=>Jr fun a9=>(JLm (I64 b) O (JLm (I64 n) O (JLh (BL (decide (b < n))) (Jo O O O) O (G5 (a9 (JCc O h (fun h hb=>?_) (fun h hb=>?_)))))))
  ·
   refine Gm (a8 (Gq (Jr fun b0=>(JLm (I64 b) O ?_))))
   obtain⟨l,b1,h⟩:=J0 h
   refine JLh (I64 l) (J96 b1 O O O) O (JLm (I64 0) O (JLm (I64 l) O (G5 (b0 (Js fun b2=>Gq ?_)))))
   obtain⟨d1,b3,h⟩:=H41 h
   refine Hn (fun f (c:Int×Int)=>loop d1 f c=some r) (fun f c=>[(0,.vec 1110 data_q 4 data.length),(1,I64 n),(2,.fn cmp_f cmp_c),(6,I64 b),(7,I64 c.1),(8,I64 c.2)]) (fun f c=>[(1110,.vec 64 4 data_q (g.map G1.av))]) (fun f=>f) F (0,l) h ⟨⟨.same O,.same O,.same (Hi _ _ cmp_d),.same O,.same O,.same O,ø⟩,⟨⟨_,O,.vec⟩,ø⟩,O⟩ ?_
   clear h
   intro f c b4 d9 e0
   obtain⟨e1,d4,hm_40,d5,h⟩:=Gd3 b4
   replace h:=R11 b3 h
   refine Js fun b5=>Jr fun b6=>(JLm (I64 c.2) O (JLm (I64 n) O (JLh (BL (decide (c.2≤n))) (Hc5 O O O) O (G5 (b6 (JCc O h (fun h hb=>?_) (fun h hb=>?_)))))))
   ·
    refine Gm (b5 (Gq (Js fun d6=>?_)))
    cases h
   ·
    refine Hr (b2 (Js fun b7=>Jr fun b8=>(JLm (I64 c.1) O (JLm (I64 b) O ?_))))
    obtain⟨i,b9,h⟩:=J0 h
    refine JLh (I64 i) (Ja b9 O O O) O (JLm (I64 i) O (G5 (b8 (Jr fun c0=>(JLm (I64 i) O (JLm (I64 n) O (JLh (BL (decide (i < n))) (Jo O O O) O (G5 (c0 (JCc O h (fun h hb=>?_) (fun h hb=>?_)))))))))))
    ·
     cases h
    ·
     refine Gm (b7 (G2 (JLm (I64 b) O ?_)))
     obtain⟨m,c1,h⟩:=J0 h
     refine JLh (I64 m) (J96 c1 O O O) O (JLm (I64 m) O (G5 (c9 _ _ d0 m (app1 a7 h) (by omega) ⟨⟨.same rfl,.same rfl,.same (Hi _ _ cmp_d),.same rfl,ø⟩,⟨⟨_,rfl,.vec⟩,ø⟩,rfl⟩)))
  ·
   refine Hr ?_
   obtain rfl:=M7 h
   exact⟨[],[(1110,.vec 64 4 data_q (g.map G1.av))],⟨⟨_,O,.vec⟩,ø⟩,O,ø,O,O⟩

def Qm (F:Nat) (x:List G1) (cmp:G1→G1→Option Int):Option (List G1):=
 bnd (Rq F x (x.length:Int) cmp) fun a=>
 some a
theorem G59 (F:Nat) (x:List G1) (x_q:Nat) (cmp:G1→G1→Option Int) (cmp_f:FuncId) (cmp_c:List AV) (cmp_B:H0 En cmp_f=true) (cmp_d:Q9 (fun _=>false) cmp_c=true) (cmp_w:∀ a0 a1 q,cmp a0 a1=some q→Pure En cmp_f ([.agg (G1.cs a0),.agg (G1.cs a1)]++cmp_c) (·=I64 q)) (r:(List G1)) (h:Qm F x cmp=some r):J5 En 102 [.vec 1110 x_q 4 x.length,.fn cmp_f cmp_c] [(1110,.vec 64 4 x_q (x.map G1.av))] (fun av L'=>av=.tup []∧L'=[(1110,.vec 64 4 x_q (r.map G1.av))]):=by
 unfold Qm at h
 refine Jk [1110] [] Tryz.func102 O O (G18 O) (G2 (JLm (.vec 1110 x_q 4 x.length) O (JLm (.vec 1110 x_q 4 x.length) O (Jf5 (f:=G1.av) (xs:=x) H3 O O O (fun c=>?_) O O O))))
 refine JLm (.fn cmp_f cmp_c) O ?_
 obtain⟨a,b,h⟩:=Ge h
 refine JLh (.tup []) (Yv (args:=[.vec 1110 x_q 4 x.length,Em x.length,.fn cmp_f cmp_c]) (L0:=[(1110,.vec 64 4 x_q (x.map G1.av))]) (Lr:=[(1110,.vec 64 4 x_q (a.map G1.av))]) O (G62 F x x_q (x.length:Int) cmp cmp_f cmp_c cmp_B cmp_d cmp_w a b) Ra5 ⟨.inl O,O,.inl O,O,.inl O,(Hi _ _ cmp_d),ø⟩ ⟨O,ø⟩ O O O) O (G5 ?_)
 obtain rfl:=M7 h
 exact⟨[],[(1110,.vec 64 4 x_q (a.map G1.av))],⟨⟨_,O,.vec⟩,ø⟩,O,ø,O,O⟩

def G0d (F:Nat) (l:List G1):Option (List G1):=
 bnd (Qm F l (fun z0 z1=>Zk z0 z1)) fun a=>
 some a
theorem G7f (F:Nat) (l:List G1) (l_q:Nat) (r:(List G1)) (h:G0d F l=some r):J5 En 57 [.vec 1110 l_q 4 l.length] [(1110,.vec 64 4 l_q (l.map G1.av))] (fun av L'=>∃ p:Nat,av=.vec 1110 p 4 r.length∧L'=[(1110,.vec 64 4 p (r.map G1.av))]):=by
 unfold G0d at h
 refine Jk [1110] [.tmp 2] Tryz.func57 O O (G18 O) (Jr fun b=>(JLh (.vec 1107 (([]:List G1).length) 4 (([]:List G1).length)) (G93 1107 64 4 O O O) O (G5 (b (Jr fun c=>(JLm (.vec 1110 l_q 4 l.length) O ?_))))))
 obtain⟨a,d,h⟩:=Ge h
 refine JLh (.tup []) (Yv (args:=[.vec 1110 l_q 4 l.length,.fn 103 []]) (L0:=[(1110,.vec 64 4 l_q (l.map G1.av))]) (Lr:=[(1110,.vec 64 4 l_q (a.map G1.av))]) O (G59 F l l_q (fun z0 z1=>Zk z0 z1) 103 [] Rb5 O (fun z0 z1 q hq=>J2f z0 z1 q hq) a d) Rb6 ⟨.inl O,O,.inl O,O,ø⟩ ⟨O,ø⟩ O O O) O (G5 (c (Jr fun e=>(JLm (.vec 1110 l_q 4 l.length) O (JLm (.vec 1110 l_q 4 l.length) O (G5 (e (G52 2 O O (fun hn_=>Gs ?_)))))))))
 obtain rfl:=M7 h
 exact⟨[.vec 1110 l_q 4 l.length],[(1110,.vec 64 4 l_q (a.map G1.av))],⟨⟨_,O,.vec⟩,ø⟩,O,⟨⟨_,O,.conv (.same O)⟩,ø⟩,l_q,congrArg (fun n_:Nat=>(.vec 1110 l_q 4 n_:AV)) (hn_.trans (Mm _)),O⟩

def H19 (F:Nat) (s:Gi) (bf:List G1) (af:List G1) (lf:List Int):Option (List Move):=
 need (decide (40≤9223372036854775807)) <|
 upto (fun c (d:(List Move)) f=>
  bnd (Zj F s bf lf (c:Int) true) fun m=>
  bnd (G0d F m) fun n=>
  bnd (G05 2 n d) fun o=>
  bnd (G60 F s bf af lf (c:Int)) fun p=>
  bnd (G61 1 p o) fun q=>
  bnd (Zj F s bf lf (c:Int) false) fun r=>
  bnd (G0d F r) fun t=>
  bnd (G05 2 t q) fun u=>
  f u)
 (fun(d:(List Move))=>
  need (decide (40≤9223372036854775807)) <|
  upto (fun a (b:(List Move)) e=>
   bnd (Zj F s af lf (a:Int) false) fun g=>
   bnd (G05 3 g b) fun h=>
   bnd (G60 F s bf af lf (a:Int)) fun i=>
   bnd (G61 4 i h) fun j=>
   bnd (Zj F s af lf (a:Int) true) fun k=>
   bnd (G05 3 k j) fun l=>
   e l)
  (fun(b:(List Move))=>
   some b) (40:Int).toNat 0 d) (40:Int).toNat 0 []
theorem Qf8 (F:Nat) (s:Gi) (bf:List G1) (af:List G1) (lf:List Int) (r:(List Move)) (h:H19 F s bf af lf=some r):Pure En 30 [.agg (Gi.cs s),E1 bf,E1 af,E2 lf] (·=Ea r):=by
 unfold H19 at h
 refine Gx [.tmp 8] Tryz.func30 O O (Jr fun e4=>(JLh (.ptr 1049 0) (Q4 (cs:=(Gi.cs s)) 1049 O O O O O) O (JLh (Ea ([]:List Move)) (Jh 6 O O) O (G5 (e4 (fzQ [(1,E1 bf),(2,E1 af),(3,E2 lf),(4,Ee s)] [] 1049 rfl rfl rfl ø rfl (Jr fun e5=>(JLh (.ptr 1050 0) (G06 1050 [.sc (.slice none 0 0)] [.slice none 0 0] Y03 ⟨.inl O,ø⟩ O O) O (Gf0 1050 0 1051 59 6 O O O (cs':=[OW 1051 6 Move.av ([]:List Move)]) O ?_)))))))))
 refine G5 (e5 (Jr fun e6=>(JLh (.fn 55 [.ptr 1050 0]) (Q2 (cs:=[.ptr 1050 0]) O O) O (JLm (.fn 55 [.ptr 1050 0]) O (G5 (e6 (Jr fun e7=>(JLh (.fn 56 [.ptr 1050 0]) (Q2 (cs:=[.ptr 1050 0]) O O) O (JLm (.fn 56 [.ptr 1050 0]) O (G5 (e7 (Js fun e8=>Jr fun e9=>(JLm (I64 0) O (G5 (e9 (Gq ?_))))))))))))))))
 obtain⟨c2,h⟩:=Ji h
 obtain⟨f0,c3,c4,a4,h⟩:=Hf5 h
 refine Hn (fun a (d:(List Move))=>upto f0 c3 ((40:Int).toNat - a) a d=some r) (fun a d=>[(1,E1 bf),(2,E1 af),(3,E2 lf),(4,Ee s),(9,.ptr 1050 0),(10,.fn 55 [.ptr 1050 0]),(11,.fn 56 [.ptr 1050 0]),(16,Em a)]) (fun a d=>[(1051,.spare 59 6 d.length d.length),(1050,.box 45 [OW 1051 6 Move.av d])]) (fun a=>(40:Int).toNat - a) 0 [] h ⟨(.sm O O),⟨⟨_,rfl,.same⟩,fbQ O ⟨.same rfl,ø⟩,ø⟩,rfl⟩ ?_
 clear h
 intro a d z f5 f1
 refine Jr fun c5=>(JLh (BL (decide ((a:Int) < 40))) (Jo O O O) O (G5 (c5 (Js fun c6=>Gr O (fun hb=>?_) (fun hb=>?_)))))
 ·
  have a0:=H8b hb
  obtain⟨f3,c7,h⟩:=H7e z a0
  replace h:=Jb4 c4 h
  refine Gm (c6 (Js fun c8=>Gq (Jr fun c9=>(JLm (Em a) O (JLm (Em a) O (G5 (c9 (Jr fun d0=>(JLm (.fn 55 [.ptr 1050 0]) O (JLh (.agg (Gi.cs s)) (Gk Jd O O O) O (JLm (E1 bf) O (JLm (E2 lf) O (JLm (Em a) O ?_)))))))))))))
  obtain⟨l,d1,h⟩:=Ge h
  refine Yf O O O (Ge1 (args:=[.agg (Gi.cs s),E1 bf,E2 lf,Em a,BL true]) (L0:=[]) (u:=fun p=>.vec 1110 p 4 l.length) (Lr:=fun p=>[(1110,.vec 64 4 p (l.map G1.av))]) O (J56 F s bf lf (a:Int) true l d1) H84 ⟨.inl O,O,.inl O,O,.inl O,O,.inl O,O,.inl O,O,ø⟩ ø O (fun _=>O)) ?_
  rintro u_ L_ ⟨a1,rfl,rfl⟩
  obtain⟨j,d2,h⟩:=Ge h
  refine Yf O O O (Ge1 (args:=[.vec 1110 a1 4 l.length]) (L0:=[(1110,.vec 64 4 a1 (l.map G1.av))]) (u:=fun p=>.vec 1110 p 4 j.length) (Lr:=fun p=>[(1110,.vec 64 4 p (j.map G1.av))]) O (G7f F l a1 j d2) Qa3 ⟨.inl O,O,ø⟩ ⟨O,ø⟩ O (fun _=>O)) ?_
  rintro u_ L_ ⟨f6,rfl,rfl⟩
  refine Qfa [(1,E1 bf),(2,E1 af),(3,E2 lf),(4,Ee s),(9,.ptr 1050 0),(10,.fn 55 [.ptr 1050 0]),(11,.fn 56 [.ptr 1050 0]),(12,Em a),(16,Em a),(17,BL (decide ((a:Int) < 40))),(18,Em a),(19,.fn 55 [.ptr 1050 0]),(20,.agg (Gi.cs s)),(21,E1 bf),(22,E2 lf),(23,Em a),(25,E1 j)] [(1051,.spare 59 6 d.length d.length),(1050,.box 45 [OW 1051 6 Move.av d])] 1110 rfl rfl ⟨⟨_,rfl,.same⟩,⟨_,rfl,.boxEq rfl rfl⟩,ø⟩ rfl (by exact⟨.conv (.same rfl),.conv (.same rfl),.conv (.same rfl),.conv (.same rfl),.conv (.same rfl),.conv (.same rfl),.conv (.same rfl),.conv (.same rfl),.conv (.same rfl),.conv (.same rfl),.conv (.same rfl),.conv (.same rfl),.conv (.same rfl),.conv (.same rfl),.conv (.same rfl),.conv (.same rfl),.vec,ø⟩) ?_
  obtain⟨i,d3,h⟩:=Ge h
  refine JLh (.tup []) (H1f (args:=[U8 2,E1 j]) (caps:=[.ptr 1050 0]) (L0:=[(1050,.box 45 [OW 1051 6 Move.av d]),(1051,.spare 59 6 d.length d.length)]) (Lr:=[(1050,.box 45 [OW 1051 6 Move.av i]),(1051,.spare 59 6 i.length i.length)]) O O (Gbf 2 j d i d3) Hfb ⟨.inl O,O,.inl O,O,ø⟩ O ⟨O,O,ø⟩ O O O) O (G5 (d0 (Jr fun d4=>(JLm (.fn 56 [.ptr 1050 0]) O (JLh (.agg (Gi.cs s)) (Gk Jd O O O) O (JLm (E1 bf) O (JLm (E1 af) O (JLm (E2 lf) O (JLm (Em a) O ?_)))))))))
  obtain⟨v,d5,h⟩:=Ge h
  refine JLh (E2 v) (Gu O (Hee F s bf af lf (a:Int) v d5) Qa2 ⟨O,O,O,O,O,O,O,O,O,O,ø⟩) O ?_
  obtain⟨e,d6,h⟩:=Ge h
  refine JLh (.tup []) (H1f (args:=[U8 1,E2 v]) (caps:=[.ptr 1050 0]) (L0:=[(1050,.box 45 [OW 1051 6 Move.av i]),(1051,.spare 59 6 i.length i.length)]) (Lr:=[(1050,.box 45 [OW 1051 6 Move.av e]),(1051,.spare 59 6 e.length e.length)]) O O (Hef 1 v i e d6) Qa4 ⟨.inl O,O,.inl O,O,ø⟩ O ⟨O,O,ø⟩ O O O) O (G5 (d4 (G2 (JLm (.fn 55 [.ptr 1050 0]) O (JLh (.agg (Gi.cs s)) (Gk Jd O O O) O (JLm (E1 bf) O (JLm (E2 lf) O (JLm (Em a) O ?_))))))))
  obtain⟨m,d7,h⟩:=Ge h
  refine Yf O O O (Ge1 (args:=[.agg (Gi.cs s),E1 bf,E2 lf,Em a,BL false]) (L0:=[]) (u:=fun p=>.vec 1110 p 4 m.length) (Lr:=fun p=>[(1110,.vec 64 4 p (m.map G1.av))]) O (J56 F s bf lf (a:Int) false m d7) H84 ⟨.inl O,O,.inl O,O,.inl O,O,.inl O,O,.inl O,O,ø⟩ ø O (fun _=>O)) ?_
  rintro u_ L_ ⟨a2,rfl,rfl⟩
  obtain⟨n,d8,h⟩:=Ge h
  refine Yf O O O (Ge1 (args:=[.vec 1110 a2 4 m.length]) (L0:=[(1110,.vec 64 4 a2 (m.map G1.av))]) (u:=fun p=>.vec 1110 p 4 n.length) (Lr:=fun p=>[(1110,.vec 64 4 p (n.map G1.av))]) O (G7f F m a2 n d8) Qa3 ⟨.inl O,O,ø⟩ ⟨O,ø⟩ O (fun _=>O)) ?_
  rintro u_ L_ ⟨f7,rfl,rfl⟩
  refine Qfa [(1,E1 bf),(2,E1 af),(3,E2 lf),(4,Ee s),(9,.ptr 1050 0),(10,.fn 55 [.ptr 1050 0]),(11,.fn 56 [.ptr 1050 0]),(12,Em a),(16,Em a),(17,BL (decide ((a:Int) < 40))),(18,Em a),(19,.fn 55 [.ptr 1050 0]),(20,.agg (Gi.cs s)),(21,E1 bf),(22,E2 lf),(23,Em a),(25,E1 j),(26,.tup []),(27,.fn 56 [.ptr 1050 0]),(28,.agg (Gi.cs s)),(29,E1 bf),(30,E1 af),(31,E2 lf),(32,Em a),(33,E2 v),(34,.tup []),(35,.fn 55 [.ptr 1050 0]),(36,.agg (Gi.cs s)),(37,E1 bf),(38,E2 lf),(39,Em a),(41,E1 n)] [(1051,.spare 59 6 e.length e.length),(1050,.box 45 [OW 1051 6 Move.av e])] 1110 rfl rfl ⟨⟨_,rfl,.same⟩,⟨_,rfl,.boxEq rfl rfl⟩,ø⟩ rfl (by exact⟨.conv (.same rfl),.conv (.same rfl),.conv (.same rfl),.conv (.same rfl),.conv (.same rfl),.conv (.same rfl),.conv (.same rfl),.conv (.same rfl),.conv (.same rfl),.conv (.same rfl),.conv (.same rfl),.conv (.same rfl),.conv (.same rfl),.conv (.same rfl),.conv (.same rfl),.conv (.same rfl),.conv (.same rfl),.conv (.same rfl),.conv (.same rfl),.conv (.same rfl),.conv (.same rfl),.conv (.same rfl),.conv (.same rfl),.conv (.same rfl),.conv (.same rfl),.conv (.same rfl),.conv (.same rfl),.conv (.same rfl),.conv (.same rfl),.conv (.same rfl),.conv (.same rfl),.vec,ø⟩) ?_
  obtain⟨w,d9,h⟩:=Ge h
  refine JLh (.tup []) (H1f (args:=[U8 2,E1 n]) (caps:=[.ptr 1050 0]) (L0:=[(1050,.box 45 [OW 1051 6 Move.av e]),(1051,.spare 59 6 e.length e.length)]) (Lr:=[(1050,.box 45 [OW 1051 6 Move.av w]),(1051,.spare 59 6 w.length w.length)]) O O (Gbf 2 n e w d9) Hfb ⟨.inl O,O,.inl O,O,ø⟩ O ⟨O,O,ø⟩ O O O) O (G5 (c8 (G2 (JLh (I64 ((a+1:Nat):Int)) (Ja (Hp a0 (H25 c2)) O O O) O (JLm (I64 ((a+1:Nat):Int)) O (G5 (f1 _ _ (a+1) w (app1 c7 h) (by omega) ⟨(.sm O O),⟨⟨_,rfl,.same⟩,fbQ O ⟨.same rfl,ø⟩,ø⟩,rfl⟩)))))))
 ·
  have h:=app1 a4 (H7f z (G72 hb))
  refine Hr (e8 (Js fun e0=>Jr fun e1=>(JLm (I64 0) O (G5 (e1 (Gq ?_))))))
  obtain⟨a5,h⟩:=Ji h
  obtain⟨e2,a6,a7,a3,h⟩:=Hf5 h
  refine Hn (fun b (c:(List Move))=>upto e2 a6 ((40:Int).toNat - b) b c=some r) (fun b c=>[(1,E1 bf),(2,E1 af),(3,E2 lf),(4,Ee s),(9,.ptr 1050 0),(10,.fn 55 [.ptr 1050 0]),(11,.fn 56 [.ptr 1050 0]),(44,Em b)]) (fun b c=>[(1051,.spare 59 6 c.length c.length),(1050,.box 45 [OW 1051 6 Move.av c])]) (fun b=>(40:Int).toNat - b) 0 d h ⟨(.sm O O),⟨⟨_,rfl,.same⟩,fbQ O ⟨.same rfl,ø⟩,ø⟩,rfl⟩ ?_
  clear h
  intro b c x f4 e3
  refine Jr fun a8=>(JLh (BL (decide ((b:Int) < 40))) (Jo O O O) O (G5 (a8 (Js fun a9=>Gr O (fun hb=>?_) (fun hb=>?_)))))
  ·
   have y:=H8b hb
   obtain⟨f2,b0,h⟩:=H7e x y
   replace h:=Jb4 a7 h
   refine Gm (a9 (Js fun b1=>Gq (Jr fun b2=>(JLm (Em b) O (JLm (Em b) O (G5 (b2 (Jr fun b3=>(JLm (.fn 55 [.ptr 1050 0]) O (JLh (.agg (Gi.cs s)) (Gk Jd O O O) O (JLm (E1 af) O (JLm (E2 lf) O (JLm (Em b) O ?_)))))))))))))
   obtain⟨o,b4,h⟩:=Ge h
   refine JLh (E1 o) (Gu O (H9e F s af lf (b:Int) false o b4) H84 ⟨O,O,O,O,O,O,O,O,O,O,ø⟩) O ?_
   obtain⟨f,b5,h⟩:=Ge h
   refine JLh (.tup []) (H1f (args:=[U8 3,E1 o]) (caps:=[.ptr 1050 0]) (L0:=[(1050,.box 45 [OW 1051 6 Move.av c]),(1051,.spare 59 6 c.length c.length)]) (Lr:=[(1050,.box 45 [OW 1051 6 Move.av f]),(1051,.spare 59 6 f.length f.length)]) O O (Gbf 3 o c f b5) Hfb ⟨.inl O,O,.inl O,O,ø⟩ O ⟨O,O,ø⟩ O O O) O (G5 (b3 (Jr fun b6=>(JLm (.fn 56 [.ptr 1050 0]) O (JLh (.agg (Gi.cs s)) (Gk Jd O O O) O (JLm (E1 bf) O (JLm (E1 af) O (JLm (E2 lf) O (JLm (Em b) O ?_)))))))))
   obtain⟨q,b7,h⟩:=Ge h
   refine JLh (E2 q) (Gu O (Hee F s bf af lf (b:Int) q b7) Qa2 ⟨O,O,O,O,O,O,O,O,O,O,ø⟩) O ?_
   obtain⟨g,b8,h⟩:=Ge h
   refine JLh (.tup []) (H1f (args:=[U8 4,E2 q]) (caps:=[.ptr 1050 0]) (L0:=[(1050,.box 45 [OW 1051 6 Move.av f]),(1051,.spare 59 6 f.length f.length)]) (Lr:=[(1050,.box 45 [OW 1051 6 Move.av g]),(1051,.spare 59 6 g.length g.length)]) O O (Hef 4 q f g b8) Qa4 ⟨.inl O,O,.inl O,O,ø⟩ O ⟨O,O,ø⟩ O O O) O (G5 (b6 (G2 (JLm (.fn 55 [.ptr 1050 0]) O (JLh (.agg (Gi.cs s)) (Gk Jd O O O) O (JLm (E1 af) O (JLm (E2 lf) O (JLm (Em b) O ?_))))))))
   obtain⟨t,b9,h⟩:=Ge h
   refine JLh (E1 t) (Gu O (H9e F s af lf (b:Int) true t b9) H84 ⟨O,O,O,O,O,O,O,O,O,O,ø⟩) O ?_
   obtain⟨k,c0,h⟩:=Ge h
   refine JLh (.tup []) (H1f (args:=[U8 3,E1 t]) (caps:=[.ptr 1050 0]) (L0:=[(1050,.box 45 [OW 1051 6 Move.av g]),(1051,.spare 59 6 g.length g.length)]) (Lr:=[(1050,.box 45 [OW 1051 6 Move.av k]),(1051,.spare 59 6 k.length k.length)]) O O (Gbf 3 t g k c0) Hfb ⟨.inl O,O,.inl O,O,ø⟩ O ⟨O,O,ø⟩ O O O) O (G5 (b1 (G2 (JLh (I64 ((b+1:Nat):Int)) (Ja (Hp y (H25 a5)) O O O) O (JLm (I64 ((b+1:Nat):Int)) O (G5 (e3 _ _ (b+1) k (app1 b0 h) (by omega) ⟨(.sm O O),⟨⟨_,rfl,.same⟩,fbQ O ⟨.same rfl,ø⟩,ø⟩,rfl⟩)))))))
  ·
   have h:=app1 a3 (H7f x (G72 hb))
   refine Hr (e0 (Jr fun c1=>(JLh (OW 1051 6 Move.av c) (J1 Hfa O O O O) O (JLm (OW 1051 6 Move.av c) O (G5 (c1 (Gs (fin1l (fun r:(List Move)=>(Ea r:AV)) h))))))))

def G75 (F:Nat) (s:Gi) (boxes:List Box) (bf:List G1) (af:List G1):Option ((List Move)×Int):=
 bnd (Yo F s boxes bf af) fun a=>
 bif decide (a.2≠0) then
 (some ([],a.2))
 else
 (bnd (H19 F s bf af a.1) fun b=>
  some (b,0))
theorem J57 (F:Nat) (s:Gi) (boxes:List Box) (bf:List G1) (af:List G1) (r:(List Move)×Int) (h:G75 F s boxes bf af=some r):Pure En 8 [.agg (Gi.cs s),E7 boxes,E1 bf,E1 af] (·=.tup [Ea r.1,I64 r.2]):=by
 unfold G75 at h
 refine Gx [.tmp 8,.tmp 9] Tryz.func8 O O (Jr fun c=>(JLh (.ptr 1013 0) (Q4 (cs:=(Gi.cs s)) 1013 O O O O O) O (JLh (Ea ([]:List Move)) (Jh 6 O O) O (JLm (I64 0) O (G5 (c (fzQ [(1,E7 boxes),(2,E1 bf),(3,E1 af),(4,Ee s)] [] 1013 rfl rfl rfl ø rfl (Jr fun d=>(JLh (.agg (Gi.cs s)) (Gk Jd O O O) O (JLm (E7 boxes) O (JLm (E1 bf) O (JLm (E1 af) O ?_))))))))))))
 obtain⟨a,e,h⟩:=Ge h
 refine JLh (.tup [E2 a.1,I64 a.2]) (Gu O (J25 F s boxes bf af a e) R1d ⟨O,O,O,O,O,O,O,O,ø⟩) O (JLm (.tup [E2 a.1,I64 a.2]) O (JLh (E2 a.1) (Gz O O O) O (JLh (I64 a.2) (Gz O O O) O (JLm (E2 a.1) O (JLm (I64 a.2) O (G5 (d (Js fun f=>Jr fun g=>(JLm (I64 a.2) O (JLh (BL (decide (a.2≠0))) (Gca O O O) O (G5 (g (JCc O h (fun h hb=>?_) (fun h hb=>?_))))))))))))))
 ·
  refine Jr fun i=>(JLm (I64 a.2) O (JLh (Ea ([]:List Move)) (Jh 6 O O) O (JLm (I64 a.2) O (G5 (i (Gs (⟨[Ea ([]:List Move),I64 a.2],[],ø,O,⟨⟨_,O,.conv (.same O)⟩,⟨_,O,.conv (.same O)⟩,ø⟩,O,congrArg (fun r:(List Move)×Int=>(.tup [Ea r.1,I64 r.2]:AV)) (M7 h)⟩)))))))
 ·
  refine Gm (f (Jr fun j=>(JLh (.agg (Gi.cs s)) (Gk Jd O O O) O (JLm (E1 bf) O (JLm (E1 af) O (JLm (E2 a.1) O ?_))))))
  obtain⟨b,k,h⟩:=Ge h
  refine JLh (Ea b) (Gu O (Qf8 F s bf af a.1 b k) Y29 ⟨O,O,O,O,O,O,O,O,ø⟩) O (JLm (Ea b) O (JLm (I64 0) O (G5 (j (Gs (⟨[Ea b,I64 0],[],ø,O,⟨⟨_,O,.conv (.same O)⟩,⟨_,O,.conv (.same O)⟩,ø⟩,O,congrArg (fun r:(List Move)×Int=>(.tup [Ea r.1,I64 r.2]:AV)) (M7 h)⟩))))))

end
end Go.Proofs.YtgcpimpnpcdmmaaGreat
