/- Walks of functions. -/
import Derived.Test.YtgcpimpnpcdmmaaGreatXV
set_option maxRecDepth 100000
set_option maxHeartbeats 1000000
set_option linter.unusedVariables false
set_option linter.unusedSimpArgs false
namespace Go.Proofs.YtgcpimpnpcdmmaaGreat
open Go.RowKit
noncomputable section
def J44:ByteArray:=ByteArray.mk #[0,1,2,2,3,3,3,3,4,4,4,4,4,4,4,4,5,5,5,5,5,5,5,5,5,5,5,5,5,5,5,5,6,6,6,6,6,6,6,6,6,6,6,6,6,6,6,6,6,6,6,6,6,6,6,6,6,6,6,6,6,6,6,6,7,7,7,7,7,7,7,7,7,7,7,7,7,7,7,7,7,7,7,7,7,7,7,7,7,7,7,7,7,7,7,7,7,7,7,7,7,7,7,7,7,7,7,7,7,7,7,7,7,7,7,7,7,7,7,7,7,7,7,7,7,7,7,7,8,8,8,8,8,8,8,8,8,8,8,8,8,8,8,8,8,8,8,8,8,8,8,8,8,8,8,8,8,8,8,8,8,8,8,8,8,8,8,8,8,8,8,8,8,8,8,8,8,8,8,8,8,8,8,8,8,8,8,8,8,8,8,8,8,8,8,8,8,8,8,8,8,8,8,8,8,8,8,8,8,8,8,8,8,8,8,8,8,8,8,8,8,8,8,8,8,8,8,8,8,8,8,8,8,8,8,8,8,8,8,8,8,8,8,8,8,8,8,8,8,8,8,8,8,8,8,8]
namespace XMF
open XAF
open XCF
open XSF
open XKF
open XTF
open XUF
open XVF
theorem Rbf:H1 En 102=true:=by kernel_rfl
theorem Rbe:H1 En 103=true:=by kernel_rfl
theorem Q4c:H1 En 104=true:=by kernel_rfl
theorem Q4b:H1 En 105=true:=by kernel_rfl
theorem Q4a:H1 En 106=true:=by kernel_rfl
theorem Rbd:H1 En 107=true:=by kernel_rfl
theorem Rbc:H1 En 108=true:=by kernel_rfl
theorem J11:H1 En 12=true:=by kernel_rfl
theorem J4d:H1 En 127=true:=by kernel_rfl
theorem Rb0:H1 En 136=true:=by kernel_rfl
theorem Rae:H1 En 139=true:=by kernel_rfl
theorem Rad:H1 En 140=true:=by kernel_rfl
theorem Rac:H1 En 141=true:=by kernel_rfl
theorem Q43:H1 En 164=true:=by kernel_rfl
theorem Ra5:H1 En 165=true:=by kernel_rfl
theorem Ra4:H1 En 171=true:=by kernel_rfl
theorem Y36:H1 En 30=true:=by kernel_rfl
theorem Y2f:H1 En 39=true:=by kernel_rfl
theorem J0b:H1 En 55=true:=by kernel_rfl
theorem Qb1:H1 En 56=true:=by kernel_rfl
theorem Qb0:H1 En 57=true:=by kernel_rfl
theorem H91:H1 En 58=true:=by kernel_rfl
theorem Qaf:H1 En 59=true:=by kernel_rfl
theorem R2c:H1 En 9=true:=by kernel_rfl
theorem Y16:H1 En 91=true:=by kernel_rfl
theorem Qa8:H1 En 92=true:=by kernel_rfl
theorem H8f:Yy En 59 6 48=true:=by kernel_rfl
theorem Q96:J94 En 160 .u64=true:=by kernel_rfl
theorem Y13:J94 En 200 .u64=true:=by kernel_rfl
theorem Z3:placesOf En 59=some [(0,1),(1,1),(2,3),(5,1)]:=by kernel_rfl
theorem H0a:Rb En 45=true:=by kernel_rfl
theorem Q90:Yg En 45 1=true:=by kernel_rfl
theorem H8b:Yg En 59 6=true:=by kernel_rfl
theorem Jp:sliceB En 45 59 6=true:=by kernel_rfl
theorem R9d:Yb8 En 9=true:=by kernel_rfl
theorem Y0f:(En.info? 45).bind (fun i=>i.zero.map Value.cells)=some (List.toArray [.slice none 0 0]):=by kernel_rfl
theorem G17:(En.info? 59).bind (fun i=>i.zero.map Value.cells)=some (List.toArray [.int .u8 0,E0,E0,E0,.int .u8 0,E0]):=by kernel_rfl
theorem H57:R1 En 59 6=true:=by kernel_rfl
end XMF
open XAF
open XCF
open XSF
open XKF
open XTF
open XUF
open XVF
open XMF

def H1f (x:Int):Option Int:=
 jp (fun c=>
  bif decide (4294967296≤x) then
  (c (Gee .u64 x 32,32))
  else
  (c (x,0))) fun(a:Int×Int)=>
 jp (fun d=>
  bif decide (65536≤a.1) then
  (chk (a.2+16) fun k=>
   d (Gee .u64 a.1 16,k))
  else
  (d (a.1,a.2))) fun(b:Int×Int)=>
 jp (fun e=>
  bif decide (256≤b.1) then
  (chk (b.2+8) fun f=>
   e (Gee .u64 b.1 8,f))
  else
  (e (b.1,b.2))) fun(g:Int×Int)=>
 bnd (Z4b J44 (IntKind.u8.wrap g.1)) fun h=>
 chk (h) fun i=>
 chk (g.2+i) fun j=>
 some j
theorem J99 (x:Int) (r:Int) (h:H1f x=some r):Pure En 136 [.sc (.int .u64 x)] (·=I64 r):=by
 unfold H1f at h
 refine Gz [.tmp 2] Tryz.func136 O O (Jr fun t=>(JLm (I64 0) O (G6 (t ?_))))
 obtain⟨u,f,h⟩:=Rc h
 refine Qk (fun a:Int×Int=>u a=some r) (fun a=>[(0,.sc (.int .u64 a.1)),(2,I64 a.2)]) (fun a=>[]) (fun Kj2 ej2=>?_) ?_
 ·
  refine Jr fun v=>(JLm (.sc (.int .u64 x)) O (JLh (BL (decide (4294967296≤x))) (H2c O O O) O (G6 (v (JCc O h (fun h hb=>?_) (fun h hb=>?_))))))
  ·
   refine Jr fun w=>(JLm (.sc (.int .u64 x)) O (JLh (.sc (.int .u64 (Gee .u64 x 32))) (Jd0 (s:=32) O O O O) O (JLm (.sc (.int .u64 (Gee .u64 x 32))) O (G6 (w (G2 (JLm (I64 32) O (G6 (ej2 _ _ (Gee .u64 x 32,32) h ⟨(.sm O O),ø,O⟩)))))))))
  ·
   refine Gk (ej2 _ _ (x,0) h ⟨(.sm O O),ø,O⟩)
 ·intro a h
  replace h:=app1 f h
  obtain⟨y,g,h⟩:=Rc h
  refine Qk (fun b:Int×Int=>y b=some r) (fun b=>[(0,.sc (.int .u64 b.1)),(2,I64 b.2)]) (fun b=>[]) (fun Kj5 ej5=>?_) ?_
  ·
   refine Jr fun z=>(JLm (.sc (.int .u64 a.1)) O (JLh (BL (decide (65536≤a.1))) (H2c O O O) O (G6 (z (JCc O h (fun h hb=>?_) (fun h hb=>?_))))))
   ·
    refine Jr fun a0=>(JLm (.sc (.int .u64 a.1)) O (JLh (.sc (.int .u64 (Gee .u64 a.1 16))) (Jd0 (s:=16) O O O O) O (JLm (.sc (.int .u64 (Gee .u64 a.1 16))) O (G6 (a0 (G2 (JLm (I64 a.2) O ?_)))))))
    obtain⟨i,a1,h⟩:=Ht h
    refine JLh (I64 i) (J3 a1 O O O) O (JLm (I64 i) O (G6 (ej5 _ _ (Gee .u64 a.1 16,i) h ⟨(.sm O O),ø,O⟩)))
   ·
    refine Gk (ej5 _ _ (a.1,a.2) h ⟨(.sm O O),ø,O⟩)
  ·intro b h
   replace h:=app1 g h
   obtain⟨a2,j,h⟩:=Rc h
   refine Qk (fun c:Int×Int=>a2 c=some r) (fun c=>[(0,.sc (.int .u64 c.1)),(2,I64 c.2)]) (fun c=>[]) (fun Kj9 ej9=>?_) ?_
   ·
    refine Jr fun k=>(JLm (.sc (.int .u64 b.1)) O (JLh (BL (decide (256≤b.1))) (H2c O O O) O (G6 (k (JCc O h (fun h hb=>?_) (fun h hb=>?_))))))
    ·
     refine Jr fun l=>(JLm (.sc (.int .u64 b.1)) O (JLh (.sc (.int .u64 (Gee .u64 b.1 8))) (Jd0 (s:=8) O O O O) O (JLm (.sc (.int .u64 (Gee .u64 b.1 8))) O (G6 (l (G2 (JLm (I64 b.2) O ?_)))))))
     obtain⟨d,m,h⟩:=Ht h
     refine JLh (I64 d) (J3 m O O O) O (JLm (I64 d) O (G6 (ej9 _ _ (Gee .u64 b.1 8,d) h ⟨(.sm O O),ø,O⟩)))
    ·
     refine Gk (ej9 _ _ (b.1,b.2) h ⟨(.sm O O),ø,O⟩)
   ·intro c h
    replace h:=app1 j h
    refine Jr fun n=>(JLm (I64 c.2) O (JLm (.sc (.int .u64 c.1)) O (JLh (U8 (IntKind.u8.wrap c.1)) (G9c G21 Y13 O O O) O ?_)))
    obtain⟨a3,o,h⟩:=Gd h
    refine JLh (U8 a3) (Rfe R9d O O O o) O ?_
    obtain⟨a4,p,h⟩:=Ht h
    refine JLh (I64 a4) (G9c G22 G21 p O O) O ?_
    obtain⟨e,q,h⟩:=Ht h
    refine JLh (I64 e) (J3 q O O O) O (JLm (I64 e) O (G6 (n (Gs (fin1 I64 h)))))

def G41 (x:Int):Option Int:=
 bnd (H1f x) fun a=>
 some a
theorem Hce (x:Int) (r:Int) (h:G41 x=some r):Pure En 92 [.sc (.int .u64 x)] (·=I64 r):=by
 unfold G41 at h
 refine Gz [.tmp 2] Tryz.func92 O O (Jr fun b=>(JLm (I64 0) O (G6 (b (Js fun c=>G3b O (Gk (c (Jr fun d=>(JLm (.sc (.int .u64 x)) O ?_)))))))))
 obtain⟨a,e,h⟩:=Gd h
 refine JLh (I64 a) (Gu O (J99 x a e) Rb0 ⟨O,O,ø⟩) O (JLm (I64 a) O (G6 (d (Gs (fin1 I64 h)))))

def G0f (kind:Int) (l:List G1) (d:List Move):Option (List Move):=
 each (fun a e (b:(List Move)) c=>
  need (decide ((b.length+[(Move.mk kind a.Box a.Slot 0)].length)*48≤140737488355328∧b.length+[(Move.mk kind a.Box a.Slot 0)].length≤maxLen)) <|
  c (b++[(Move.mk kind a.Box a.Slot 0)]))
 (fun(b:(List Move))=>
  some b) l 0 d
theorem Gc9 (kind:Int) (l:List G1) (d:List Move) (r:(List Move)) (h:G0f kind l d=some r):Hx En 55 [U8 kind,E1 l,.ptr 1053 0] [(1053,.box 45 [OW 1054 6 Move.av d]),(1054,.spare 59 6 d.length d.length)] (fun av L'=>av=.tup []∧L'=[(1053,.box 45 [OW 1054 6 Move.av r]),(1054,.spare 59 6 r.length r.length)]):=by
 unfold G0f at h
 refine Ji [1053,1054] [] Tryz.func55 O O (G0c O) (Jr fun v=>(JLm (E1 l) O (JLl H5 O O O fun w=>(JLm (I64 0) O (G6 (v (Gq ?_)))))))
 obtain⟨x,j,k,i,h⟩:=Je h
 refine Hm (fun c (b:(List Move))=>each x j (List.drop c l) c b=some r) (fun c b=>[(0,U8 kind),(2,.ptr 1053 0),(7,E1 l),(8,Em l.length),(9,Em c)]) (fun c b=>[(1054,.spare 59 6 b.length b.length),(1053,.box 45 [OW 1054 6 Move.av b])]) (fun c=>l.length - c) 0 d h ⟨(.sm O O),⟨⟨_,rfl,.same⟩,fbQ O ⟨.same rfl,ø⟩,ø⟩,rfl⟩ ?_
 clear h
 intro c b e a1 z
 refine Jr fun m=>(JLh (BL (decide ((c:Int) < (l.length:Int)))) (Jn O O O) O (G6 (m (Js fun n=>Gp O (fun hb=>?_) (fun hb=>?_)))))
 ·
  have g:=Jz hb
  obtain⟨a,a0,o,p,h⟩:=Hv e g
  replace h:=Zm k h
  refine Gk (n (Js fun q=>Gq (Jr fun s=>(JLh (Eh a) (Hb (f:=G1.av) (xs:=l) (y:=a) O O O H5 o O) O (JLh (.agg (G1.cs a)) (Gm Qh O O O) O (JLh (.ptr 1110 0) (Hj 1110 4 Q3 O O) O (Hq (u:=.junk) (H7 (u:=.agg (G1.cs a)) (ds:=[I64 a.Box,I64 a.Slot.G3,I64 a.Slot.Tier,U8 a.Slot.Half]) Ru O O O O O O O O) (G6 (s (fzQ [(0,U8 kind),(2,.ptr 1053 0),(6,Eh a),(7,E1 l),(8,Em l.length),(9,Em c)] [(1054,.spare 59 6 b.length b.length),(1053,.box 45 [OW 1054 6 Move.av b])] 1110 rfl rfl rfl ⟨⟨_,rfl,.same⟩,⟨_,rfl,.boxEq rfl rfl⟩,ø⟩ rfl (G2 ?_)))))))))))
  refine JLh (OW 1054 6 Move.av b) (J2 H0a O O O O) O (JLm (U8 kind) O (JLh (Eh a) (Ga Ja O O O) O (JLh (I64 a.Box) (Gg Gb O O O) O (JLh (.dptr ((G1.cs a).drop 1)) (Ga Jt O O O) O (JLh (.agg ((G1.cs a).drop 1)) (Gm J4 O O O) O (JLh (.agg [U8 kind,I64 a.Box,I64 a.Slot.G3,I64 a.Slot.Tier,U8 a.Slot.Half,I64 0]) (Hi (cs:=[U8 kind,I64 a.Box,I64 a.Slot.G3,I64 a.Slot.Tier,U8 a.Slot.Half,I64 0]) [(0,1),(1,1),(2,3),(5,1)] [U8 0,I64 0,I64 0,I64 0,U8 0,I64 0] [.int .u8 0,E0,E0,E0,.int .u8 0,E0] Z3 G17 (zzQ O) O O) O (JLh (E9 [(Move.mk kind a.Box a.Slot 0)]) (He (xs:=[.agg [U8 kind,I64 a.Box,I64 a.Slot.G3,I64 a.Slot.Tier,U8 a.Slot.Half,I64 0]]) O ⟨O,O,ø⟩ Jp H57 O O O O) O ?_)))))))
  obtain⟨t,h⟩:=Jf h
  refine JLh (OW 1054 6 Move.av (b++[(Move.mk kind a.Box a.Slot 0)])) (Yo (f:=Move.av) (xs:=b) (ys:=[(Move.mk kind a.Box a.Slot 0)]) O O O O Jp H8f t (fun _=>O) (.inl O) O) O (Hq (u:=.junk) (H7 (u:=OW 1054 6 Move.av (b++[(Move.mk kind a.Box a.Slot 0)])) (ds:=[OW 1054 6 Move.av (b++[(Move.mk kind a.Box a.Slot 0)])]) Q90 O O O O O O O O) (G6 (q (G2 (JLh (I64 ((c+1:Nat):Int)) (J3 (Hp g w) O O O) O (JLm (I64 ((c+1:Nat):Int)) O (G6 (z _ _ (c+1) (b++[(Move.mk kind a.Box a.Slot 0)]) (app1 p h) (by omega) ⟨(.sm O O),⟨⟨_,rfl,.same⟩,fbQ O ⟨.same rfl,ø⟩,ø⟩,rfl⟩))))))))
 ·
  have h:=app1 i (Hw e (Hf hb))
  refine Hr ?_
  obtain rfl:=M8 h
  exact⟨[],[(1053,.box 45 [OW 1054 6 Move.av b]),(1054,.spare 59 6 b.length b.length)],⟨⟨_,O,.boxL O ⟨.same O,ø⟩⟩,⟨_,O,.same⟩,ø⟩,O,ø,O,O⟩

def G72 (kind:Int) (l:List Int) (d:List Move):Option (List Move):=
 each (fun b e (a:(List Move)) c=>
  need (decide ((a.length+[(Move.mk kind 0 (Slot.mk 0 0 0) b)].length)*48≤140737488355328∧a.length+[(Move.mk kind 0 (Slot.mk 0 0 0) b)].length≤maxLen)) <|
  c (a++[(Move.mk kind 0 (Slot.mk 0 0 0) b)]))
 (fun(a:(List Move))=>
  some a) l 0 d
theorem J00 (kind:Int) (l:List Int) (d:List Move) (r:(List Move)) (h:G72 kind l d=some r):Hx En 56 [U8 kind,E2 l,.ptr 1053 0] [(1053,.box 45 [OW 1054 6 Move.av d]),(1054,.spare 59 6 d.length d.length)] (fun av L'=>av=.tup []∧L'=[(1053,.box 45 [OW 1054 6 Move.av r]),(1054,.spare 59 6 r.length r.length)]):=by
 unfold G72 at h
 refine Ji [1053,1054] [] Tryz.func56 O O (G0c O) (Jr fun v=>(JLm (E2 l) O (JLl H3 O O O fun w=>(JLm (I64 0) O (G6 (v (Gq ?_)))))))
 obtain⟨x,j,k,i,h⟩:=Je h
 refine Hm (fun c (a:(List Move))=>each x j (List.drop c l) c a=some r) (fun c a=>[(0,U8 kind),(2,.ptr 1053 0),(7,E2 l),(8,Em l.length),(9,Em c)]) (fun c a=>[(1054,.spare 59 6 a.length a.length),(1053,.box 45 [OW 1054 6 Move.av a])]) (fun c=>l.length - c) 0 d h ⟨(.sm O O),⟨⟨_,rfl,.same⟩,fbQ O ⟨.same rfl,ø⟩,ø⟩,rfl⟩ ?_
 clear h
 intro c a e a1 z
 refine Jr fun m=>(JLh (BL (decide ((c:Int) < (l.length:Int)))) (Jn O O O) O (G6 (m (Js fun n=>Gp O (fun hb=>?_) (fun hb=>?_)))))
 ·
  have g:=Jz hb
  obtain⟨b,a0,o,p,h⟩:=Hv e g
  replace h:=Zm k h
  refine Gk (n (Js fun q=>Gq (Jr fun s=>(JLh (.dptr [I64 b]) (Hb (f:=I64) (xs:=l) (y:=b) O O O H3 o O) O (JLh (I64 b) (Gg Gb O O O) O (JLm (I64 b) O (G6 (s (G2 ?_)))))))))
  refine JLh (OW 1054 6 Move.av a) (J2 H0a O O O O) O (JLm (U8 kind) O (JLm (I64 b) O (JLh (.agg [U8 kind,I64 0,I64 0,I64 0,U8 0,I64 b]) (Hi (cs:=[U8 kind,I64 0,I64 0,I64 0,U8 0,I64 b]) [(0,1),(1,1),(2,3),(5,1)] [U8 0,I64 0,I64 0,I64 0,U8 0,I64 0] [.int .u8 0,E0,E0,E0,.int .u8 0,E0] Z3 G17 (zzQ O) O O) O (JLh (E9 [(Move.mk kind 0 (Slot.mk 0 0 0) b)]) (He (xs:=[.agg [U8 kind,I64 0,I64 0,I64 0,U8 0,I64 b]]) O ⟨O,O,ø⟩ Jp H57 O O O O) O ?_))))
  obtain⟨t,h⟩:=Jf h
  refine JLh (OW 1054 6 Move.av (a++[(Move.mk kind 0 (Slot.mk 0 0 0) b)])) (Yo (f:=Move.av) (xs:=a) (ys:=[(Move.mk kind 0 (Slot.mk 0 0 0) b)]) O O O O Jp H8f t (fun _=>O) (.inl O) O) O (Hq (u:=.junk) (H7 (u:=OW 1054 6 Move.av (a++[(Move.mk kind 0 (Slot.mk 0 0 0) b)])) (ds:=[OW 1054 6 Move.av (a++[(Move.mk kind 0 (Slot.mk 0 0 0) b)])]) Q90 O O O O O O O O) (G6 (q (G2 (JLh (I64 ((c+1:Nat):Int)) (J3 (Hp g w) O O O) O (JLm (I64 ((c+1:Nat):Int)) O (G6 (z _ _ (c+1) (a++[(Move.mk kind 0 (Slot.mk 0 0 0) b)]) (app1 p h) (by omega) ⟨(.sm O O),⟨⟨_,rfl,.same⟩,fbQ O ⟨.same rfl,ø⟩,ø⟩,rfl⟩))))))))
 ·
  have h:=app1 i (Hw e (Hf hb))
  refine Hr ?_
  obtain rfl:=M8 h
  exact⟨[],[(1053,.box 45 [OW 1054 6 Move.av a]),(1054,.spare 59 6 a.length a.length)],⟨⟨_,O,.boxL O ⟨.same O,ø⟩⟩,⟨_,O,.same⟩,ø⟩,O,ø,O,O⟩

def Y8 (s:List Int) (v:Int):Option Int:=
 each (fun b c (d:Unit) a=>
  bif decide (v=b) then
  (some (c:Int))
  else
  (a ()))
 (fun(d:Unit)=>
  some (-1)) s 0 ()
theorem J6c (s:List Int) (v:Int) (r:Int) (h:Y8 s v=some r):Pure En 39 [E2 s,I64 v] (·=I64 r):=by
 unfold Y8 at h
 refine Gz [.tmp 4] Tryz.func39 O O (Jr fun w=>(JLm (I64 0) O (G6 (w (Js fun x=>Jr fun z=>(JLm (E2 s) O (JLl H3 O O O fun a0=>(JLm (I64 0) O (G6 (z (Gq ?_)))))))))))
 obtain⟨a1,i,j,g,h⟩:=Je h
 refine Hm (fun a (b:Unit)=>each a1 i (List.drop a s) a b=some r) (fun a b=>[(0,E2 s),(1,I64 v),(7,Em s.length),(8,Em a)]) (fun a b=>[]) (fun a=>s.length - a) 0 () h ⟨(.sm O O),ø,rfl⟩ ?_
 clear h
 intro a b d a4 a2
 refine Jr fun k=>(JLh (BL (decide ((a:Int) < (s.length:Int)))) (Jn O O O) O (G6 (k (Js fun l=>Gp O (fun hb=>?_) (fun hb=>?_)))))
 ·
  have e:=Jz hb
  obtain⟨c,a3,m,n,h⟩:=Hv d e
  replace h:=Zm j h
  refine Gk (l (Js fun o=>Gq (Jr fun p=>(JLm (Em a) O (JLm (Em a) O (G6 (p (Jr fun q=>(JLm (I64 v) O (JLm (E2 s) O (JLm (Em a) O (JLh (.dptr [I64 c]) (Hb (f:=I64) (xs:=s) (y:=c) O O O H3 m O) O (JLh (I64 c) (Gg Gb O O O) O (JLh (BL (decide (v=c))) (Qg O O O) O (G6 (q (JCc O h (fun h hb=>?_) (fun h hb=>?_))))))))))))))))))
  ·
   refine Jr fun t=>(JLm (Em a) O (JLm (Em a) O (G6 (t (Gs (fin1 I64 h))))))
  ·
   refine Gk (o (G2 (JLh (I64 ((a+1:Nat):Int)) (J3 (Hp e a0) O O O) O (JLm (I64 ((a+1:Nat):Int)) O (G6 (a2 _ _ (a+1) () (app1 n h) (by omega) ⟨(.sm O O),ø,rfl⟩))))))
 ·
  have h:=app1 g (Hw d (Hf hb))
  refine Hr (x (Jr fun u=>(JLm (I64 (-1)) O (G6 (u (Gs (fin1 I64 h)))))))

def Jx (s:List Int) (v:Int):Option Bool:=
 bnd (Y8 s v) fun a=>
 some (decide (0≤a))
theorem G14 (s:List Int) (v:Int) (r:Bool) (h:Jx s v=some r):Pure En 12 [E2 s,I64 v] (·=BL r):=by
 unfold Jx at h
 refine Gz [.tmp 4] Tryz.func12 O O (Jr fun b=>(JLm (BL false) O (G6 (b (Jr fun c=>(JLm (E2 s) O (JLm (I64 v) O ?_)))))))
 obtain⟨a,d,h⟩:=Gd h
 refine JLh (I64 a) (Gu O (J6c s v a d) Y2f ⟨O,O,O,O,ø⟩) O (JLh (BL (decide (0≤a))) (H2c O O O) O (JLm (BL (decide (0≤a))) O (G6 (c (Gs (fin1 BL h))))))

def G52 (x:Int):Option Bool:=
 some (decide (x≠x))
theorem H77 (x:Int) (r:Bool) (h:G52 x=some r):Pure En 164 [U8 x] (·=BL r):=by
 unfold G52 at h
 refine Gz [.tmp 2] Tryz.func164 O O (Jr fun a=>(JLm (BL false) O (G6 (a (Jr fun b=>(JLm (U8 x) O (JLm (U8 x) O (JLh (BL (decide (x≠x))) (G8e O O O) O (JLm (BL (decide (x≠x))) O (G6 (b (Gs (fin1 BL h)))))))))))))

def G28 (x:Int) (y:Int):Option Int:=
 bnd (G52 x) fun b=>
 bnd (G52 y) fun a=>
 bif b then
 (bif a then
  (some 0)
  else
  (some (-1)))
 else
 (bif a then
  (some 1)
  else
  (bif decide (x < y) then
   (some (-1))
   else
   (bif decide (y < x) then
    (some 1)
    else
    (some 0))))
theorem J43 (x:Int) (y:Int) (r:Int) (h:G28 x y=some r):Pure En 140 [U8 x,U8 y] (·=I64 r):=by
 unfold G28 at h
 refine Gz [.tmp 4] Tryz.func140 O O (Jr fun p=>(JLm (I64 0) O (G6 (p (Jr fun q=>(JLm (U8 x) O ?_))))))
 obtain⟨b,s,h⟩:=Gd h
 refine JLh (BL b) (Gu O (H77 x b s) Q43 ⟨O,O,ø⟩) O (JLm (BL b) O (G6 (q (Jr fun t=>(JLm (U8 y) O ?_)))))
 obtain⟨a,u,h⟩:=Gd h
 refine JLh (BL a) (Gu O (H77 y a u) Q43 ⟨O,O,ø⟩) O (JLm (BL a) O (G6 (t (Js fun v=>Jr fun w=>(JLm (BL b) O (G6 (w (JCc O h (fun h hb=>?_) (fun h hb=>?_)))))))))
 ·
  refine Js fun z=>Jr fun a0=>(JLm (BL a) O (G6 (a0 (JCc O h (fun h hb=>?_) (fun h hb=>?_)))))
  ·
   refine Jr fun c=>(JLm (I64 0) O (G6 (c (Gs (fin1 I64 h)))))
  ·
   refine Gk (z (Jr fun d=>(JLm (I64 (-1)) O (G6 (d (Gs (fin1 I64 h)))))))
 ·
  refine Gk (v (Js fun e=>Jr fun f=>(JLm (BL a) O (G6 (f (JCc O h (fun h hb=>?_) (fun h hb=>?_)))))))
  ·
   refine Jr fun g=>(JLm (I64 1) O (G6 (g (Gs (fin1 I64 h)))))
  ·
   refine Gk (e (Js fun i=>Jr fun j=>(JLm (U8 x) O (JLm (U8 y) O (JLh (BL (decide (x < y))) (Jn O O O) O (G6 (j (JCc O h (fun h hb=>?_) (fun h hb=>?_)))))))))
   ·
    refine Jr fun k=>(JLm (I64 (-1)) O (G6 (k (Gs (fin1 I64 h)))))
   ·
    refine Gk (i (Js fun l=>Jr fun m=>(JLm (U8 x) O (JLm (U8 y) O (JLh (BL (decide (y < x))) (Gd1 O O O) O (G6 (m (JCc O h (fun h hb=>?_) (fun h hb=>?_)))))))))
    ·
     refine Jr fun n=>(JLm (I64 1) O (G6 (n (Gs (fin1 I64 h)))))
    ·
     refine Gk (l (Jr fun o=>(JLm (I64 0) O (G6 (o (Gs (fin1 I64 h)))))))

def Gca (vals:List Int):Option Int:=
 each (fun a d (c:Unit) b=>
  bif decide (a≠0) then
  (some a)
  else
  (b ()))
 (fun(c:Unit)=>
  some 0) vals 0 ()
theorem J6f (vals:List Int) (r:Int) (h:Gca vals=some r):Pure En 106 [E2 vals] (·=I64 r):=by
 unfold Gca at h
 refine Gz [.tmp 2] Tryz.func106 O O (Jr fun u=>(JLm (I64 0) O (G6 (u (Jr fun v=>(JLm (I64 0) O (G6 (v (Js fun w=>Jr fun x=>(JLm (E2 vals) O (JLl H3 O O O fun z=>(JLm (I64 0) O (G6 (x (Gq ?_)))))))))))))))
 obtain⟨a0,i,j,g,h⟩:=Je h
 refine Hm (fun a (c:Unit)=>each a0 i (List.drop a vals) a c=some r) (fun a c=>[(3,I64 0),(6,E2 vals),(7,Em vals.length),(8,Em a)]) (fun a c=>[]) (fun a=>vals.length - a) 0 () h ⟨(.sm O O),ø,rfl⟩ ?_
 clear h
 intro a c d a3 a1
 refine Jr fun k=>(JLh (BL (decide ((a:Int) < (vals.length:Int)))) (Jn O O O) O (G6 (k (Js fun l=>Gp O (fun hb=>?_) (fun hb=>?_)))))
 ·
  have e:=Jz hb
  obtain⟨b,a2,m,n,h⟩:=Hv d e
  replace h:=Zm j h
  refine Gk (l (Js fun o=>Gq (Jr fun p=>(JLh (.dptr [I64 b]) (Hb (f:=I64) (xs:=vals) (y:=b) O O O H3 m O) O (JLh (I64 b) (Gg Gb O O O) O (JLm (I64 b) O (G6 (p (Jr fun q=>(JLm (I64 b) O (JLm (I64 0) O (JLh (BL (decide (b≠0))) (G8e O O O) O (G6 (q (JCc O h (fun h hb=>?_) (fun h hb=>?_))))))))))))))))
  ·
   refine Jr fun s=>(JLm (I64 b) O (JLm (I64 b) O (G6 (s (Gs (fin1 I64 h))))))
  ·
   refine Gk (o (G2 (JLh (I64 ((a+1:Nat):Int)) (J3 (Hp e z) O O O) O (JLm (I64 ((a+1:Nat):Int)) O (G6 (a1 _ _ (a+1) () (app1 n h) (by omega) ⟨(.sm O O),ø,rfl⟩))))))
 ·
  have h:=app1 g (Hw d (Hf hb))
  refine Hr (w (Jr fun t=>(JLm (I64 0) O (JLm (I64 0) O (G6 (t (Gs (fin1 I64 h))))))))

def Gb1 (a:Slot) (b:Slot):Option Int:=
 bnd (Qw a.G3 b.G3) fun c=>
 bnd (Qw a.Tier b.Tier) fun d=>
 bnd (G28 a.Half b.Half) fun e=>
 bnd (Gca [c,d,e]) fun f=>
 some f
theorem Q31 (a:Slot) (b:Slot) (r:Int) (h:Gb1 a b=some r):Pure En 107 [.agg [I64 a.G3,I64 a.Tier,U8 a.Half],.agg [I64 b.G3,I64 b.Tier,U8 b.Half]] (·=I64 r):=by
 unfold Gb1 at h
 refine Gz [.tmp 4] Tryz.func107 O O (Jr fun g=>(JLh (.ptr 1181 0) (Q6 (cs:=[I64 a.G3,I64 a.Tier,U8 a.Half]) 1181 O O O O O) O (JLh (.ptr 1182 0) (Q6 (cs:=[I64 b.G3,I64 b.Tier,U8 b.Half]) 1182 O O O O O) O (JLm (I64 0) O (G6 (g (Gr [(2,.dptr [I64 a.G3,I64 a.Tier,U8 a.Half]),(3,.ptr 1182 0)] [(1182,.box 57 [I64 b.G3,I64 b.Tier,U8 b.Half])] 1181 rfl rfl rfl ⟨⟨_,rfl,.boxEq rfl rfl⟩,ø⟩ rfl (by exact⟨.ptr,.conv (.same rfl),ø⟩) (Gr [(2,.dptr [I64 a.G3,I64 a.Tier,U8 a.Half]),(3,.dptr [I64 b.G3,I64 b.Tier,U8 b.Half])] [] 1182 rfl rfl rfl ø rfl (by exact⟨.conv (.same rfl),.ptr,ø⟩) (Js fun i=>?_)))))))))
 obtain⟨c,j,h⟩:=Gd h
 obtain⟨d,k,h⟩:=Gd h
 obtain⟨e,l,h⟩:=Gd h
 obtain⟨f,m,h⟩:=Gd h
 refine JC_d0 J1 (by kernel_rfl) (Dq (.dptr [I64 a.G3,I64 a.Tier,U8 a.Half]) (Ga Jb O O O) O (Dq (I64 a.G3) (Gg Gb O O O) O (Dq (.dptr [I64 b.G3,I64 b.Tier,U8 b.Half]) (Ga Jb O O O) O (Dq (I64 b.G3) (Gg Gb O O O) O (Dq (I64 c) (Gu (args:=[I64 a.G3,I64 b.G3]) O (Zs a.G3 b.G3 c j) H31 ⟨O,O,O,O,ø⟩) O (Dq (.dptr [I64 a.Tier,U8 a.Half]) (Ga Qz O O O) O (Dq (I64 a.Tier) (Gg Gb O O O) O (Dq (.dptr [I64 b.Tier,U8 b.Half]) (Ga Qz O O O) O (Dq (I64 b.Tier) (Gg Gb O O O) O (Dq (I64 d) (Gu (args:=[I64 a.Tier,I64 b.Tier]) O (Zs a.Tier b.Tier d k) H31 ⟨O,O,O,O,ø⟩) O (Dq (.dptr [U8 a.Half]) (Ga Qy O O O) O (Dq (U8 a.Half) (Gg Hy O O O) O (Dq (.dptr [U8 b.Half]) (Ga Qy O O O) O ?_)))))))))))))
 refine Dq (U8 b.Half) (Gg Hy O O O) O (Dq (I64 e) (Gu (args:=[U8 a.Half,U8 b.Half]) O (J43 a.Half b.Half e l) Rad ⟨O,O,O,O,ø⟩) O (Dq (E2 [c,d,e]) (He (xs:=[I64 c,I64 d,I64 e]) O ⟨O,O,O,O,O,O,ø⟩ H3 Y6 O O O O) O (Dq (I64 f) (Gu (args:=[E2 [c,d,e]]) O (J6f [c,d,e] f m) Q4a ⟨O,O,ø⟩) O (Dq (I64 f) (G7 O O) O (Dnil (i (Gs (fin1 I64 h))))))))

def G3a (a:G1) (b:G1):Option Int:=
 bnd (Qw a.Slot.Tier b.Slot.Tier) fun c=>
 bnd (Gb1 a.Slot b.Slot) fun d=>
 bnd (Gca [c,d]) fun e=>
 some e
theorem Hfe (a:G1) (b:G1) (r:Int) (h:G3a a b=some r):Pure En 105 [.agg (G1.cs a),.agg (G1.cs b)] (·=I64 r):=by
 unfold G3a at h
 refine Gz [.tmp 4] Tryz.func105 O O (Jr fun f=>(JLh (.ptr 1179 0) (Q6 (cs:=[I64 a.Box,I64 a.Slot.G3,I64 a.Slot.Tier,U8 a.Slot.Half]) 1179 O O O O O) O (JLh (.ptr 1180 0) (Q6 (cs:=[I64 b.Box,I64 b.Slot.G3,I64 b.Slot.Tier,U8 b.Slot.Half]) 1180 O O O O O) O (JLm (I64 0) O (G6 (f (Gr [(2,Eh a),(3,.ptr 1180 0)] [(1180,.box 64 [I64 b.Box,I64 b.Slot.G3,I64 b.Slot.Tier,U8 b.Slot.Half])] 1179 rfl rfl rfl ⟨⟨_,rfl,.boxEq rfl rfl⟩,ø⟩ rfl (by exact⟨.ptr,.conv (.same rfl),ø⟩) (Gr [(2,Eh a),(3,Eh b)] [] 1180 rfl rfl rfl ø rfl (by exact⟨.conv (.same rfl),.ptr,ø⟩) (Js fun g=>?_)))))))))
 obtain⟨c,i,h⟩:=Gd h
 obtain⟨d,j,h⟩:=Gd h
 obtain⟨e,k,h⟩:=Gd h
 refine JC_d0 J1 (by kernel_rfl) (Dq (.dptr ((G1.cs a).drop 1)) (Ga Jt O O O) O (Dq (.dptr [I64 a.Slot.Tier,U8 a.Slot.Half]) (Ga Qz O O O) O (Dq (I64 a.Slot.Tier) (Gg Gb O O O) O (Dq (.dptr ((G1.cs b).drop 1)) (Ga Jt O O O) O (Dq (.dptr [I64 b.Slot.Tier,U8 b.Slot.Half]) (Ga Qz O O O) O (Dq (I64 b.Slot.Tier) (Gg Gb O O O) O (Dq (I64 c) (Gu (args:=[I64 a.Slot.Tier,I64 b.Slot.Tier]) O (Zs a.Slot.Tier b.Slot.Tier c i) H31 ⟨O,O,O,O,ø⟩) O (Dq (.dptr ((G1.cs a).drop 1)) (Ga Jt O O O) O (Dq (.agg ((G1.cs a).drop 1)) (Gm J4 O O O) O (Dq (.dptr ((G1.cs b).drop 1)) (Ga Jt O O O) O (Dq (.agg ((G1.cs b).drop 1)) (Gm J4 O O O) O (Dq (I64 d) (Gu (args:=[.agg ((G1.cs a).drop 1),.agg ((G1.cs b).drop 1)]) O (Q31 a.Slot b.Slot d j) Rbd ⟨O,O,O,O,ø⟩) O (Dq (E2 [c,d]) (He (xs:=[I64 c,I64 d]) O ⟨O,O,O,O,ø⟩ H3 Y6 O O O O) O ?_)))))))))))))
 refine Dq (I64 e) (Gu (args:=[E2 [c,d]]) O (J6f [c,d] e k) Q4a ⟨O,O,ø⟩) O (Dq (I64 e) (G7 O O) O (Dnil (g (Gs (fin1 I64 h)))))

def Jg (F:Nat) (data:List G1) (a:Int) (b:Int) (cmp:G1→G1→Option Int):Option (List G1):=
 chk (a+1) fun q=>
 loop (fun h (d:Int×(List G1))=>
  bif decide (d.1 < b) then
  (loop (fun g (c:Int×(List G1))=>
    bnd (bif decide (a < c.1) then Qm c.2 c.1 some else some default) fun i=>
    bnd (bif decide (a < c.1) then chk (c.1 - 1) some else some 0) fun j=>
    bnd (bif decide (a < c.1) then Qm c.2 j some else some default) fun k=>
    bnd (bif decide (a < c.1) then cmp i k else some default) fun l=>
    bif ((decide (a < c.1))&&(decide (l < 0))) then
    (chk (c.1 - 1) fun e=>
     chk (c.1 - 1) fun m=>
     Qm c.2 m fun f=>
     Qm c.2 c.1 fun n=>
     Qm c.2 c.1 fun r=>
     Qm (c.2.set c.1.toNat f) e fun s=>
     chk (c.1 - 1) fun o=>
     g (o,((c.2.set c.1.toNat f).set e.toNat n)))
    else
    (chk (d.1+1) fun p=>
     h (p,c.2))) F (d.1,d.2))
  else
  (some d.2)) F (q,data)
theorem Qq (F:Nat) (data:List G1) (data_q:Nat) (a:Int) (b:Int) (cmp:G1→G1→Option Int) (cmp_f:FuncId) (cmp_c:List AV) (cmp_B:H1 En cmp_f=true) (cmp_d:Qb (fun _=>false) cmp_c=true) (cmp_w:∀ a0 a1 q,cmp a0 a1=some q→Pure En cmp_f ([.agg (G1.cs a0),.agg (G1.cs a1)]++cmp_c) (·=I64 q)) (r:(List G1)) (h:Jg F data a b cmp=some r):Hx En 127 [.vec 1114 data_q 4 data.length,I64 a,I64 b,.fn cmp_f cmp_c] [(1114,.vec 64 4 data_q (data.map G1.av))] (fun av L'=>av=.tup []∧L'=[(1114,.vec 64 4 data_q (r.map G1.av))]):=by
 unfold Jg at h
 refine Ji [1114] [] Tryz.func127 O O (G0c O) (Jr fun c3=>(JLm (I64 a) O ?_))
 obtain⟨v2,c4,h⟩:=Ht h
 refine JLh (I64 v2) (J3 c4 O O O) O (JLm (I64 v2) O (G6 (c3 (Gq ?_))))
 obtain⟨b3,c5,h⟩:=H4b h
 refine Hm (fun o (d:Int×(List G1))=>loop b3 o d=some r) (fun o d=>[(0,.vec 1114 data_q 4 data.length),(1,I64 a),(2,I64 b),(3,.fn cmp_f cmp_c),(8,I64 d.1)]) (fun o d=>[(1114,.vec 64 4 data_q (d.2.map G1.av))]) (fun o=>o) F (v2,data) h ⟨⟨.same O,.same O,.same O,.same (Hk _ _ cmp_d),.same O,ø⟩,⟨⟨_,O,.vec⟩,ø⟩,O⟩ ?_
 clear h
 intro o d c6 K3 e3
 obtain⟨m3,e1,hm_3,c7,h⟩:=Gd9 c6
 replace h:=R20 c5 h
 refine Js fun c8=>Jr fun c9=>(JLm (I64 d.1) O (JLm (I64 b) O (JLh (BL (decide (d.1 < b))) (Jn O O O) O (G6 (c9 (JCc O h (fun h hb=>?_) (fun h hb=>?_)))))))
 ·
  refine Gk (c8 (Js fun d0=>Gq (Jr fun d1=>(JLm (I64 d.1) O (JLm (I64 d.1) O (G6 (d1 (Gq ?_))))))))
  obtain⟨d2,b1,h⟩:=H4b h
  refine Hm (fun g (c:Int×(List G1))=>loop d2 g c=some r) (fun g c=>[(0,.vec 1114 data_q 4 data.length),(1,I64 a),(2,I64 b),(3,.fn cmp_f cmp_c),(8,I64 d.1),(9,I64 c.1)]) (fun g c=>[(1114,.vec 64 4 data_q (c.2.map G1.av))]) (fun g=>g) F (d.1,d.2) h ⟨⟨.same O,.same O,.same O,.same (Hk _ _ cmp_d),.same O,.same O,ø⟩,⟨⟨_,O,.vec⟩,ø⟩,O⟩ ?_
  clear h
  intro g c b2 e2 d3
  obtain⟨d4,e0,hm_58,b4,h⟩:=Gd9 b2
  replace h:=R20 b1 h
  refine Js fun b5=>Js fun b6=>Qn (l':=[(0,.vec 1114 data_q 4 data.length),(1,I64 a),(2,I64 b),(3,.fn cmp_f cmp_c),(8,I64 d.1),(9,I64 c.1)]) (L':=[(1114,.vec 64 4 data_q (c.2.map G1.av))]) ⟨⟨.same O,.same O,.same O,.same (Hk _ _ cmp_d),.same O,.same O,ø⟩,⟨⟨_,O,.vec⟩,ø⟩,O⟩ ?_
  obtain⟨j,l,h⟩:=Gd h
  obtain⟨a8,b7,h⟩:=Gd h
  obtain⟨k,m,h⟩:=Gd h
  obtain⟨p,b8,h⟩:=Gd h
  refine JC_d0 J1 (by kernel_rfl) (Dq (I64 c.1) (G5 O O) O (Dq (I64 a) (G5 O O) O (Dq (BL (decide (a < c.1))) (Gd1 O O O) O (Dq (BL (decide (a < c.1))) (G5 O O) O (Do (.fn cmp_f cmp_c) [] O .sct ø (fun hc=>G5 O O) O (Do (.vec 1114 data_q 4 data.length) [] O .sct ø (fun hc=>G5 O O) O (Do (I64 c.1) [] O .sct ø (fun hc=>G5 O O) O (Do (.vptr 1114 data_q c.1.toNat 0) [23,24] O .sct ⟨Ua,Ua,ø⟩ (fun hc=>G53 (f:=G1.av) (xs:=c.2) (y:=j) O O O O H5 (Gac (H2 hc l)) (J22 (H2 hc l))) O (Do (.agg (G1.cs j)) [25] O .sct ⟨Ua,ø⟩ (fun hc=>H05 (f:=G1.av) (xs:=c.2) (y:=j) Qh O O O (Gac (H2 hc l)) O O) O (Do (.vec 1114 data_q 4 data.length) [] O .sct ø (fun hc=>G5 O O) O (Do (I64 c.1) [] O .sct ø (fun hc=>G5 O O) O (Do (I64 a8) [28] O .sct ⟨Ua,ø⟩ (fun hc=>G62 (Hf5 (H2 hc b7)) O O O) O (Do (.vptr 1114 data_q a8.toNat 0) [27,29] O .sct ⟨Ua,Ua,ø⟩ (fun hc=>G53 (f:=G1.av) (xs:=c.2) (y:=k) O O O O H5 (Gac (H2 hc m)) (J22 (H2 hc m))) O ?_)))))))))))))
  refine Do (.agg (G1.cs k)) [30] O .sct ⟨Ua,ø⟩ (fun hc=>H05 (f:=G1.av) (xs:=c.2) (y:=k) Qh O O O (Gac (H2 hc m)) O O) O (Do (I64 p) [22,26,31] O .sct ⟨Ua,Ua,Ua,ø⟩ (fun hc=>G29 (args:=[.agg (G1.cs j),.agg (G1.cs k)]) (caps:=cmp_c) O O (cmp_w j k _ (H2 hc b8)) cmp_B ⟨O,O,O,O,ø⟩ cmp_d) O (Do (BL (decide (p < 0))) [32] O .sct ⟨Ua,ø⟩ (fun hc=>Jn O O O) O (Dq (BL ((decide (a < c.1))&&(decide (p < 0)))) (Ri O O O O) O (Dnil (b6 (JCc O h (fun h hb=>?_) (fun h hb=>?_)))))))
  ·
   refine Gk (b5 (Js fun b9=>Gq (Qn (l':=[(0,.vec 1114 data_q 4 data.length),(1,I64 a),(2,I64 b),(3,.fn cmp_f cmp_c),(8,I64 d.1),(9,I64 c.1)]) (L':=[(1114,.vec 64 4 data_q (c.2.map G1.av))]) ⟨⟨.same O,.same O,.same O,.same (Hk _ _ cmp_d),.same O,.same O,ø⟩,⟨⟨_,O,.vec⟩,ø⟩,O⟩ ?_)))
   obtain⟨n,s,h⟩:=Ht h
   obtain⟨a9,c0,h⟩:=Ht h
   obtain⟨e,a4,t,h⟩:=G33 h
   obtain⟨i,a5,v,h⟩:=G33 h
   obtain⟨d5,a6,w,h⟩:=G33 h
   obtain⟨d6,a7,x,h⟩:=G33 h
   refine Jm [15,17] [0,0,0,0,0,0,0,0,0,0,0,0,0,0,0,0,1,0] [0,0,1,1,1,0,0,0,0,0,0,0,0,0,0,0,1,0] [[(1114,.vec 64 4 data_q (c.2.map G1.av))],((1114,.vec 64 4 data_q ((c.2.set c.1.toNat e).map G1.av))::[(1114,.vec 64 4 data_q (c.2.map G1.av))]),((1114,.vec 64 4 data_q (((c.2.set c.1.toNat e).set n.toNat i).map G1.av))::((1114,.vec 64 4 data_q ((c.2.set c.1.toNat e).map G1.av))::[(1114,.vec 64 4 data_q (c.2.map G1.av))]))] J1 (by kernel_rfl) rfl rfl ?_
   refine Gc (u:=.vec 1114 data_q 4 data.length) O O ⟨Gf (G5 O O) O,ø⟩ (Gc (u:=I64 c.1) O O ⟨Gf (G5 O O) O,ø⟩ (Gc (u:=.vec 1114 data_q 4 data.length) O O ⟨Gf (G5 O O) O,Gf (G5 O O) O,ø⟩ (Gc (u:=I64 c.1) O O ⟨Gf (G5 O O) O,Gf (G5 O O) O,ø⟩ (Gc (u:=I64 n) O O ⟨Gf (G62 s O O O) O,Gf (G62 s O O O) O,ø⟩ (Gc (u:=.vec 1114 data_q 4 data.length) O O ⟨Gf (G5 O O) O,ø⟩ (Gc (u:=I64 c.1) O O ⟨Gf (G5 O O) O,ø⟩ (Gc (u:=I64 a9) O O ⟨Gf (G62 c0 O O O) O,ø⟩ (Gc (u:=.vptr 1114 data_q a9.toNat 0) O O ⟨Gf (G53 (f:=G1.av) (xs:=c.2) (y:=e) O O O O H5 t a4) O,ø⟩ (Gc (u:=.agg (G1.cs e)) O O ⟨Gf (H05 (f:=G1.av) (xs:=c.2) (y:=e) Qh O O O t O O) O,ø⟩ (Gc (u:=.vec 1114 data_q 4 data.length) O O ⟨Gf (G5 O O) O,ø⟩ (Gc (u:=I64 c.1) O O ⟨Gf (G5 O O) O,ø⟩ (Gc (u:=.vptr 1114 data_q c.1.toNat 0) O O ⟨Gf (G53 (f:=G1.av) (xs:=c.2) (y:=i) O O O O H5 v a5) O,ø⟩ (Gc (u:=.agg (G1.cs i)) O O ⟨Gf (H05 (f:=G1.av) (xs:=c.2) (y:=i) Qh O O O v O O) O,ø⟩ ?_)))))))))))))
   refine Gc (u:=.vptr 1114 data_q c.1.toNat 0) O O ⟨Gf (G53 (f:=G1.av) (xs:=c.2) (y:=d5) O O O O H5 w a6) O,ø⟩ (H22 (u:=.junk) O O O O (Gf (H86 (f:=G1.av) (xs:=c.2) (z:=e) Ru O O O O (M6 w).1 O O O O) O) (Gc (u:=.vptr 1114 data_q n.toNat 0) O O ⟨Gf (G53 (f:=G1.av) (xs:=(c.2.set c.1.toNat e)) (y:=d6) O O O O H5 x a7) O,ø⟩ (H22 (u:=.junk) O O O O (Gf (H86 (f:=G1.av) (xs:=(c.2.set c.1.toNat e)) (z:=i) Ru O O O O (M6 x).1 O O O O) O) (R4 (b9 (G2 (JLm (I64 c.1) O ?_)))))))
   obtain⟨a2,c1,h⟩:=Ht h
   refine JLh (I64 a2) (G62 c1 O O O) O (JLm (I64 a2) O (G6 (d3 _ _ d4 (a2,((c.2.set c.1.toNat e).set n.toNat i)) (app1 b4 h) (by omega) ⟨⟨.same rfl,.same rfl,.same rfl,.same (Hk _ _ cmp_d),.same rfl,.same rfl,ø⟩,⟨⟨_,rfl,.vec⟩,ø⟩,rfl⟩)))
  ·
   refine Hr (d0 (G2 (JLm (I64 d.1) O ?_)))
   obtain⟨a3,c2,h⟩:=Ht h
   refine JLh (I64 a3) (J3 c2 O O O) O (JLm (I64 a3) O (G6 (e3 _ _ m3 (a3,c.2) (app1 c7 h) (by omega) ⟨⟨.same rfl,.same rfl,.same rfl,.same (Hk _ _ cmp_d),.same rfl,ø⟩,⟨⟨_,rfl,.vec⟩,ø⟩,rfl⟩)))
 ·
  refine Hr ?_
  obtain rfl:=M8 h
  exact⟨[],[(1114,.vec 64 4 data_q (d.2.map G1.av))],⟨⟨_,O,.vec⟩,ø⟩,O,ø,O,O⟩

def Rk (F:Nat) (data:List G1) (a:Int) (b:Int) (limit:Int) (cmp:G1→G1→Option Int):Option (List G1):=
 loop (fun f (c:Int×Int×Int×Bool×Bool)=>
  chk (c.2.1 - c.1) fun d=>
  bif decide (d≤12) then
  (bnd (Jg F data c.1 c.2.1 cmp) fun e=>
   some e)
  else
  (bif decide (c.2.2.1=0) then
   (none)
   else
   (bif (!c.2.2.2.1) then
    (none)
    else
    (none)))) F (a,b,limit,true,true)
theorem G68 (F:Nat) (data:List G1) (data_q:Nat) (a:Int) (b:Int) (limit:Int) (cmp:G1→G1→Option Int) (cmp_f:FuncId) (cmp_c:List AV) (cmp_B:H1 En cmp_f=true) (cmp_d:Qb (fun _=>false) cmp_c=true) (cmp_w:∀ a0 a1 q,cmp a0 a1=some q→Pure En cmp_f ([.agg (G1.cs a0),.agg (G1.cs a1)]++cmp_c) (·=I64 q)) (r:(List G1)) (h:Rk F data a b limit cmp=some r):Hx En 91 [.vec 1114 data_q 4 data.length,I64 a,I64 b,I64 limit,.fn cmp_f cmp_c] [(1114,.vec 64 4 data_q (data.map G1.av))] (fun av L'=>av=.tup []∧L'=[(1114,.vec 64 4 data_q (r.map G1.av))]):=by
 unfold Rk at h
 refine Ji [1114] [] Tryz.func91 O O (G0c O) (Jr fun v=>(JLm (BL true) O (G6 (v (Jr fun w=>(JLm (BL true) O (G6 (w (Gq ?_)))))))))
 obtain⟨x,g,h⟩:=H4b h
 refine Hm (fun d (c:Int×Int×Int×Bool×Bool)=>loop x d c=some r) (fun d c=>[(0,.vec 1114 data_q 4 data.length),(1,I64 c.1),(2,I64 c.2.1),(3,I64 c.2.2.1),(4,.fn cmp_f cmp_c),(10,BL c.2.2.2.1),(11,BL c.2.2.2.2)]) (fun d c=>[(1114,.vec 64 4 data_q (data.map G1.av))]) (fun d=>d) F (a,b,limit,true,true) h ⟨⟨.same O,.same O,.same O,.same O,.same (Hk _ _ cmp_d),.same O,.same O,ø⟩,⟨⟨_,O,.vec⟩,ø⟩,O⟩ ?_
 clear h
 intro d c i a5 a6
 obtain⟨a7,y,hm_23,z,h⟩:=Gd9 i
 replace h:=R20 g h
 refine Gq (Jr fun j=>(JLm (I64 c.2.1) O (JLm (I64 c.1) O ?_)))
 obtain⟨e,k,h⟩:=Ht h
 refine JLh (I64 e) (G62 k O O O) O (JLm (I64 e) O (G6 (j (Js fun l=>Jr fun m=>(JLm (I64 e) O (JLh (BL (decide (e≤12))) (Hd6 O O O) O (G6 (m (JCc O h (fun h hb=>?_) (fun h hb=>?_))))))))))
 ·
  refine Jr fun n=>(JLm (.vec 1114 data_q 4 data.length) O (JLm (I64 c.1) O (JLm (I64 c.2.1) O (JLm (.fn cmp_f cmp_c) O ?_))))
  obtain⟨f,o,h⟩:=Gd h
  refine JLh (.tup []) (Y1 (args:=[.vec 1114 data_q 4 data.length,I64 c.1,I64 c.2.1,.fn cmp_f cmp_c]) (L0:=[(1114,.vec 64 4 data_q (data.map G1.av))]) (Lr:=[(1114,.vec 64 4 data_q (f.map G1.av))]) O (Qq F data data_q c.1 c.2.1 cmp cmp_f cmp_c cmp_B cmp_d cmp_w f o) J4d ⟨.inl O,O,.inl O,O,.inl O,O,.inl O,(Hk _ _ cmp_d),ø⟩ ⟨O,ø⟩ O O O) O (G6 (n (Gs ?_)))
  obtain rfl:=M8 h
  exact⟨[],[(1114,.vec 64 4 data_q (f.map G1.av))],⟨⟨_,O,.vec⟩,ø⟩,O,ø,O,O⟩
 ·
  refine Gk (l (Js fun p=>Jr fun s=>(JLm (I64 c.2.2.1) O (JLh (BL (decide (c.2.2.1=0))) (Qg O O O) O (G6 (s (JCc O h (fun h hb=>?_) (fun h hb=>?_))))))))
  ·
   refine Js fun a2=>?_
   cases h
  ·
   refine Gk (p (Js fun t=>Jr fun u=>(JLm (BL c.2.2.2.1) O (JLh (BL (!c.2.2.2.1)) (Yc (b:=c.2.2.2.1) O O) O (G6 (u (JCc O h (fun h hb=>?_) (fun h hb=>?_))))))))
   ·
    refine Js fun a3=>?_
    cases h
   ·
    refine Gk (t (Js fun a4=>?_))
    cases h

def Ry (F:Nat) (x:List G1) (cmp:G1→G1→Option Int):Option (List G1):=
 bnd (G41 (IntKind.u64.wrap (x.length:Int))) fun a=>
 bnd (Rk F x 0 (x.length:Int) a cmp) fun b=>
 some b
theorem Gb3 (F:Nat) (x:List G1) (x_q:Nat) (cmp:G1→G1→Option Int) (cmp_f:FuncId) (cmp_c:List AV) (cmp_B:H1 En cmp_f=true) (cmp_d:Qb (fun _=>false) cmp_c=true) (cmp_w:∀ a0 a1 q,cmp a0 a1=some q→Pure En cmp_f ([.agg (G1.cs a0),.agg (G1.cs a1)]++cmp_c) (·=I64 q)) (r:(List G1)) (h:Ry F x cmp=some r):Hx En 45 [.vec 1114 x_q 4 x.length,.fn cmp_f cmp_c] [(1114,.vec 64 4 x_q (x.map G1.av))] (fun av L'=>av=.tup []∧L'=[(1114,.vec 64 4 x_q (r.map G1.av))]):=by
 unfold Ry at h
 refine Ji [1114] [] Tryz.func45 O O (G0c O) (Jr fun c=>(JLm (.vec 1114 x_q 4 x.length) O (Q04 (f:=G1.av) (xs:=x) H5 O O O (fun g=>?_) O O O)))
 refine JLm (Em x.length) O (G6 (c (G2 (JLm (.vec 1114 x_q 4 x.length) O (JLm (Em x.length) O (JLm (Em x.length) O (JLh (.sc (.int .u64 (IntKind.u64.wrap (x.length:Int)))) (G9c Q96 G22 O O O) O ?_)))))))
 obtain⟨a,d,h⟩:=Gd h
 refine JLh (I64 a) (Gu O (Hce (IntKind.u64.wrap (x.length:Int)) a d) Qa8 ⟨O,O,ø⟩) O (JLm (.fn cmp_f cmp_c) O ?_)
 obtain⟨b,e,h⟩:=Gd h
 refine JLh (.tup []) (Y1 (args:=[.vec 1114 x_q 4 x.length,I64 0,Em x.length,I64 a,.fn cmp_f cmp_c]) (L0:=[(1114,.vec 64 4 x_q (x.map G1.av))]) (Lr:=[(1114,.vec 64 4 x_q (b.map G1.av))]) O (G68 F x x_q 0 (x.length:Int) a cmp cmp_f cmp_c cmp_B cmp_d cmp_w b e) Y16 ⟨.inl O,O,.inl O,O,.inl O,O,.inl O,O,.inl O,(Hk _ _ cmp_d),ø⟩ ⟨O,ø⟩ O O O) O (G6 ?_)
 obtain rfl:=M8 h
 exact⟨[],[(1114,.vec 64 4 x_q (b.map G1.av))],⟨⟨_,O,.vec⟩,ø⟩,O,ø,O,O⟩

def G09 (F:Nat) (l:List G1) (compare:G1→G1→Option Int):Option (List G1):=
 bnd (Ry F l compare) fun a=>
 some a
theorem G31 (F:Nat) (l:List G1) (l_q:Nat) (compare:G1→G1→Option Int) (compare_f:FuncId) (compare_c:List AV) (compare_B:H1 En compare_f=true) (compare_d:Qb (fun _=>false) compare_c=true) (compare_w:∀ a0 a1 q,compare a0 a1=some q→Pure En compare_f ([.agg (G1.cs a0),.agg (G1.cs a1)]++compare_c) (·=I64 q)) (r:(List G1)) (h:G09 F l compare=some r):Hx En 104 [.vec 1114 l_q 4 l.length,.fn compare_f compare_c] [(1114,.vec 64 4 l_q (l.map G1.av))] (fun av L'=>∃ p:Nat,av=.vec 1114 p 4 r.length∧L'=[(1114,.vec 64 4 p (r.map G1.av))]):=by
 unfold G09 at h
 refine Ji [1114] [.tmp 4] Tryz.func104 O O (G0c O) (Jr fun b=>(JLh (.vec 1178 (([]:List G1).length) 4 (([]:List G1).length)) (G73 1178 64 4 O O O) O (G6 (b (Jr fun c=>(JLm (.vec 1114 l_q 4 l.length) O (JLm (.fn compare_f compare_c) O ?_)))))))
 obtain⟨a,d,h⟩:=Gd h
 refine JLh (.tup []) (Y1 (args:=[.vec 1114 l_q 4 l.length,.fn compare_f compare_c]) (L0:=[(1114,.vec 64 4 l_q (l.map G1.av))]) (Lr:=[(1114,.vec 64 4 l_q (a.map G1.av))]) O (Gb3 F l l_q compare compare_f compare_c compare_B compare_d compare_w a d) Jb5 ⟨.inl O,O,.inl O,(Hk _ _ compare_d),ø⟩ ⟨O,ø⟩ O O O) O (G6 (c (Jr fun e=>(JLm (.vec 1114 l_q 4 l.length) O (JLm (.vec 1114 l_q 4 l.length) O (G6 (e (G3c 4 O O (fun hn_=>Gs ?_)))))))))
 obtain rfl:=M8 h
 exact⟨[.vec 1114 l_q 4 l.length],[(1114,.vec 64 4 l_q (a.map G1.av))],⟨⟨_,O,.vec⟩,ø⟩,O,⟨⟨_,O,.conv (.same O)⟩,ø⟩,l_q,congrArg (fun n_:Nat=>(.vec 1114 l_q 4 n_:AV)) (hn_.trans (Mn _)),O⟩

def Zq (F:Nat) (s:Gj) (l:List G1) (lf:List Int) (bay:Int) (deck:Bool):Option (List G1):=
 each (fun b i (a:(List G1)) e=>
  jp (fun d=>
   Qm s.Columns b.Slot.G3 fun c=>
   bnd (bif ((decide (c.Bay=bay))&&(c.Deck==deck)) then Jx lf b.Box else some default) fun f=>
   bif (((decide (c.Bay=bay))&&(c.Deck==deck))&&f) then
   (need (decide ((a.length+[b].length)*32≤140737488355328∧a.length+[b].length≤maxLen)) <|
    d (a++[b]))
   else
   (d a)) fun(g:(List G1))=>
  e g)
 (fun(a:(List G1))=>
  bnd (G09 F a (fun z0 z1=>G3a z0 z1)) fun h=>
  some h) l 0 []
theorem Haf (F:Nat) (s:Gj) (l:List G1) (lf:List Int) (bay:Int) (deck:Bool) (r:(List G1)) (h:Zq F s l lf bay deck=some r):Pure En 58 [.agg (Gj.cs s),E1 l,E2 lf,I64 bay,BL deck] (·=E1 r):=by
 unfold Zq at h
 refine Gz [.tmp 10] Tryz.func58 O O (Jr fun b1=>(JLh (.ptr 1112 0) (Q6 (cs:=(Gj.cs s)) 1112 O O O O O) O (JLh (E1 ([]:List G1)) (Jd 4 O O) O (G6 (b1 (fzQ [(1,E1 l),(2,E2 lf),(3,I64 bay),(4,BL deck),(5,Ee s)] [] 1112 rfl rfl rfl ø rfl (Jr fun b2=>(JLh (.vec 1114 (([]:List G1).length) 4 (([]:List G1).length)) (G73 1114 64 4 O O O) O (G6 (b2 (Js fun b3=>?_)))))))))))
 refine Jr fun b4=>(JLm (E1 l) O (JLl H5 O O O fun o=>(JLm (I64 0) O (G6 (b4 (Gq ?_))))))
 obtain⟨b5,t,v,m,h⟩:=Je h
 refine Hm (fun d (a:(List G1))=>each b5 t (List.drop d l) d a=some r) (fun d a=>[(2,E2 lf),(3,I64 bay),(4,BL deck),(5,Ee s),(11,.vec 1114 a.length 4 a.length),(15,E1 l),(16,Em l.length),(17,Em d)]) (fun d a=>[(1114,.vec 64 4 a.length (a.map G1.av))]) (fun d=>l.length - d) 0 [] h ⟨(.sm O O),⟨⟨_,rfl,.vec⟩,ø⟩,rfl⟩ ?_
 clear h
 intro d a i b9 b6
 refine Jr fun w=>(JLh (BL (decide ((d:Int) < (l.length:Int)))) (Jn O O O) O (G6 (w (Js fun x=>Gp O (fun hb=>?_) (fun hb=>?_)))))
 ·
  have j:=Jz hb
  obtain⟨b,b8,z,a0,h⟩:=Hv i j
  replace h:=Zm v h
  refine Gk (x ?_)
  obtain⟨a1,n,h⟩:=Rc h
  refine Qk (fun e:(List G1)=>a1 e=some r) (fun e=>[(2,E2 lf),(3,I64 bay),(4,BL deck),(5,Ee s),(11,.vec 1114 e.length 4 e.length),(15,E1 l),(16,Em l.length),(17,Em d)]) (fun e=>[(1114,.vec 64 4 e.length (e.map G1.av))]) (fun Kj52 ej52=>?_) ?_
  ·
   refine Gq (Jr fun a2=>(JLh (Eh b) (Hb (f:=G1.av) (xs:=l) (y:=b) O O O H5 z O) O (JLh (.agg (G1.cs b)) (Gm Qh O O O) O (JLh (.ptr 1115 0) (Hj 1115 4 Q3 O O) O (Hq (u:=.junk) (H7 (u:=.agg (G1.cs b)) (ds:=[I64 b.Box,I64 b.Slot.G3,I64 b.Slot.Tier,U8 b.Slot.Half]) Ru O O O O O O O O) (G6 (a2 (fzQ [(2,E2 lf),(3,I64 bay),(4,BL deck),(5,Ee s),(11,.vec 1114 a.length 4 a.length),(13,Eh b),(15,E1 l),(16,Em l.length),(17,Em d)] [(1114,.vec 64 4 a.length (a.map G1.av))] 1115 rfl rfl rfl ⟨⟨_,rfl,.vec⟩,ø⟩ rfl ?_))))))))
   refine Jr fun a3=>(JLh (Ee s) (Ga Jc O O O) O (JLh (E3 s.Columns) (Gg Jv O O O) O (JLh (.dptr ((G1.cs b).drop 1)) (Ga Jt O O O) O (JLh (.dptr ((G1.cs b).drop 1)) (Ga Jb O O O) O (JLh (I64 b.Slot.G3) (Gg Gb O O O) O ?_)))))
   obtain⟨c0,c,a4,a5,h⟩:=Rw h
   refine JLh (Ej c) (Hb (f:=G3.av) (xs:=s.Columns) (y:=c) O O O Hz a5 a4) O (JLh (.agg (G3.cs c)) (Gm Gbf O O O) O (JLh (.ptr 1116 0) (Hj 1116 12 G42 O O) O (Hq (u:=.junk) (H7 (u:=.agg (G3.cs c)) (ds:=(G3.cs c)) H2f O O O O O O O O) (G6 (a3 ?_)))))
   refine fzQ [(2,E2 lf),(3,I64 bay),(4,BL deck),(5,Ee s),(11,.vec 1114 a.length 4 a.length),(13,Eh b),(14,Ej c),(15,E1 l),(16,Em l.length),(17,Em d)] [(1114,.vec 64 4 a.length (a.map G1.av))] 1116 rfl rfl rfl ⟨⟨_,rfl,.vec⟩,ø⟩ rfl ?_
   refine Jr fun a6=>(JLh (Ej c) (Ga G2c O O O) O (JLh (I64 c.Bay) (Gg Gb O O O) O (JLm (I64 bay) O (JLh (BL (decide (c.Bay=bay))) (Qg O O O) O (JLm (BL (decide (c.Bay=bay))) O (JLo (.dptr ((G3.cs c).drop 2)) [] O .sct ø (fun hc=>Ga Yu O O O) O (JLo (BL c.Deck) [33] O .sct ⟨Ua,ø⟩ (fun hc=>Gg Qe O O O) O (JLo (BL deck) [] O .sct ø (fun hc=>G5 O O) O (JLo (BL (c.Deck==deck)) [34,35] O .sct ⟨Ua,Ua,ø⟩ (fun hc=>Q0f H85 O O O) O (JLh (BL ((decide (c.Bay=bay))&&(c.Deck==deck))) (Ri O O O O) O (JLm (BL ((decide (c.Bay=bay))&&(c.Deck==deck))) O (JLo (E2 lf) [] O .sct ø (fun hc=>G5 O O) O (JLo (Eh b) [] O .sct ø (fun hc=>Ga Ja O O O) O ?_)))))))))))))
   refine JLo (I64 b.Box) [40] O .sct ⟨Ua,ø⟩ (fun hc=>Gg Gb O O O) O ?_
   obtain⟨k,a7,h⟩:=Gd h
   refine JLo (BL k) [39,41] O .sct ⟨Ua,Ua,ø⟩ (fun hc=>Gu (args:=[E2 lf,I64 b.Box]) O (G14 lf b.Box k (H2 hc a7)) J11 ⟨O,O,O,O,ø⟩) O (JLh (BL (((decide (c.Bay=bay))&&(c.Deck==deck))&&k)) (Ri O O O O) O (G6 (a6 (JCc O h (fun h hb=>?_) (fun h hb=>?_)))))
   ·
    refine G2 (JLm (.vec 1114 a.length 4 a.length) O (JLh (.agg (G1.cs b)) (Gm Qh O O O) O (JLh (E1 [b]) (He (xs:=[.agg (G1.cs b)]) O ⟨O,O,ø⟩ H5 Q3 O O O O) O ?_)))
    obtain⟨a8,h⟩:=Jf h
    refine JLh (.vec 1114 ((a++[b]).length) 4 ((a++[b]).length)) (G1f (f:=G1.av) (xs:=a) (ys:=[b]) (ver:=a.length) (ver1:=(a++[b]).length) rfl rfl rfl rfl H5 Geb a8 (fun _=>rfl) (.inl rfl) (by simp)) O (JLm (.vec 1114 ((a++[b]).length) 4 ((a++[b]).length)) O (G6 (ej52 _ _ (a++[b]) h ⟨(.sm O O),⟨⟨_,rfl,.vec⟩,ø⟩,rfl⟩)))
   ·
    refine Gk (ej52 _ _ a h ⟨(.sm O O),⟨⟨_,rfl,.vec⟩,ø⟩,rfl⟩)
  ·intro e h
   replace h:=app1 n h
   refine G2 (JLh (I64 ((d+1:Nat):Int)) (J3 (Hp j o) O O O) O (JLm (I64 ((d+1:Nat):Int)) O (G6 (b6 _ _ (d+1) e (app1 a0 h) (by omega) ⟨(.sm O O),⟨⟨_,rfl,.vec⟩,ø⟩,rfl⟩))))
 ·
  have h:=app1 m (Hw i (Hf hb))
  refine Hr (b3 (Jr fun a9=>(JLm (.vec 1114 a.length 4 a.length) O ?_)))
  obtain⟨g,b0,h⟩:=Gd h
  refine Rn O O O (G8f (args:=[.vec 1114 a.length 4 a.length,.fn 105 []]) (L0:=[(1114,.vec 64 4 a.length (a.map G1.av))]) (u:=fun p=>.vec 1114 p 4 g.length) (Lr:=fun p=>[(1114,.vec 64 4 p (g.map G1.av))]) O (G31 F a a.length (fun z0 z1=>G3a z0 z1) 105 [] Q4b O (fun z0 z1 q hq=>Hfe z0 z1 q hq) g b0) Q4c ⟨.inl O,O,.inl O,O,ø⟩ ⟨O,ø⟩ O (fun _=>O)) ?_
  rintro u_ L_ ⟨b7,rfl,rfl⟩
  refine JLm (.vec 1114 b7 4 g.length) O (G6 (a9 (H43 [(10,E1 g)] [] 1114 rfl rfl ø rfl (by exact⟨.vec,ø⟩) (Gs (fin1 (fun r:(List G1)=>(E1 r:AV)) h)))))

def Zr (a:G1) (b:G1):Option Int:=
 bnd (Qw b.Slot.Tier a.Slot.Tier) fun c=>
 some c
theorem J42 (a:G1) (b:G1) (r:Int) (h:Zr a b=some r):Pure En 103 [.agg (G1.cs a),.agg (G1.cs b)] (·=I64 r):=by
 unfold Zr at h
 refine Gz [.tmp 4] Tryz.func103 O O (Jr fun d=>(JLh (.ptr 1176 0) (Q6 (cs:=[I64 a.Box,I64 a.Slot.G3,I64 a.Slot.Tier,U8 a.Slot.Half]) 1176 O O O O O) O (JLh (.ptr 1177 0) (Q6 (cs:=[I64 b.Box,I64 b.Slot.G3,I64 b.Slot.Tier,U8 b.Slot.Half]) 1177 O O O O O) O (JLm (I64 0) O (G6 (d (Gr [(2,Eh a),(3,.ptr 1177 0)] [(1177,.box 64 [I64 b.Box,I64 b.Slot.G3,I64 b.Slot.Tier,U8 b.Slot.Half])] 1176 rfl rfl rfl ⟨⟨_,rfl,.boxEq rfl rfl⟩,ø⟩ rfl (by exact⟨.ptr,.conv (.same rfl),ø⟩) (Gr [(2,Eh a),(3,Eh b)] [] 1177 rfl rfl rfl ø rfl (by exact⟨.conv (.same rfl),.ptr,ø⟩) ?_))))))))
 refine Jr fun e=>(JLh (.dptr ((G1.cs b).drop 1)) (Ga Jt O O O) O (JLh (.dptr [I64 b.Slot.Tier,U8 b.Slot.Half]) (Ga Qz O O O) O (JLh (I64 b.Slot.Tier) (Gg Gb O O O) O (JLh (.dptr ((G1.cs a).drop 1)) (Ga Jt O O O) O (JLh (.dptr [I64 a.Slot.Tier,U8 a.Slot.Half]) (Ga Qz O O O) O (JLh (I64 a.Slot.Tier) (Gg Gb O O O) O ?_))))))
 obtain⟨c,f,h⟩:=Gd h
 refine JLh (I64 c) (Gu O (Zs b.Slot.Tier a.Slot.Tier c f) H31 ⟨O,O,O,O,ø⟩) O (JLm (I64 c) O (G6 (e (Gs (fin1 I64 h)))))

def Rm (F:Nat) (data:List Int) (a:Int) (b:Int) (cmp:Int→Int→Option Int):Option (List Int):=
 chk (a+1) fun q=>
 loop (fun h (d:Int×(List Int))=>
  bif decide (d.1 < b) then
  (loop (fun g (c:Int×(List Int))=>
    bnd (bif decide (a < c.1) then Qm c.2 c.1 some else some default) fun i=>
    bnd (bif decide (a < c.1) then chk (c.1 - 1) some else some 0) fun j=>
    bnd (bif decide (a < c.1) then Qm c.2 j some else some default) fun k=>
    bnd (bif decide (a < c.1) then cmp i k else some default) fun l=>
    bif ((decide (a < c.1))&&(decide (l < 0))) then
    (chk (c.1 - 1) fun e=>
     chk (c.1 - 1) fun m=>
     Qm c.2 m fun f=>
     Qm c.2 c.1 fun n=>
     Qm c.2 c.1 fun r=>
     Qm (c.2.set c.1.toNat f) e fun s=>
     chk (c.1 - 1) fun o=>
     g (o,((c.2.set c.1.toNat f).set e.toNat n)))
    else
    (chk (d.1+1) fun p=>
     h (p,c.2))) F (d.1,d.2))
  else
  (some d.2)) F (q,data)
theorem G69 (F:Nat) (data:List Int) (data_q:Nat) (a:Int) (b:Int) (cmp:Int→Int→Option Int) (cmp_f:FuncId) (cmp_c:List AV) (cmp_B:H1 En cmp_f=true) (cmp_d:Qb (fun _=>false) cmp_c=true) (cmp_w:∀ a0 a1 q,cmp a0 a1=some q→Pure En cmp_f ([I64 a0,I64 a1]++cmp_c) (·=I64 q)) (r:(List Int)) (h:Rm F data a b cmp=some r):Hx En 171 [.vec 1118 data_q 1 data.length,I64 a,I64 b,.fn cmp_f cmp_c] [(1118,.vec 3 1 data_q (data.map I64))] (fun av L'=>av=.tup []∧L'=[(1118,.vec 3 1 data_q (r.map I64))]):=by
 unfold Rm at h
 refine Ji [1118] [] Tryz.func171 O O (G0c O) (Jr fun c3=>(JLm (I64 a) O ?_))
 obtain⟨v2,c4,h⟩:=Ht h
 refine JLh (I64 v2) (J3 c4 O O O) O (JLm (I64 v2) O (G6 (c3 (Gq ?_))))
 obtain⟨b3,c5,h⟩:=H4b h
 refine Hm (fun o (d:Int×(List Int))=>loop b3 o d=some r) (fun o d=>[(0,.vec 1118 data_q 1 data.length),(1,I64 a),(2,I64 b),(3,.fn cmp_f cmp_c),(8,I64 d.1)]) (fun o d=>[(1118,.vec 3 1 data_q (d.2.map I64))]) (fun o=>o) F (v2,data) h ⟨⟨.same O,.same O,.same O,.same (Hk _ _ cmp_d),.same O,ø⟩,⟨⟨_,O,.vec⟩,ø⟩,O⟩ ?_
 clear h
 intro o d c6 K3 e3
 obtain⟨m3,e1,hm_3,c7,h⟩:=Gd9 c6
 replace h:=R20 c5 h
 refine Js fun c8=>Jr fun c9=>(JLm (I64 d.1) O (JLm (I64 b) O (JLh (BL (decide (d.1 < b))) (Jn O O O) O (G6 (c9 (JCc O h (fun h hb=>?_) (fun h hb=>?_)))))))
 ·
  refine Gk (c8 (Js fun d0=>Gq (Jr fun d1=>(JLm (I64 d.1) O (JLm (I64 d.1) O (G6 (d1 (Gq ?_))))))))
  obtain⟨d2,b1,h⟩:=H4b h
  refine Hm (fun g (c:Int×(List Int))=>loop d2 g c=some r) (fun g c=>[(0,.vec 1118 data_q 1 data.length),(1,I64 a),(2,I64 b),(3,.fn cmp_f cmp_c),(8,I64 d.1),(9,I64 c.1)]) (fun g c=>[(1118,.vec 3 1 data_q (c.2.map I64))]) (fun g=>g) F (d.1,d.2) h ⟨⟨.same O,.same O,.same O,.same (Hk _ _ cmp_d),.same O,.same O,ø⟩,⟨⟨_,O,.vec⟩,ø⟩,O⟩ ?_
  clear h
  intro g c b2 e2 d3
  obtain⟨d4,e0,hm_58,b4,h⟩:=Gd9 b2
  replace h:=R20 b1 h
  refine Js fun b5=>Js fun b6=>Qn (l':=[(0,.vec 1118 data_q 1 data.length),(1,I64 a),(2,I64 b),(3,.fn cmp_f cmp_c),(8,I64 d.1),(9,I64 c.1)]) (L':=[(1118,.vec 3 1 data_q (c.2.map I64))]) ⟨⟨.same O,.same O,.same O,.same (Hk _ _ cmp_d),.same O,.same O,ø⟩,⟨⟨_,O,.vec⟩,ø⟩,O⟩ ?_
  obtain⟨j,l,h⟩:=Gd h
  obtain⟨a8,b7,h⟩:=Gd h
  obtain⟨k,m,h⟩:=Gd h
  obtain⟨p,b8,h⟩:=Gd h
  refine JC_d0 J1 (by kernel_rfl) (Dq (I64 c.1) (G5 O O) O (Dq (I64 a) (G5 O O) O (Dq (BL (decide (a < c.1))) (Gd1 O O O) O (Dq (BL (decide (a < c.1))) (G5 O O) O (Do (.fn cmp_f cmp_c) [] O .sct ø (fun hc=>G5 O O) O (Do (.vec 1118 data_q 1 data.length) [] O .sct ø (fun hc=>G5 O O) O (Do (I64 c.1) [] O .sct ø (fun hc=>G5 O O) O (Do (.vptr 1118 data_q c.1.toNat 0) [23,24] O .sct ⟨Ua,Ua,ø⟩ (fun hc=>G53 (f:=I64) (xs:=c.2) (y:=j) O O O O H3 (Gac (H2 hc l)) (J22 (H2 hc l))) O (Do (I64 j) [25] O .sct ⟨Ua,ø⟩ (fun hc=>Q0d (f:=I64) (xs:=c.2) (y:=j) Gb O O O (Gac (H2 hc l)) O O) O (Do (.vec 1118 data_q 1 data.length) [] O .sct ø (fun hc=>G5 O O) O (Do (I64 c.1) [] O .sct ø (fun hc=>G5 O O) O (Do (I64 a8) [28] O .sct ⟨Ua,ø⟩ (fun hc=>G62 (Hf5 (H2 hc b7)) O O O) O (Do (.vptr 1118 data_q a8.toNat 0) [27,29] O .sct ⟨Ua,Ua,ø⟩ (fun hc=>G53 (f:=I64) (xs:=c.2) (y:=k) O O O O H3 (Gac (H2 hc m)) (J22 (H2 hc m))) O ?_)))))))))))))
  refine Do (I64 k) [30] O .sct ⟨Ua,ø⟩ (fun hc=>Q0d (f:=I64) (xs:=c.2) (y:=k) Gb O O O (Gac (H2 hc m)) O O) O (Do (I64 p) [22,26,31] O .sct ⟨Ua,Ua,Ua,ø⟩ (fun hc=>G29 (args:=[I64 j,I64 k]) (caps:=cmp_c) O O (cmp_w j k _ (H2 hc b8)) cmp_B ⟨O,O,O,O,ø⟩ cmp_d) O (Do (BL (decide (p < 0))) [32] O .sct ⟨Ua,ø⟩ (fun hc=>Jn O O O) O (Dq (BL ((decide (a < c.1))&&(decide (p < 0)))) (Ri O O O O) O (Dnil (b6 (JCc O h (fun h hb=>?_) (fun h hb=>?_)))))))
  ·
   refine Gk (b5 (Js fun b9=>Gq (Qn (l':=[(0,.vec 1118 data_q 1 data.length),(1,I64 a),(2,I64 b),(3,.fn cmp_f cmp_c),(8,I64 d.1),(9,I64 c.1)]) (L':=[(1118,.vec 3 1 data_q (c.2.map I64))]) ⟨⟨.same O,.same O,.same O,.same (Hk _ _ cmp_d),.same O,.same O,ø⟩,⟨⟨_,O,.vec⟩,ø⟩,O⟩ ?_)))
   obtain⟨n,s,h⟩:=Ht h
   obtain⟨a9,c0,h⟩:=Ht h
   obtain⟨e,a4,t,h⟩:=G33 h
   obtain⟨i,a5,v,h⟩:=G33 h
   obtain⟨d5,a6,w,h⟩:=G33 h
   obtain⟨d6,a7,x,h⟩:=G33 h
   refine Jm [15,17] [0,0,0,0,0,0,0,0,0,0,0,0,0,0,0,0,1,0] [0,0,1,1,1,0,0,0,0,0,0,0,0,0,0,0,1,0] [[(1118,.vec 3 1 data_q (c.2.map I64))],((1118,.vec 3 1 data_q ((c.2.set c.1.toNat e).map I64))::[(1118,.vec 3 1 data_q (c.2.map I64))]),((1118,.vec 3 1 data_q (((c.2.set c.1.toNat e).set n.toNat i).map I64))::((1118,.vec 3 1 data_q ((c.2.set c.1.toNat e).map I64))::[(1118,.vec 3 1 data_q (c.2.map I64))]))] J1 (by kernel_rfl) rfl rfl ?_
   refine Gc (u:=.vec 1118 data_q 1 data.length) O O ⟨Gf (G5 O O) O,ø⟩ (Gc (u:=I64 c.1) O O ⟨Gf (G5 O O) O,ø⟩ (Gc (u:=.vec 1118 data_q 1 data.length) O O ⟨Gf (G5 O O) O,Gf (G5 O O) O,ø⟩ (Gc (u:=I64 c.1) O O ⟨Gf (G5 O O) O,Gf (G5 O O) O,ø⟩ (Gc (u:=I64 n) O O ⟨Gf (G62 s O O O) O,Gf (G62 s O O O) O,ø⟩ (Gc (u:=.vec 1118 data_q 1 data.length) O O ⟨Gf (G5 O O) O,ø⟩ (Gc (u:=I64 c.1) O O ⟨Gf (G5 O O) O,ø⟩ (Gc (u:=I64 a9) O O ⟨Gf (G62 c0 O O O) O,ø⟩ (Gc (u:=.vptr 1118 data_q a9.toNat 0) O O ⟨Gf (G53 (f:=I64) (xs:=c.2) (y:=e) O O O O H3 t a4) O,ø⟩ (Gc (u:=I64 e) O O ⟨Gf (Q0d (f:=I64) (xs:=c.2) (y:=e) Gb O O O t O O) O,ø⟩ (Gc (u:=.vec 1118 data_q 1 data.length) O O ⟨Gf (G5 O O) O,ø⟩ (Gc (u:=I64 c.1) O O ⟨Gf (G5 O O) O,ø⟩ (Gc (u:=.vptr 1118 data_q c.1.toNat 0) O O ⟨Gf (G53 (f:=I64) (xs:=c.2) (y:=i) O O O O H3 v a5) O,ø⟩ (Gc (u:=I64 i) O O ⟨Gf (Q0d (f:=I64) (xs:=c.2) (y:=i) Gb O O O v O O) O,ø⟩ ?_)))))))))))))
   refine Gc (u:=.vptr 1118 data_q c.1.toNat 0) O O ⟨Gf (G53 (f:=I64) (xs:=c.2) (y:=d5) O O O O H3 w a6) O,ø⟩ (H22 (u:=.junk) O O O O (Gf (H86 (f:=I64) (xs:=c.2) (z:=e) G63 O O O O (M6 w).1 O O O O) O) (Gc (u:=.vptr 1118 data_q n.toNat 0) O O ⟨Gf (G53 (f:=I64) (xs:=(c.2.set c.1.toNat e)) (y:=d6) O O O O H3 x a7) O,ø⟩ (H22 (u:=.junk) O O O O (Gf (H86 (f:=I64) (xs:=(c.2.set c.1.toNat e)) (z:=i) G63 O O O O (M6 x).1 O O O O) O) (R4 (b9 (G2 (JLm (I64 c.1) O ?_)))))))
   obtain⟨a2,c1,h⟩:=Ht h
   refine JLh (I64 a2) (G62 c1 O O O) O (JLm (I64 a2) O (G6 (d3 _ _ d4 (a2,((c.2.set c.1.toNat e).set n.toNat i)) (app1 b4 h) (by omega) ⟨⟨.same rfl,.same rfl,.same rfl,.same (Hk _ _ cmp_d),.same rfl,.same rfl,ø⟩,⟨⟨_,rfl,.vec⟩,ø⟩,rfl⟩)))
  ·
   refine Hr (d0 (G2 (JLm (I64 d.1) O ?_)))
   obtain⟨a3,c2,h⟩:=Ht h
   refine JLh (I64 a3) (J3 c2 O O O) O (JLm (I64 a3) O (G6 (e3 _ _ m3 (a3,c.2) (app1 c7 h) (by omega) ⟨⟨.same rfl,.same rfl,.same rfl,.same (Hk _ _ cmp_d),.same rfl,ø⟩,⟨⟨_,rfl,.vec⟩,ø⟩,rfl⟩)))
 ·
  refine Hr ?_
  obtain rfl:=M8 h
  exact⟨[],[(1118,.vec 3 1 data_q (d.2.map I64))],⟨⟨_,O,.vec⟩,ø⟩,O,ø,O,O⟩

def Zi (F:Nat) (data:List Int) (a:Int) (b:Int) (limit:Int) (cmp:Int→Int→Option Int):Option (List Int):=
 loop (fun f (c:Int×Int×Int×Bool×Bool)=>
  chk (c.2.1 - c.1) fun d=>
  bif decide (d≤12) then
  (bnd (Rm F data c.1 c.2.1 cmp) fun e=>
   some e)
  else
  (bif decide (c.2.2.1=0) then
   (none)
   else
   (bif (!c.2.2.2.1) then
    (none)
    else
    (none)))) F (a,b,limit,true,true)
theorem Gb2 (F:Nat) (data:List Int) (data_q:Nat) (a:Int) (b:Int) (limit:Int) (cmp:Int→Int→Option Int) (cmp_f:FuncId) (cmp_c:List AV) (cmp_B:H1 En cmp_f=true) (cmp_d:Qb (fun _=>false) cmp_c=true) (cmp_w:∀ a0 a1 q,cmp a0 a1=some q→Pure En cmp_f ([I64 a0,I64 a1]++cmp_c) (·=I64 q)) (r:(List Int)) (h:Zi F data a b limit cmp=some r):Hx En 165 [.vec 1118 data_q 1 data.length,I64 a,I64 b,I64 limit,.fn cmp_f cmp_c] [(1118,.vec 3 1 data_q (data.map I64))] (fun av L'=>av=.tup []∧L'=[(1118,.vec 3 1 data_q (r.map I64))]):=by
 unfold Zi at h
 refine Ji [1118] [] Tryz.func165 O O (G0c O) (Jr fun v=>(JLm (BL true) O (G6 (v (Jr fun w=>(JLm (BL true) O (G6 (w (Gq ?_)))))))))
 obtain⟨x,g,h⟩:=H4b h
 refine Hm (fun d (c:Int×Int×Int×Bool×Bool)=>loop x d c=some r) (fun d c=>[(0,.vec 1118 data_q 1 data.length),(1,I64 c.1),(2,I64 c.2.1),(3,I64 c.2.2.1),(4,.fn cmp_f cmp_c),(10,BL c.2.2.2.1),(11,BL c.2.2.2.2)]) (fun d c=>[(1118,.vec 3 1 data_q (data.map I64))]) (fun d=>d) F (a,b,limit,true,true) h ⟨⟨.same O,.same O,.same O,.same O,.same (Hk _ _ cmp_d),.same O,.same O,ø⟩,⟨⟨_,O,.vec⟩,ø⟩,O⟩ ?_
 clear h
 intro d c i a5 a6
 obtain⟨a7,y,hm_23,z,h⟩:=Gd9 i
 replace h:=R20 g h
 refine Gq (Jr fun j=>(JLm (I64 c.2.1) O (JLm (I64 c.1) O ?_)))
 obtain⟨e,k,h⟩:=Ht h
 refine JLh (I64 e) (G62 k O O O) O (JLm (I64 e) O (G6 (j (Js fun l=>Jr fun m=>(JLm (I64 e) O (JLh (BL (decide (e≤12))) (Hd6 O O O) O (G6 (m (JCc O h (fun h hb=>?_) (fun h hb=>?_))))))))))
 ·
  refine Jr fun n=>(JLm (.vec 1118 data_q 1 data.length) O (JLm (I64 c.1) O (JLm (I64 c.2.1) O (JLm (.fn cmp_f cmp_c) O ?_))))
  obtain⟨f,o,h⟩:=Gd h
  refine JLh (.tup []) (Y1 (args:=[.vec 1118 data_q 1 data.length,I64 c.1,I64 c.2.1,.fn cmp_f cmp_c]) (L0:=[(1118,.vec 3 1 data_q (data.map I64))]) (Lr:=[(1118,.vec 3 1 data_q (f.map I64))]) O (G69 F data data_q c.1 c.2.1 cmp cmp_f cmp_c cmp_B cmp_d cmp_w f o) Ra4 ⟨.inl O,O,.inl O,O,.inl O,O,.inl O,(Hk _ _ cmp_d),ø⟩ ⟨O,ø⟩ O O O) O (G6 (n (Gs ?_)))
  obtain rfl:=M8 h
  exact⟨[],[(1118,.vec 3 1 data_q (f.map I64))],⟨⟨_,O,.vec⟩,ø⟩,O,ø,O,O⟩
 ·
  refine Gk (l (Js fun p=>Jr fun s=>(JLm (I64 c.2.2.1) O (JLh (BL (decide (c.2.2.1=0))) (Qg O O O) O (G6 (s (JCc O h (fun h hb=>?_) (fun h hb=>?_))))))))
  ·
   refine Js fun a2=>?_
   cases h
  ·
   refine Gk (p (Js fun t=>Jr fun u=>(JLm (BL c.2.2.2.1) O (JLh (BL (!c.2.2.2.1)) (Yc (b:=c.2.2.2.1) O O) O (G6 (u (JCc O h (fun h hb=>?_) (fun h hb=>?_))))))))
   ·
    refine Js fun a3=>?_
    cases h
   ·
    refine Gk (t (Js fun a4=>?_))
    cases h

def Zy (F:Nat) (x:List Int) (cmp:Int→Int→Option Int):Option (List Int):=
 bnd (G41 (IntKind.u64.wrap (x.length:Int))) fun a=>
 bnd (Zi F x 0 (x.length:Int) a cmp) fun b=>
 some b
theorem H1b (F:Nat) (x:List Int) (x_q:Nat) (cmp:Int→Int→Option Int) (cmp_f:FuncId) (cmp_c:List AV) (cmp_B:H1 En cmp_f=true) (cmp_d:Qb (fun _=>false) cmp_c=true) (cmp_w:∀ a0 a1 q,cmp a0 a1=some q→Pure En cmp_f ([I64 a0,I64 a1]++cmp_c) (·=I64 q)) (r:(List Int)) (h:Zy F x cmp=some r):Hx En 141 [.vec 1118 x_q 1 x.length,.fn cmp_f cmp_c] [(1118,.vec 3 1 x_q (x.map I64))] (fun av L'=>av=.tup []∧L'=[(1118,.vec 3 1 x_q (r.map I64))]):=by
 unfold Zy at h
 refine Ji [1118] [] Tryz.func141 O O (G0c O) (Jr fun c=>(JLm (.vec 1118 x_q 1 x.length) O (Q04 (f:=I64) (xs:=x) H3 O O O (fun g=>?_) O O O)))
 refine JLm (Em x.length) O (G6 (c (G2 (JLm (.vec 1118 x_q 1 x.length) O (JLm (Em x.length) O (JLm (Em x.length) O (JLh (.sc (.int .u64 (IntKind.u64.wrap (x.length:Int)))) (G9c Q96 G22 O O O) O ?_)))))))
 obtain⟨a,d,h⟩:=Gd h
 refine JLh (I64 a) (Gu O (Hce (IntKind.u64.wrap (x.length:Int)) a d) Qa8 ⟨O,O,ø⟩) O (JLm (.fn cmp_f cmp_c) O ?_)
 obtain⟨b,e,h⟩:=Gd h
 refine JLh (.tup []) (Y1 (args:=[.vec 1118 x_q 1 x.length,I64 0,Em x.length,I64 a,.fn cmp_f cmp_c]) (L0:=[(1118,.vec 3 1 x_q (x.map I64))]) (Lr:=[(1118,.vec 3 1 x_q (b.map I64))]) O (Gb2 F x x_q 0 (x.length:Int) a cmp cmp_f cmp_c cmp_B cmp_d cmp_w b e) Ra5 ⟨.inl O,O,.inl O,O,.inl O,O,.inl O,O,.inl O,(Hk _ _ cmp_d),ø⟩ ⟨O,ø⟩ O O O) O (G6 ?_)
 obtain rfl:=M8 h
 exact⟨[],[(1118,.vec 3 1 x_q (b.map I64))],⟨⟨_,O,.vec⟩,ø⟩,O,ø,O,O⟩

def G80 (F:Nat) (l:List Int) (compare:Int→Int→Option Int):Option (List Int):=
 bnd (Zy F l compare) fun a=>
 some a
theorem H68 (F:Nat) (l:List Int) (l_q:Nat) (compare:Int→Int→Option Int) (compare_f:FuncId) (compare_c:List AV) (compare_B:H1 En compare_f=true) (compare_d:Qb (fun _=>false) compare_c=true) (compare_w:∀ a0 a1 q,compare a0 a1=some q→Pure En compare_f ([I64 a0,I64 a1]++compare_c) (·=I64 q)) (r:(List Int)) (h:G80 F l compare=some r):Hx En 108 [.vec 1118 l_q 1 l.length,.fn compare_f compare_c] [(1118,.vec 3 1 l_q (l.map I64))] (fun av L'=>∃ p:Nat,av=.vec 1118 p 1 r.length∧L'=[(1118,.vec 3 1 p (r.map I64))]):=by
 unfold G80 at h
 refine Ji [1118] [.tmp 4] Tryz.func108 O O (G0c O) (Jr fun b=>(JLh (.vec 1183 (([]:List Int).length) 1 (([]:List Int).length)) (G73 1183 3 1 O O O) O (G6 (b (Jr fun c=>(JLm (.vec 1118 l_q 1 l.length) O (JLm (.fn compare_f compare_c) O ?_)))))))
 obtain⟨a,d,h⟩:=Gd h
 refine JLh (.tup []) (Y1 (args:=[.vec 1118 l_q 1 l.length,.fn compare_f compare_c]) (L0:=[(1118,.vec 3 1 l_q (l.map I64))]) (Lr:=[(1118,.vec 3 1 l_q (a.map I64))]) O (H1b F l l_q compare compare_f compare_c compare_B compare_d compare_w a d) Rac ⟨.inl O,O,.inl O,(Hk _ _ compare_d),ø⟩ ⟨O,ø⟩ O O O) O (G6 (c (Jr fun e=>(JLm (.vec 1118 l_q 1 l.length) O (JLm (.vec 1118 l_q 1 l.length) O (G6 (e (G3c 4 O O (fun hn_=>Gs ?_)))))))))
 obtain rfl:=M8 h
 exact⟨[.vec 1118 l_q 1 l.length],[(1118,.vec 3 1 l_q (a.map I64))],⟨⟨_,O,.vec⟩,ø⟩,O,⟨⟨_,O,.conv (.same O)⟩,ø⟩,l_q,congrArg (fun n_:Nat=>(.vec 1118 l_q 1 n_:AV)) (hn_.trans (Mn _)),O⟩

def G71 (F:Nat) (s:Gj) (bf:List G1) (af:List G1) (lf:List Int) (bay:Int):Option (List Int):=
 each (fun l n (d:(List Int)) f=>
  bnd (Zq F s l lf bay false) fun g=>
  each (fun h m (a:(List Int)) e=>
   jp (fun c=>
    bnd (Rh s h.Slot.G3) fun b=>
    bnd (bif decide (0≤b) then Jx a b else some default) fun i=>
    bif ((decide (0≤b))&&(!i)) then
    (need (decide ((a.length+[b].length)*8≤140737488355328∧a.length+[b].length≤maxLen)) <|
     c (a++[b]))
    else
    (c a)) fun(j:(List Int))=>
   e j)
  (fun(a:(List Int))=>
   f a) g 0 d)
 (fun(d:(List Int))=>
  bnd (G80 F d (fun z0 z1=>Qw z0 z1)) fun k=>
  some k) [bf,af] 0 []
theorem Hff (F:Nat) (s:Gj) (bf:List G1) (af:List G1) (lf:List Int) (bay:Int) (r:(List Int)) (h:G71 F s bf af lf bay=some r):Pure En 59 [.agg (Gj.cs s),E1 bf,E1 af,E2 lf,I64 bay] (·=E2 r):=by
 unfold G71 at h
 refine Gz [.tmp 10] Tryz.func59 O O (Jr fun c1=>(JLh (.ptr 1117 0) (Q6 (cs:=(Gj.cs s)) 1117 O O O O O) O (JLh (E2 ([]:List Int)) (Jd 1 O O) O (G6 (c1 (fzQ [(1,E1 bf),(2,E1 af),(3,E2 lf),(4,I64 bay),(5,Ee s)] [] 1117 rfl rfl rfl ø rfl (Jr fun c2=>(JLh (.vec 1118 (([]:List Int).length) 1 (([]:List Int).length)) (G73 1118 3 1 O O O) O (G6 (c2 (Js fun c3=>?_)))))))))))
 refine Jr fun c4=>(JLm (E1 bf) O (JLm (E1 af) O (JLh (LS 1 (E1) [bf,af]) (He (xs:=[E1 bf,E1 af]) O ⟨O,O,O,O,ø⟩ Ju Hbe O O O O) O (JLl Ju O O O fun a0=>(JLm (I64 0) O (G6 (c4 (Gq ?_))))))))
 obtain⟨b5,c5,c6,a1,h⟩:=Je h
 refine Hm (fun j (i:(List Int))=>each b5 c5 (List.drop j [bf,af]) j i=some r) (fun j i=>[(3,E2 lf),(4,I64 bay),(5,Ee s),(11,.vec 1118 i.length 1 i.length),(19,LS 1 (E1) [bf,af]),(20,I64 ([bf,af].length:Int)),(21,Em j)]) (fun j i=>[(1118,.vec 3 1 i.length (i.map I64))]) (fun j=>[bf,af].length - j) 0 [] h ⟨(.sm O O),⟨⟨_,rfl,.vec⟩,ø⟩,rfl⟩ ?_
 clear h
 intro j i x K5 e5
 refine Jr fun c7=>(JLh (BL (decide ((j:Int) < ([bf,af].length:Int)))) (Jn O O O) O (G6 (c7 (Js fun c8=>Gp O (fun hb=>?_) (fun hb=>?_)))))
 ·
  have z:=Jz hb
  obtain⟨n,d9,c9,d0,h⟩:=Hv x z
  replace h:=Zm c6 h
  refine Gk (c8 (Js fun d1=>Gq (Jr fun d2=>(JLh (.dptr [E1 n]) (Hb (f:=(E1)) (xs:=[bf,af]) (y:=n) O O O Ju c9 O) O (JLh (E1 n) (Gg Yj O O O) O (JLm (E1 n) O (G6 (d2 (Jr fun a2=>(JLh (.agg (Gj.cs s)) (Gm J8 O O O) O (JLm (E1 n) O (JLm (E2 lf) O (JLm (I64 bay) O ?_)))))))))))))
  obtain⟨g,a3,h⟩:=Gd h
  refine JLh (E1 g) (Gu O (Haf F s n lf bay false g a3) H91 ⟨O,O,O,O,O,O,O,O,O,O,ø⟩) O (JLl H5 O O O fun a4=>(JLm (I64 0) O (G6 (a2 (Gq ?_)))))
  obtain⟨d3,a5,a6,v,h⟩:=Je h
  refine Hm (fun d (a:(List Int))=>each d3 a5 (List.drop d g) d a=some r) (fun d a=>[(3,E2 lf),(4,I64 bay),(5,Ee s),(11,.vec 1118 a.length 1 a.length),(19,LS 1 (E1) [bf,af]),(20,I64 ([bf,af].length:Int)),(21,Em j),(29,E1 g),(30,Em g.length),(31,Em d)]) (fun d a=>[(1118,.vec 3 1 a.length (a.map I64))]) (fun d=>g.length - d) 0 i h ⟨(.sm O O),⟨⟨_,rfl,.vec⟩,ø⟩,rfl⟩ ?_
  clear h
  intro d a o e0 d4
  refine Jr fun a7=>(JLh (BL (decide ((d:Int) < (g.length:Int)))) (Jn O O O) O (G6 (a7 (Js fun a8=>Gp O (fun hb=>?_) (fun hb=>?_)))))
  ·
   have t:=Jz hb
   obtain⟨e,d8,a9,b0,h⟩:=Hv o t
   replace h:=Zm a6 h
   refine Gk (a8 ?_)
   obtain⟨b1,w,h⟩:=Rc h
   refine Qk (fun k:(List Int)=>b1 k=some r) (fun k=>[(3,E2 lf),(4,I64 bay),(5,Ee s),(11,.vec 1118 k.length 1 k.length),(19,LS 1 (E1) [bf,af]),(20,I64 ([bf,af].length:Int)),(21,Em j),(29,E1 g),(30,Em g.length),(31,Em d)]) (fun k=>[(1118,.vec 3 1 k.length (k.map I64))]) (fun Kj55 ej55=>?_) ?_
   ·
    refine Gq (Jr fun b2=>(JLh (Eh e) (Hb (f:=G1.av) (xs:=g) (y:=e) O O O H5 a9 O) O (JLh (.agg (G1.cs e)) (Gm Qh O O O) O (JLh (.ptr 1119 0) (Hj 1119 4 Q3 O O) O (Hq (u:=.junk) (H7 (u:=.agg (G1.cs e)) (ds:=[I64 e.Box,I64 e.Slot.G3,I64 e.Slot.Tier,U8 e.Slot.Half]) Ru O O O O O O O O) (G6 (b2 ?_)))))))
    refine fzQ [(3,E2 lf),(4,I64 bay),(5,Ee s),(11,.vec 1118 a.length 1 a.length),(15,Eh e),(19,LS 1 (E1) [bf,af]),(20,I64 ([bf,af].length:Int)),(21,Em j),(29,E1 g),(30,Em g.length),(31,Em d)] [(1118,.vec 3 1 a.length (a.map I64))] 1119 rfl rfl rfl ⟨⟨_,rfl,.vec⟩,ø⟩ rfl (Jr fun b3=>(JLh (.agg (Gj.cs s)) (Gm J8 O O O) O (JLh (.dptr ((G1.cs e).drop 1)) (Ga Jt O O O) O (JLh (.dptr ((G1.cs e).drop 1)) (Ga Jb O O O) O (JLh (I64 e.Slot.G3) (Gg Gb O O O) O ?_)))))
    obtain⟨c,b4,h⟩:=Gd h
    refine JLh (I64 c) (Gu O (G70 s e.Slot.G3 c b4) H90 ⟨O,O,O,O,ø⟩) O (JLm (I64 c) O (G6 (b3 (Jr fun b6=>(JLm (I64 c) O (JLh (BL (decide (0≤c))) (H2c O O O) O (JLm (BL (decide (0≤c))) O (JLo (.vec 1118 a.length 1 a.length) [] O .sct ø (fun hc=>G5 O O) O (JLo (I64 c) [] O .sct ø (fun hc=>G5 O O) O ?_)))))))))
    obtain⟨l,b7,h⟩:=Gd h
    refine JLo (BL l) [43,44] O .sct ⟨Ua,Ua,ø⟩ (fun hc=>Y7a (args:=[E2 a,I64 c]) O (G14 a c l (H2 hc b7)) J11 ⟨.vec O,.data O O,ø⟩ O) O (JLo (BL (!l)) [45] O .sct ⟨Ua,ø⟩ (fun hc=>Yc (b:=l) O O) O (JLh (BL ((decide (0≤c))&&(!l))) (Ri O O O O) O (G6 (b6 (JCc O h (fun h hb=>?_) (fun h hb=>?_))))))
    ·
     refine G2 (JLm (.vec 1118 a.length 1 a.length) O (JLm (I64 c) O (JLh (E2 [c]) (He (xs:=[I64 c]) O ⟨O,O,ø⟩ H3 Y6 O O O O) O ?_)))
     obtain⟨b8,h⟩:=Jf h
     refine JLh (.vec 1118 ((a++[c]).length) 1 ((a++[c]).length)) (G1f (f:=I64) (xs:=a) (ys:=[c]) (ver:=a.length) (ver1:=(a++[c]).length) rfl rfl rfl rfl H3 G94 b8 (fun _=>rfl) (.inl rfl) (by simp)) O (JLm (.vec 1118 ((a++[c]).length) 1 ((a++[c]).length)) O (G6 (ej55 _ _ (a++[c]) h ⟨(.sm O O),⟨⟨_,rfl,.vec⟩,ø⟩,rfl⟩)))
    ·
     refine Gk (ej55 _ _ a h ⟨(.sm O O),⟨⟨_,rfl,.vec⟩,ø⟩,rfl⟩)
   ·intro k h
    replace h:=app1 w h
    refine G2 (JLh (I64 ((d+1:Nat):Int)) (J3 (Hp t a4) O O O) O (JLm (I64 ((d+1:Nat):Int)) O (G6 (d4 _ _ (d+1) k (app1 b0 h) (by omega) ⟨(.sm O O),⟨⟨_,rfl,.vec⟩,ø⟩,rfl⟩))))
  ·
   have h:=app1 v (Hw o (Hf hb))
   refine Hr (d1 (G2 (JLh (I64 ((j+1:Nat):Int)) (J3 (Hp z a0) O O O) O (JLm (I64 ((j+1:Nat):Int)) O (G6 (e5 _ _ (j+1) a (app1 d0 h) (by omega) ⟨(.sm O O),⟨⟨_,rfl,.vec⟩,ø⟩,rfl⟩))))))
 ·
  have h:=app1 a1 (Hw x (Hf hb))
  refine Hr (c3 (Jr fun b9=>(JLm (.vec 1118 i.length 1 i.length) O ?_)))
  obtain⟨m,c0,h⟩:=Gd h
  refine Rn O O O (G8f (args:=[.vec 1118 i.length 1 i.length,.fn 47 []]) (L0:=[(1118,.vec 3 1 i.length (i.map I64))]) (u:=fun p=>.vec 1118 p 1 m.length) (Lr:=fun p=>[(1118,.vec 3 1 p (m.map I64))]) O (H68 F i i.length (fun z0 z1=>Qw z0 z1) 47 [] H31 O (fun z0 z1 q hq=>Zs z0 z1 q hq) m c0) Rbc ⟨.inl O,O,.inl O,O,ø⟩ ⟨O,ø⟩ O (fun _=>O)) ?_
  rintro u_ L_ ⟨d5,rfl,rfl⟩
  refine JLm (.vec 1118 d5 1 m.length) O (G6 (b9 (H43 [(10,E2 m)] [] 1118 rfl rfl ø rfl (by exact⟨.vec,ø⟩) (Gs (fin1 (fun r:(List Int)=>(E2 r:AV)) h)))))


theorem J6e (F:Nat) (s:Gj) (l:List G1) (lf:List Int) (bay:Int) (deck:Bool) (r:(List G1)) (h:Zq F s l lf bay deck=some r):Hx En 58 [.agg (Gj.cs s),E1 l,E2 lf,I64 bay,BL deck] [] (fun av L'=>∃ p:Nat,av=.vec 1114 p 4 r.length∧L'=[(1114,.vec 64 4 p (r.map G1.av))]):=by
 unfold Zq at h
 refine Ji [] [.tmp 10] Tryz.func58 O O (G0c O) (Jr fun b2=>(JLh (.ptr 1112 0) (Q6 (cs:=(Gj.cs s)) 1112 O O O O O) O (JLh (.vec 1113 (([]:List G1).length) 4 (([]:List G1).length)) (G73 1113 64 4 O O O) O (G6 (b2 (fzQ [(1,E1 l),(2,E2 lf),(3,I64 bay),(4,BL deck),(5,Ee s)] [(1113,.vec 64 4 (([]:List G1).length) (([]:List G1).map G1.av))] 1112 rfl rfl rfl ⟨⟨_,rfl,.vec⟩,ø⟩ rfl ?_))))))
 refine Jr fun b3=>(JLh (.vec 1114 (([]:List G1).length) 4 (([]:List G1).length)) (G73 1114 64 4 O O O) O (G6 (b3 (Js fun b4=>Jr fun b5=>(JLm (E1 l) O (JLl H5 O O O fun t=>(JLm (I64 0) O (G6 (b5 (Gq ?_))))))))))
 obtain⟨b6,v,w,n,h⟩:=Je h
 refine Hm (fun d (a:(List G1))=>each b6 v (List.drop d l) d a=some r) (fun d a=>[(2,E2 lf),(3,I64 bay),(4,BL deck),(5,Ee s),(11,.vec 1114 a.length 4 a.length),(15,E1 l),(16,Em l.length),(17,Em d)]) (fun d a=>[(1113,.vec 64 4 (([]:List G1).length) (([]:List G1).map G1.av)),(1114,.vec 64 4 a.length (a.map G1.av))]) (fun d=>l.length - d) 0 [] h ⟨(.sm O O),⟨⟨_,rfl,.vec⟩,⟨_,rfl,.vec⟩,ø⟩,rfl⟩ ?_
 clear h
 intro d a j b9 b7
 refine Jr fun x=>(JLh (BL (decide ((d:Int) < (l.length:Int)))) (Jn O O O) O (G6 (x (Js fun z=>Gp O (fun hb=>?_) (fun hb=>?_)))))
 ·
  have k:=Jz hb
  obtain⟨b,b8,a0,a1,h⟩:=Hv j k
  replace h:=Zm w h
  refine Gk (z ?_)
  obtain⟨a2,o,h⟩:=Rc h
  refine Qk (fun e:(List G1)=>a2 e=some r) (fun e=>[(2,E2 lf),(3,I64 bay),(4,BL deck),(5,Ee s),(11,.vec 1114 e.length 4 e.length),(15,E1 l),(16,Em l.length),(17,Em d)]) (fun e=>[(1113,.vec 64 4 (([]:List G1).length) (([]:List G1).map G1.av)),(1114,.vec 64 4 e.length (e.map G1.av))]) (fun Kj52 ej52=>?_) ?_
  ·
   refine Gq (Jr fun a3=>(JLh (Eh b) (Hb (f:=G1.av) (xs:=l) (y:=b) O O O H5 a0 O) O (JLh (.agg (G1.cs b)) (Gm Qh O O O) O (JLh (.ptr 1115 0) (Hj 1115 4 Q3 O O) O (Hq (u:=.junk) (H7 (u:=.agg (G1.cs b)) (ds:=[I64 b.Box,I64 b.Slot.G3,I64 b.Slot.Tier,U8 b.Slot.Half]) Ru O O O O O O O O) (G6 (a3 ?_)))))))
   refine fzQ [(2,E2 lf),(3,I64 bay),(4,BL deck),(5,Ee s),(11,.vec 1114 a.length 4 a.length),(13,Eh b),(15,E1 l),(16,Em l.length),(17,Em d)] [(1113,.vec 64 4 (([]:List G1).length) (([]:List G1).map G1.av)),(1114,.vec 64 4 a.length (a.map G1.av))] 1115 rfl rfl rfl ⟨⟨_,rfl,.vec⟩,⟨_,rfl,.vec⟩,ø⟩ rfl (Jr fun a4=>(JLh (Ee s) (Ga Jc O O O) O (JLh (E3 s.Columns) (Gg Jv O O O) O (JLh (.dptr ((G1.cs b).drop 1)) (Ga Jt O O O) O (JLh (.dptr ((G1.cs b).drop 1)) (Ga Jb O O O) O (JLh (I64 b.Slot.G3) (Gg Gb O O O) O ?_))))))
   obtain⟨c0,c,a5,a6,h⟩:=Rw h
   refine JLh (Ej c) (Hb (f:=G3.av) (xs:=s.Columns) (y:=c) O O O Hz a6 a5) O (JLh (.agg (G3.cs c)) (Gm Gbf O O O) O (JLh (.ptr 1116 0) (Hj 1116 12 G42 O O) O (Hq (u:=.junk) (H7 (u:=.agg (G3.cs c)) (ds:=(G3.cs c)) H2f O O O O O O O O) (G6 (a4 ?_)))))
   refine fzQ [(2,E2 lf),(3,I64 bay),(4,BL deck),(5,Ee s),(11,.vec 1114 a.length 4 a.length),(13,Eh b),(14,Ej c),(15,E1 l),(16,Em l.length),(17,Em d)] [(1113,.vec 64 4 (([]:List G1).length) (([]:List G1).map G1.av)),(1114,.vec 64 4 a.length (a.map G1.av))] 1116 rfl rfl rfl ⟨⟨_,rfl,.vec⟩,⟨_,rfl,.vec⟩,ø⟩ rfl ?_
   refine Jr fun a7=>(JLh (Ej c) (Ga G2c O O O) O (JLh (I64 c.Bay) (Gg Gb O O O) O (JLm (I64 bay) O (JLh (BL (decide (c.Bay=bay))) (Qg O O O) O (JLm (BL (decide (c.Bay=bay))) O (JLo (.dptr ((G3.cs c).drop 2)) [] O .sct ø (fun hc=>Ga Yu O O O) O (JLo (BL c.Deck) [33] O .sct ⟨Ua,ø⟩ (fun hc=>Gg Qe O O O) O (JLo (BL deck) [] O .sct ø (fun hc=>G5 O O) O (JLo (BL (c.Deck==deck)) [34,35] O .sct ⟨Ua,Ua,ø⟩ (fun hc=>Q0f H85 O O O) O (JLh (BL ((decide (c.Bay=bay))&&(c.Deck==deck))) (Ri O O O O) O (JLm (BL ((decide (c.Bay=bay))&&(c.Deck==deck))) O (JLo (E2 lf) [] O .sct ø (fun hc=>G5 O O) O (JLo (Eh b) [] O .sct ø (fun hc=>Ga Ja O O O) O ?_)))))))))))))
   refine JLo (I64 b.Box) [40] O .sct ⟨Ua,ø⟩ (fun hc=>Gg Gb O O O) O ?_
   obtain⟨m,a8,h⟩:=Gd h
   refine JLo (BL m) [39,41] O .sct ⟨Ua,Ua,ø⟩ (fun hc=>Gu (args:=[E2 lf,I64 b.Box]) O (G14 lf b.Box m (H2 hc a8)) J11 ⟨O,O,O,O,ø⟩) O (JLh (BL (((decide (c.Bay=bay))&&(c.Deck==deck))&&m)) (Ri O O O O) O (G6 (a7 (JCc O h (fun h hb=>?_) (fun h hb=>?_)))))
   ·
    refine G2 (JLm (.vec 1114 a.length 4 a.length) O (JLh (.agg (G1.cs b)) (Gm Qh O O O) O (JLh (E1 [b]) (He (xs:=[.agg (G1.cs b)]) O ⟨O,O,ø⟩ H5 Q3 O O O O) O ?_)))
    obtain⟨a9,h⟩:=Jf h
    refine JLh (.vec 1114 ((a++[b]).length) 4 ((a++[b]).length)) (G1f (f:=G1.av) (xs:=a) (ys:=[b]) (ver:=a.length) (ver1:=(a++[b]).length) rfl rfl rfl rfl H5 Geb a9 (fun _=>rfl) (.inl rfl) (by simp)) O (JLm (.vec 1114 ((a++[b]).length) 4 ((a++[b]).length)) O (G6 (ej52 _ _ (a++[b]) h ⟨(.sm O O),⟨⟨_,rfl,.vec⟩,⟨_,rfl,.vec⟩,ø⟩,rfl⟩)))
   ·
    refine Gk (ej52 _ _ a h ⟨(.sm O O),⟨⟨_,rfl,.vec⟩,⟨_,rfl,.vec⟩,ø⟩,rfl⟩)
  ·intro e h
   replace h:=app1 o h
   refine G2 (JLh (I64 ((d+1:Nat):Int)) (J3 (Hp k t) O O O) O (JLm (I64 ((d+1:Nat):Int)) O (G6 (b7 _ _ (d+1) e (app1 a1 h) (by omega) ⟨(.sm O O),⟨⟨_,rfl,.vec⟩,⟨_,rfl,.vec⟩,ø⟩,rfl⟩))))
 ·
  have h:=app1 n (Hw j (Hf hb))
  refine Hr (b4 (Jr fun b0=>(JLm (.vec 1114 a.length 4 a.length) O ?_)))
  obtain⟨g,b1,h⟩:=Gd h
  refine Rn O O O (G8f (args:=[.vec 1114 a.length 4 a.length,.fn 105 []]) (L0:=[(1114,.vec 64 4 a.length (a.map G1.av))]) (u:=fun p=>.vec 1114 p 4 g.length) (Lr:=fun p=>[(1114,.vec 64 4 p (g.map G1.av))]) O (G31 F a a.length (fun z0 z1=>G3a z0 z1) 105 [] Q4b O (fun z0 z1 q hq=>Hfe z0 z1 q hq) g b1) Q4c ⟨.inl O,O,.inl O,O,ø⟩ ⟨O,ø⟩ O (fun _=>O)) ?_
  rintro u_ L_ ⟨i,rfl,rfl⟩
  refine JLm (.vec 1114 i 4 g.length) O (G6 (b0 (G3c 10 O O (fun hn_=>Gs ?_))))
  obtain rfl:=M8 h
  exact⟨[.vec 1114 i 4 g.length],[(1114,.vec 64 4 i (g.map G1.av))],⟨⟨_,O,.vec⟩,ø⟩,O,⟨⟨_,O,.conv (.same O)⟩,ø⟩,i,congrArg (fun n_:Nat=>(.vec 1114 i 4 n_:AV)) (hn_.trans (Mn _)),O⟩

def Rx (F:Nat) (data:List G1) (n:Int) (cmp:G1→G1→Option Int):Option (List G1):=
 loop (fun d (a:Int×Int×(List G1))=>
  bif decide (a.2.1≤n) then
  (bnd (Jg F a.2.2 a.1 a.2.1 cmp) fun f=>
   chk (a.2.1+20) fun g=>
   d (a.2.1,g,f))
  else
  (bnd (Jg F a.2.2 a.1 n cmp) fun h=>
   loop (fun e (b:Int)=>
    bif decide (b < n) then
    (chk (2*b) fun i=>
     loop (fun l (c:Int×Int)=>
      bif decide (c.2≤n) then
      (none)
      else
      (chk (c.1+b) fun j=>
       bif decide (j < n) then
       (none)
       else
       (chk (b*2) fun k=>
        e k))) F (0,i))
    else
    (some h)) F 20)) F (0,20,data)
theorem G74 (F:Nat) (data:List G1) (data_q:Nat) (n:Int) (cmp:G1→G1→Option Int) (cmp_f:FuncId) (cmp_c:List AV) (cmp_B:H1 En cmp_f=true) (cmp_d:Qb (fun _=>false) cmp_c=true) (cmp_w:∀ a0 a1 q,cmp a0 a1=some q→Pure En cmp_f ([.agg (G1.cs a0),.agg (G1.cs a1)]++cmp_c) (·=I64 q)) (r:(List G1)) (h:Rx F data n cmp=some r):Hx En 139 [.vec 1114 data_q 4 data.length,I64 n,.fn cmp_f cmp_c] [(1114,.vec 64 4 data_q (data.map G1.av))] (fun av L'=>av=.tup []∧L'=[(1114,.vec 64 4 data_q (r.map G1.av))]):=by
 unfold Rx at h
 refine Ji [1114] [] Tryz.func139 O O (G0c O) (Jr fun c2=>(JLm (I64 20) O (G6 (c2 (Jr fun c3=>(JLm (I64 20) O (JLm (I64 0) O (JLm (I64 20) O (G6 (c3 (Js fun c4=>Gq ?_)))))))))))
 obtain⟨c5,o,h⟩:=H4b h
 refine Hm (fun d (a:Int×Int×(List G1))=>loop c5 d a=some r) (fun d a=>[(0,.vec 1114 data_q 4 data.length),(1,I64 n),(2,.fn cmp_f cmp_c),(6,I64 20),(7,I64 a.1),(8,I64 a.2.1)]) (fun d a=>[(1114,.vec 64 4 data_q (a.2.2.map G1.av))]) (fun d=>d) F (0,20,data) h ⟨⟨.same O,.same O,.same (Hk _ _ cmp_d),.same O,.same O,.same O,ø⟩,⟨⟨_,O,.vec⟩,ø⟩,O⟩ ?_
 clear h
 intro d a p d7 c6
 obtain⟨c7,d2,hm_19,s,h⟩:=Gd9 p
 replace h:=R20 o h
 refine Js fun t=>Jr fun u=>(JLm (I64 a.2.1) O (JLm (I64 n) O (JLh (BL (decide (a.2.1≤n))) (Hd6 O O O) O (G6 (u (JCc O h (fun h hb=>?_) (fun h hb=>?_)))))))
 ·
  refine Gk (t (Gq (Jr fun v=>(JLm (.vec 1114 data_q 4 data.length) O (JLm (I64 a.1) O (JLm (I64 a.2.1) O (JLm (.fn cmp_f cmp_c) O ?_)))))))
  obtain⟨j,w,h⟩:=Gd h
  refine Ya3 14 O O (fun x=>JLh (.tup []) (Y1 (args:=[.vec 1114 data_q 4 a.2.2.length,I64 a.1,I64 a.2.1,.fn cmp_f cmp_c]) (L0:=[(1114,.vec 64 4 data_q (a.2.2.map G1.av))]) (Lr:=[(1114,.vec 64 4 data_q (j.map G1.av))]) O (Qq F a.2.2 data_q a.1 a.2.1 cmp cmp_f cmp_c cmp_B cmp_d cmp_w j w) J4d ⟨.inl (congrArg (fun n_:Nat=>(.vec 1114 data_q 4 n_:AV)) (x.trans (Mn _))),O,.inl O,O,.inl O,O,.inl O,(Hk _ _ cmp_d),ø⟩ ⟨O,ø⟩ O O O) O (G6 (v (Jr fun y=>(JLm (I64 a.2.1) O (JLm (I64 a.2.1) O (G6 (y (G2 (JLm (I64 a.2.1) O (JLm (I64 20) O ?_)))))))))))
  obtain⟨k,z,h⟩:=Ht h
  refine JLh (I64 k) (J3 z O O O) O (JLm (I64 k) O (G6 (c6 _ _ c7 (a.2.1,k,j) (app1 s h) (by omega) ⟨⟨.same rfl,.same rfl,.same (Hk _ _ cmp_d),.same rfl,.same rfl,.same rfl,ø⟩,⟨⟨_,rfl,.vec⟩,ø⟩,rfl⟩)))
 ·
  refine Hr (c4 (Jr fun a2=>(JLm (.vec 1114 data_q 4 data.length) O (JLm (I64 a.1) O (JLm (I64 n) O (JLm (.fn cmp_f cmp_c) O ?_))))))
  obtain⟨g,a3,h⟩:=Gd h
  refine Ya3 23 O O (fun a4=>JLh (.tup []) (Y1 (args:=[.vec 1114 data_q 4 a.2.2.length,I64 a.1,I64 n,.fn cmp_f cmp_c]) (L0:=[(1114,.vec 64 4 data_q (a.2.2.map G1.av))]) (Lr:=[(1114,.vec 64 4 data_q (g.map G1.av))]) O (Qq F a.2.2 data_q a.1 n cmp cmp_f cmp_c cmp_B cmp_d cmp_w g a3) J4d ⟨.inl (congrArg (fun n_:Nat=>(.vec 1114 data_q 4 n_:AV)) (a4.trans (Mn _))),O,.inl O,O,.inl O,O,.inl O,(Hk _ _ cmp_d),ø⟩ ⟨O,ø⟩ O O O) O (G6 (a2 (Gq ?_))))
  obtain⟨c8,a5,h⟩:=H4b h
  refine Hm (fun e (b:Int)=>loop c8 e b=some r) (fun e b=>[(0,.vec 1114 data_q 4 data.length),(1,I64 n),(2,.fn cmp_f cmp_c),(6,I64 b)]) (fun e b=>[(1114,.vec 64 4 data_q (g.map G1.av))]) (fun e=>e) F 20 h ⟨⟨.same O,.same O,.same (Hk _ _ cmp_d),.same O,ø⟩,⟨⟨_,O,.vec⟩,ø⟩,O⟩ ?_
  clear h
  intro e b a6 d8 c9
  obtain⟨d0,d3,hm_30,a7,h⟩:=Gd9 a6
  replace h:=R20 a5 h
  refine Js fun a8=>Jr fun a9=>(JLm (I64 b) O (JLm (I64 n) O (JLh (BL (decide (b < n))) (Jn O O O) O (G6 (a9 (JCc O h (fun h hb=>?_) (fun h hb=>?_)))))))
  ·
   refine Gk (a8 (Gq (Jr fun b0=>(JLm (I64 b) O ?_))))
   obtain⟨l,b1,h⟩:=Ht h
   refine JLh (I64 l) (Jab b1 O O O) O (JLm (I64 0) O (JLm (I64 l) O (G6 (b0 (Js fun b2=>Gq ?_)))))
   obtain⟨d1,b3,h⟩:=H4b h
   refine Hm (fun f (c:Int×Int)=>loop d1 f c=some r) (fun f c=>[(0,.vec 1114 data_q 4 data.length),(1,I64 n),(2,.fn cmp_f cmp_c),(6,I64 b),(7,I64 c.1),(8,I64 c.2)]) (fun f c=>[(1114,.vec 64 4 data_q (g.map G1.av))]) (fun f=>f) F (0,l) h ⟨⟨.same O,.same O,.same (Hk _ _ cmp_d),.same O,.same O,.same O,ø⟩,⟨⟨_,O,.vec⟩,ø⟩,O⟩ ?_
   clear h
   intro f c b4 d9 e0
   obtain⟨e1,d4,hm_40,d5,h⟩:=Gd9 b4
   replace h:=R20 b3 h
   refine Js fun b5=>Jr fun b6=>(JLm (I64 c.2) O (JLm (I64 n) O (JLh (BL (decide (c.2≤n))) (Hd6 O O O) O (G6 (b6 (JCc O h (fun h hb=>?_) (fun h hb=>?_)))))))
   ·
    refine Gk (b5 (Gq (Js fun d6=>?_)))
    cases h
   ·
    refine Hr (b2 (Js fun b7=>Jr fun b8=>(JLm (I64 c.1) O (JLm (I64 b) O ?_))))
    obtain⟨i,b9,h⟩:=Ht h
    refine JLh (I64 i) (J3 b9 O O O) O (JLm (I64 i) O (G6 (b8 (Jr fun c0=>(JLm (I64 i) O (JLm (I64 n) O (JLh (BL (decide (i < n))) (Jn O O O) O (G6 (c0 (JCc O h (fun h hb=>?_) (fun h hb=>?_)))))))))))
    ·
     cases h
    ·
     refine Gk (b7 (G2 (JLm (I64 b) O ?_)))
     obtain⟨m,c1,h⟩:=Ht h
     refine JLh (I64 m) (Jab c1 O O O) O (JLm (I64 m) O (G6 (c9 _ _ d0 m (app1 a7 h) (by omega) ⟨⟨.same rfl,.same rfl,.same (Hk _ _ cmp_d),.same rfl,ø⟩,⟨⟨_,rfl,.vec⟩,ø⟩,rfl⟩)))
  ·
   refine Hr ?_
   obtain rfl:=M8 h
   exact⟨[],[(1114,.vec 64 4 data_q (g.map G1.av))],⟨⟨_,O,.vec⟩,ø⟩,O,ø,O,O⟩

def Qs (F:Nat) (x:List G1) (cmp:G1→G1→Option Int):Option (List G1):=
 bnd (Rx F x (x.length:Int) cmp) fun a=>
 some a
theorem G6a (F:Nat) (x:List G1) (x_q:Nat) (cmp:G1→G1→Option Int) (cmp_f:FuncId) (cmp_c:List AV) (cmp_B:H1 En cmp_f=true) (cmp_d:Qb (fun _=>false) cmp_c=true) (cmp_w:∀ a0 a1 q,cmp a0 a1=some q→Pure En cmp_f ([.agg (G1.cs a0),.agg (G1.cs a1)]++cmp_c) (·=I64 q)) (r:(List G1)) (h:Qs F x cmp=some r):Hx En 102 [.vec 1114 x_q 4 x.length,.fn cmp_f cmp_c] [(1114,.vec 64 4 x_q (x.map G1.av))] (fun av L'=>av=.tup []∧L'=[(1114,.vec 64 4 x_q (r.map G1.av))]):=by
 unfold Qs at h
 refine Ji [1114] [] Tryz.func102 O O (G0c O) (G2 (JLm (.vec 1114 x_q 4 x.length) O (JLm (.vec 1114 x_q 4 x.length) O (Q04 (f:=G1.av) (xs:=x) H5 O O O (fun c=>?_) O O O))))
 refine JLm (.fn cmp_f cmp_c) O ?_
 obtain⟨a,b,h⟩:=Gd h
 refine JLh (.tup []) (Y1 (args:=[.vec 1114 x_q 4 x.length,Em x.length,.fn cmp_f cmp_c]) (L0:=[(1114,.vec 64 4 x_q (x.map G1.av))]) (Lr:=[(1114,.vec 64 4 x_q (a.map G1.av))]) O (G74 F x x_q (x.length:Int) cmp cmp_f cmp_c cmp_B cmp_d cmp_w a b) Rae ⟨.inl O,O,.inl O,O,.inl O,(Hk _ _ cmp_d),ø⟩ ⟨O,ø⟩ O O O) O (G6 ?_)
 obtain rfl:=M8 h
 exact⟨[],[(1114,.vec 64 4 x_q (a.map G1.av))],⟨⟨_,O,.vec⟩,ø⟩,O,ø,O,O⟩

def G16 (F:Nat) (l:List G1):Option (List G1):=
 bnd (Qs F l (fun z0 z1=>Zr z0 z1)) fun a=>
 some a
theorem G89 (F:Nat) (l:List G1) (l_q:Nat) (r:(List G1)) (h:G16 F l=some r):Hx En 57 [.vec 1114 l_q 4 l.length] [(1114,.vec 64 4 l_q (l.map G1.av))] (fun av L'=>∃ p:Nat,av=.vec 1114 p 4 r.length∧L'=[(1114,.vec 64 4 p (r.map G1.av))]):=by
 unfold G16 at h
 refine Ji [1114] [.tmp 2] Tryz.func57 O O (G0c O) (Jr fun b=>(JLh (.vec 1111 (([]:List G1).length) 4 (([]:List G1).length)) (G73 1111 64 4 O O O) O (G6 (b (Jr fun c=>(JLm (.vec 1114 l_q 4 l.length) O ?_))))))
 obtain⟨a,d,h⟩:=Gd h
 refine JLh (.tup []) (Y1 (args:=[.vec 1114 l_q 4 l.length,.fn 103 []]) (L0:=[(1114,.vec 64 4 l_q (l.map G1.av))]) (Lr:=[(1114,.vec 64 4 l_q (a.map G1.av))]) O (G6a F l l_q (fun z0 z1=>Zr z0 z1) 103 [] Rbe O (fun z0 z1 q hq=>J42 z0 z1 q hq) a d) Rbf ⟨.inl O,O,.inl O,O,ø⟩ ⟨O,ø⟩ O O O) O (G6 (c (Jr fun e=>(JLm (.vec 1114 l_q 4 l.length) O (JLm (.vec 1114 l_q 4 l.length) O (G6 (e (G3c 2 O O (fun hn_=>Gs ?_)))))))))
 obtain rfl:=M8 h
 exact⟨[.vec 1114 l_q 4 l.length],[(1114,.vec 64 4 l_q (a.map G1.av))],⟨⟨_,O,.vec⟩,ø⟩,O,⟨⟨_,O,.conv (.same O)⟩,ø⟩,l_q,congrArg (fun n_:Nat=>(.vec 1114 l_q 4 n_:AV)) (hn_.trans (Mn _)),O⟩

def H1e (F:Nat) (s:Gj) (bf:List G1) (af:List G1) (lf:List Int):Option (List Move):=
 need (decide (40≤9223372036854775807)) <|
 upto (fun c (d:(List Move)) f=>
  bnd (Zq F s bf lf (c:Int) true) fun m=>
  bnd (G16 F m) fun n=>
  bnd (G0f 2 n d) fun o=>
  bnd (G71 F s bf af lf (c:Int)) fun p=>
  bnd (G72 1 p o) fun q=>
  bnd (Zq F s bf lf (c:Int) false) fun r=>
  bnd (G16 F r) fun t=>
  bnd (G0f 2 t q) fun u=>
  f u)
 (fun(d:(List Move))=>
  need (decide (40≤9223372036854775807)) <|
  upto (fun a (b:(List Move)) e=>
   bnd (Zq F s af lf (a:Int) false) fun g=>
   bnd (G0f 3 g b) fun h=>
   bnd (G71 F s bf af lf (a:Int)) fun i=>
   bnd (G72 4 i h) fun j=>
   bnd (Zq F s af lf (a:Int) true) fun k=>
   bnd (G0f 3 k j) fun l=>
   e l)
  (fun(b:(List Move))=>
   some b) (40:Int).toNat 0 d) (40:Int).toNat 0 []
theorem R08 (F:Nat) (s:Gj) (bf:List G1) (af:List G1) (lf:List Int) (r:(List Move)) (h:H1e F s bf af lf=some r):Pure En 30 [.agg (Gj.cs s),E1 bf,E1 af,E2 lf] (·=E9 r):=by
 unfold H1e at h
 refine Gz [.tmp 8] Tryz.func30 O O (Jr fun e4=>(JLh (.ptr 1052 0) (Q6 (cs:=(Gj.cs s)) 1052 O O O O O) O (JLh (E9 ([]:List Move)) (Jd 6 O O) O (G6 (e4 (fzQ [(1,E1 bf),(2,E1 af),(3,E2 lf),(4,Ee s)] [] 1052 rfl rfl rfl ø rfl (Jr fun e5=>(JLh (.ptr 1053 0) (G10 1053 [.sc (.slice none 0 0)] [.slice none 0 0] Y0f ⟨.inl O,ø⟩ O O) O (Gf5 1053 0 1054 59 6 O O O (cs':=[OW 1054 6 Move.av ([]:List Move)]) O ?_)))))))))
 refine G6 (e5 (Jr fun e6=>(JLh (.fn 55 [.ptr 1053 0]) (Q4 (cs:=[.ptr 1053 0]) O O) O (JLm (.fn 55 [.ptr 1053 0]) O (G6 (e6 (Jr fun e7=>(JLh (.fn 56 [.ptr 1053 0]) (Q4 (cs:=[.ptr 1053 0]) O O) O (JLm (.fn 56 [.ptr 1053 0]) O (G6 (e7 (Js fun e8=>Jr fun e9=>(JLm (I64 0) O (G6 (e9 (Gq ?_))))))))))))))))
 obtain⟨c2,h⟩:=Jf h
 obtain⟨f0,c3,c4,a4,h⟩:=J07 h
 refine Hm (fun a (d:(List Move))=>upto f0 c3 ((40:Int).toNat - a) a d=some r) (fun a d=>[(1,E1 bf),(2,E1 af),(3,E2 lf),(4,Ee s),(9,.ptr 1053 0),(10,.fn 55 [.ptr 1053 0]),(11,.fn 56 [.ptr 1053 0]),(16,Em a)]) (fun a d=>[(1054,.spare 59 6 d.length d.length),(1053,.box 45 [OW 1054 6 Move.av d])]) (fun a=>(40:Int).toNat - a) 0 [] h ⟨(.sm O O),⟨⟨_,rfl,.same⟩,fbQ O ⟨.same rfl,ø⟩,ø⟩,rfl⟩ ?_
 clear h
 intro a d z f5 f1
 refine Jr fun c5=>(JLh (BL (decide ((a:Int) < 40))) (Jn O O O) O (G6 (c5 (Js fun c6=>Gp O (fun hb=>?_) (fun hb=>?_)))))
 ·
  have a0:=H9a hb
  obtain⟨f3,c7,h⟩:=H89 z a0
  replace h:=Jc7 c4 h
  refine Gk (c6 (Js fun c8=>Gq (Jr fun c9=>(JLm (Em a) O (JLm (Em a) O (G6 (c9 (Jr fun d0=>(JLm (.fn 55 [.ptr 1053 0]) O (JLh (.agg (Gj.cs s)) (Gm J8 O O O) O (JLm (E1 bf) O (JLm (E2 lf) O (JLm (Em a) O ?_)))))))))))))
  obtain⟨l,d1,h⟩:=Gd h
  refine Rn O O O (G8f (args:=[.agg (Gj.cs s),E1 bf,E2 lf,Em a,BL true]) (L0:=[]) (u:=fun p=>.vec 1114 p 4 l.length) (Lr:=fun p=>[(1114,.vec 64 4 p (l.map G1.av))]) O (J6e F s bf lf (a:Int) true l d1) H91 ⟨.inl O,O,.inl O,O,.inl O,O,.inl O,O,.inl O,O,ø⟩ ø O (fun _=>O)) ?_
  rintro u_ L_ ⟨a1,rfl,rfl⟩
  obtain⟨j,d2,h⟩:=Gd h
  refine Rn O O O (G8f (args:=[.vec 1114 a1 4 l.length]) (L0:=[(1114,.vec 64 4 a1 (l.map G1.av))]) (u:=fun p=>.vec 1114 p 4 j.length) (Lr:=fun p=>[(1114,.vec 64 4 p (j.map G1.av))]) O (G89 F l a1 j d2) Qb0 ⟨.inl O,O,ø⟩ ⟨O,ø⟩ O (fun _=>O)) ?_
  rintro u_ L_ ⟨f6,rfl,rfl⟩
  refine Jce [(1,E1 bf),(2,E1 af),(3,E2 lf),(4,Ee s),(9,.ptr 1053 0),(10,.fn 55 [.ptr 1053 0]),(11,.fn 56 [.ptr 1053 0]),(12,Em a),(16,Em a),(17,BL (decide ((a:Int) < 40))),(18,Em a),(19,.fn 55 [.ptr 1053 0]),(20,.agg (Gj.cs s)),(21,E1 bf),(22,E2 lf),(23,Em a),(25,E1 j)] [(1054,.spare 59 6 d.length d.length),(1053,.box 45 [OW 1054 6 Move.av d])] 1114 rfl rfl ⟨⟨_,rfl,.same⟩,⟨_,rfl,.boxEq rfl rfl⟩,ø⟩ rfl (by exact⟨.conv (.same rfl),.conv (.same rfl),.conv (.same rfl),.conv (.same rfl),.conv (.same rfl),.conv (.same rfl),.conv (.same rfl),.conv (.same rfl),.conv (.same rfl),.conv (.same rfl),.conv (.same rfl),.conv (.same rfl),.conv (.same rfl),.conv (.same rfl),.conv (.same rfl),.conv (.same rfl),.vec,ø⟩) ?_
  obtain⟨i,d3,h⟩:=Gd h
  refine JLh (.tup []) (H25 (args:=[U8 2,E1 j]) (caps:=[.ptr 1053 0]) (L0:=[(1053,.box 45 [OW 1054 6 Move.av d]),(1054,.spare 59 6 d.length d.length)]) (Lr:=[(1053,.box 45 [OW 1054 6 Move.av i]),(1054,.spare 59 6 i.length i.length)]) O O (Gc9 2 j d i d3) J0b ⟨.inl O,O,.inl O,O,ø⟩ O ⟨O,O,ø⟩ O O O) O (G6 (d0 (Jr fun d4=>(JLm (.fn 56 [.ptr 1053 0]) O (JLh (.agg (Gj.cs s)) (Gm J8 O O O) O (JLm (E1 bf) O (JLm (E1 af) O (JLm (E2 lf) O (JLm (Em a) O ?_)))))))))
  obtain⟨v,d5,h⟩:=Gd h
  refine JLh (E2 v) (Gu O (Hff F s bf af lf (a:Int) v d5) Qaf ⟨O,O,O,O,O,O,O,O,O,O,ø⟩) O ?_
  obtain⟨e,d6,h⟩:=Gd h
  refine JLh (.tup []) (H25 (args:=[U8 1,E2 v]) (caps:=[.ptr 1053 0]) (L0:=[(1053,.box 45 [OW 1054 6 Move.av i]),(1054,.spare 59 6 i.length i.length)]) (Lr:=[(1053,.box 45 [OW 1054 6 Move.av e]),(1054,.spare 59 6 e.length e.length)]) O O (J00 1 v i e d6) Qb1 ⟨.inl O,O,.inl O,O,ø⟩ O ⟨O,O,ø⟩ O O O) O (G6 (d4 (G2 (JLm (.fn 55 [.ptr 1053 0]) O (JLh (.agg (Gj.cs s)) (Gm J8 O O O) O (JLm (E1 bf) O (JLm (E2 lf) O (JLm (Em a) O ?_))))))))
  obtain⟨m,d7,h⟩:=Gd h
  refine Rn O O O (G8f (args:=[.agg (Gj.cs s),E1 bf,E2 lf,Em a,BL false]) (L0:=[]) (u:=fun p=>.vec 1114 p 4 m.length) (Lr:=fun p=>[(1114,.vec 64 4 p (m.map G1.av))]) O (J6e F s bf lf (a:Int) false m d7) H91 ⟨.inl O,O,.inl O,O,.inl O,O,.inl O,O,.inl O,O,ø⟩ ø O (fun _=>O)) ?_
  rintro u_ L_ ⟨a2,rfl,rfl⟩
  obtain⟨n,d8,h⟩:=Gd h
  refine Rn O O O (G8f (args:=[.vec 1114 a2 4 m.length]) (L0:=[(1114,.vec 64 4 a2 (m.map G1.av))]) (u:=fun p=>.vec 1114 p 4 n.length) (Lr:=fun p=>[(1114,.vec 64 4 p (n.map G1.av))]) O (G89 F m a2 n d8) Qb0 ⟨.inl O,O,ø⟩ ⟨O,ø⟩ O (fun _=>O)) ?_
  rintro u_ L_ ⟨f7,rfl,rfl⟩
  refine Jce [(1,E1 bf),(2,E1 af),(3,E2 lf),(4,Ee s),(9,.ptr 1053 0),(10,.fn 55 [.ptr 1053 0]),(11,.fn 56 [.ptr 1053 0]),(12,Em a),(16,Em a),(17,BL (decide ((a:Int) < 40))),(18,Em a),(19,.fn 55 [.ptr 1053 0]),(20,.agg (Gj.cs s)),(21,E1 bf),(22,E2 lf),(23,Em a),(25,E1 j),(26,.tup []),(27,.fn 56 [.ptr 1053 0]),(28,.agg (Gj.cs s)),(29,E1 bf),(30,E1 af),(31,E2 lf),(32,Em a),(33,E2 v),(34,.tup []),(35,.fn 55 [.ptr 1053 0]),(36,.agg (Gj.cs s)),(37,E1 bf),(38,E2 lf),(39,Em a),(41,E1 n)] [(1054,.spare 59 6 e.length e.length),(1053,.box 45 [OW 1054 6 Move.av e])] 1114 rfl rfl ⟨⟨_,rfl,.same⟩,⟨_,rfl,.boxEq rfl rfl⟩,ø⟩ rfl (by exact⟨.conv (.same rfl),.conv (.same rfl),.conv (.same rfl),.conv (.same rfl),.conv (.same rfl),.conv (.same rfl),.conv (.same rfl),.conv (.same rfl),.conv (.same rfl),.conv (.same rfl),.conv (.same rfl),.conv (.same rfl),.conv (.same rfl),.conv (.same rfl),.conv (.same rfl),.conv (.same rfl),.conv (.same rfl),.conv (.same rfl),.conv (.same rfl),.conv (.same rfl),.conv (.same rfl),.conv (.same rfl),.conv (.same rfl),.conv (.same rfl),.conv (.same rfl),.conv (.same rfl),.conv (.same rfl),.conv (.same rfl),.conv (.same rfl),.conv (.same rfl),.conv (.same rfl),.vec,ø⟩) ?_
  obtain⟨w,d9,h⟩:=Gd h
  refine JLh (.tup []) (H25 (args:=[U8 2,E1 n]) (caps:=[.ptr 1053 0]) (L0:=[(1053,.box 45 [OW 1054 6 Move.av e]),(1054,.spare 59 6 e.length e.length)]) (Lr:=[(1053,.box 45 [OW 1054 6 Move.av w]),(1054,.spare 59 6 w.length w.length)]) O O (Gc9 2 n e w d9) J0b ⟨.inl O,O,.inl O,O,ø⟩ O ⟨O,O,ø⟩ O O O) O (G6 (c8 (G2 (JLh (I64 ((a+1:Nat):Int)) (J3 (Hp a0 (H2d c2)) O O O) O (JLm (I64 ((a+1:Nat):Int)) O (G6 (f1 _ _ (a+1) w (app1 c7 h) (by omega) ⟨(.sm O O),⟨⟨_,rfl,.same⟩,fbQ O ⟨.same rfl,ø⟩,ø⟩,rfl⟩)))))))
 ·
  have h:=app1 a4 (H8a z (G7d hb))
  refine Hr (e8 (Js fun e0=>Jr fun e1=>(JLm (I64 0) O (G6 (e1 (Gq ?_))))))
  obtain⟨a5,h⟩:=Jf h
  obtain⟨e2,a6,a7,a3,h⟩:=J07 h
  refine Hm (fun b (c:(List Move))=>upto e2 a6 ((40:Int).toNat - b) b c=some r) (fun b c=>[(1,E1 bf),(2,E1 af),(3,E2 lf),(4,Ee s),(9,.ptr 1053 0),(10,.fn 55 [.ptr 1053 0]),(11,.fn 56 [.ptr 1053 0]),(44,Em b)]) (fun b c=>[(1054,.spare 59 6 c.length c.length),(1053,.box 45 [OW 1054 6 Move.av c])]) (fun b=>(40:Int).toNat - b) 0 d h ⟨(.sm O O),⟨⟨_,rfl,.same⟩,fbQ O ⟨.same rfl,ø⟩,ø⟩,rfl⟩ ?_
  clear h
  intro b c x f4 e3
  refine Jr fun a8=>(JLh (BL (decide ((b:Int) < 40))) (Jn O O O) O (G6 (a8 (Js fun a9=>Gp O (fun hb=>?_) (fun hb=>?_)))))
  ·
   have y:=H9a hb
   obtain⟨f2,b0,h⟩:=H89 x y
   replace h:=Jc7 a7 h
   refine Gk (a9 (Js fun b1=>Gq (Jr fun b2=>(JLm (Em b) O (JLm (Em b) O (G6 (b2 (Jr fun b3=>(JLm (.fn 55 [.ptr 1053 0]) O (JLh (.agg (Gj.cs s)) (Gm J8 O O O) O (JLm (E1 af) O (JLm (E2 lf) O (JLm (Em b) O ?_)))))))))))))
   obtain⟨o,b4,h⟩:=Gd h
   refine JLh (E1 o) (Gu O (Haf F s af lf (b:Int) false o b4) H91 ⟨O,O,O,O,O,O,O,O,O,O,ø⟩) O ?_
   obtain⟨f,b5,h⟩:=Gd h
   refine JLh (.tup []) (H25 (args:=[U8 3,E1 o]) (caps:=[.ptr 1053 0]) (L0:=[(1053,.box 45 [OW 1054 6 Move.av c]),(1054,.spare 59 6 c.length c.length)]) (Lr:=[(1053,.box 45 [OW 1054 6 Move.av f]),(1054,.spare 59 6 f.length f.length)]) O O (Gc9 3 o c f b5) J0b ⟨.inl O,O,.inl O,O,ø⟩ O ⟨O,O,ø⟩ O O O) O (G6 (b3 (Jr fun b6=>(JLm (.fn 56 [.ptr 1053 0]) O (JLh (.agg (Gj.cs s)) (Gm J8 O O O) O (JLm (E1 bf) O (JLm (E1 af) O (JLm (E2 lf) O (JLm (Em b) O ?_)))))))))
   obtain⟨q,b7,h⟩:=Gd h
   refine JLh (E2 q) (Gu O (Hff F s bf af lf (b:Int) q b7) Qaf ⟨O,O,O,O,O,O,O,O,O,O,ø⟩) O ?_
   obtain⟨g,b8,h⟩:=Gd h
   refine JLh (.tup []) (H25 (args:=[U8 4,E2 q]) (caps:=[.ptr 1053 0]) (L0:=[(1053,.box 45 [OW 1054 6 Move.av f]),(1054,.spare 59 6 f.length f.length)]) (Lr:=[(1053,.box 45 [OW 1054 6 Move.av g]),(1054,.spare 59 6 g.length g.length)]) O O (J00 4 q f g b8) Qb1 ⟨.inl O,O,.inl O,O,ø⟩ O ⟨O,O,ø⟩ O O O) O (G6 (b6 (G2 (JLm (.fn 55 [.ptr 1053 0]) O (JLh (.agg (Gj.cs s)) (Gm J8 O O O) O (JLm (E1 af) O (JLm (E2 lf) O (JLm (Em b) O ?_))))))))
   obtain⟨t,b9,h⟩:=Gd h
   refine JLh (E1 t) (Gu O (Haf F s af lf (b:Int) true t b9) H91 ⟨O,O,O,O,O,O,O,O,O,O,ø⟩) O ?_
   obtain⟨k,c0,h⟩:=Gd h
   refine JLh (.tup []) (H25 (args:=[U8 3,E1 t]) (caps:=[.ptr 1053 0]) (L0:=[(1053,.box 45 [OW 1054 6 Move.av g]),(1054,.spare 59 6 g.length g.length)]) (Lr:=[(1053,.box 45 [OW 1054 6 Move.av k]),(1054,.spare 59 6 k.length k.length)]) O O (Gc9 3 t g k c0) J0b ⟨.inl O,O,.inl O,O,ø⟩ O ⟨O,O,ø⟩ O O O) O (G6 (b1 (G2 (JLh (I64 ((b+1:Nat):Int)) (J3 (Hp y (H2d a5)) O O O) O (JLm (I64 ((b+1:Nat):Int)) O (G6 (e3 _ _ (b+1) k (app1 b0 h) (by omega) ⟨(.sm O O),⟨⟨_,rfl,.same⟩,fbQ O ⟨.same rfl,ø⟩,ø⟩,rfl⟩)))))))
  ·
   have h:=app1 a3 (H8a x (G7d hb))
   refine Hr (e0 (Jr fun c1=>(JLh (OW 1054 6 Move.av c) (J2 H0a O O O O) O (JLm (OW 1054 6 Move.av c) O (G6 (c1 (Gs (fin1l (fun r:(List Move)=>(E9 r:AV)) h))))))))

def G51 (F:Nat) (s:Gj) (boxes:List Box) (bf:List G1) (af:List G1):Option ((List Move)×Int):=
 bnd (Z0 F s boxes bf af) fun a=>
 bif decide (a.2≠0) then
 (some ([],a.2))
 else
 (bnd (H1e F s bf af a.1) fun b=>
  some (b,0))
theorem Hb0 (F:Nat) (s:Gj) (boxes:List Box) (bf:List G1) (af:List G1) (r:(List Move)×Int) (h:G51 F s boxes bf af=some r):Pure En 8 [.agg (Gj.cs s),E8 boxes,E1 bf,E1 af] (·=.tup [E9 r.1,I64 r.2]):=by
 unfold G51 at h
 refine Gz [.tmp 8,.tmp 9] Tryz.func8 O O (Jr fun c=>(JLh (.ptr 1015 0) (Q6 (cs:=(Gj.cs s)) 1015 O O O O O) O (JLh (E9 ([]:List Move)) (Jd 6 O O) O (JLm (I64 0) O (G6 (c (fzQ [(1,E8 boxes),(2,E1 bf),(3,E1 af),(4,Ee s)] [] 1015 rfl rfl rfl ø rfl (Jr fun d=>(JLh (.agg (Gj.cs s)) (Gm J8 O O O) O (JLm (E8 boxes) O (JLm (E1 bf) O (JLm (E1 af) O ?_))))))))))))
 obtain⟨a,e,h⟩:=Gd h
 refine JLh (.tup [E2 a.1,I64 a.2]) (Gu O (J38 F s boxes bf af a e) R2c ⟨O,O,O,O,O,O,O,O,ø⟩) O (JLm (.tup [E2 a.1,I64 a.2]) O (JLh (E2 a.1) (Gv O O O) O (JLh (I64 a.2) (Gv O O O) O (JLm (E2 a.1) O (JLm (I64 a.2) O (G6 (d (Js fun f=>Jr fun g=>(JLm (I64 a.2) O (JLh (BL (decide (a.2≠0))) (G8e O O O) O (G6 (g (JCc O h (fun h hb=>?_) (fun h hb=>?_))))))))))))))
 ·
  refine Jr fun i=>(JLm (I64 a.2) O (JLh (E9 ([]:List Move)) (Jd 6 O O) O (JLm (I64 a.2) O (G6 (i (Gs (⟨[E9 ([]:List Move),I64 a.2],[],ø,O,⟨⟨_,O,.conv (.same O)⟩,⟨_,O,.conv (.same O)⟩,ø⟩,O,congrArg (fun r:(List Move)×Int=>(.tup [E9 r.1,I64 r.2]:AV)) (M8 h)⟩)))))))
 ·
  refine Gk (f (Jr fun j=>(JLh (.agg (Gj.cs s)) (Gm J8 O O O) O (JLm (E1 bf) O (JLm (E1 af) O (JLm (E2 a.1) O ?_))))))
  obtain⟨b,k,h⟩:=Gd h
  refine JLh (E9 b) (Gu O (R08 F s bf af a.1 b k) Y36 ⟨O,O,O,O,O,O,O,O,ø⟩) O (JLm (E9 b) O (JLm (I64 0) O (G6 (j (Gs (⟨[E9 b,I64 0],[],ø,O,⟨⟨_,O,.conv (.same O)⟩,⟨_,O,.conv (.same O)⟩,ø⟩,O,congrArg (fun r:(List Move)×Int=>(.tup [E9 r.1,I64 r.2]:AV)) (M8 h)⟩))))))

def G5e (l:List Move):Option Int:=
 each (fun c g (a:Int) d=>
  jp (fun b=>
   bif ((decide (c.Kind=2))||(decide (c.Kind=3))) then
   (chk (a+1) fun e=>
    b e)
   else
   (b a)) fun(f:Int)=>
  d f)
 (fun(a:Int)=>
  some a) l 0 0
theorem J39 (l:List Move) (r:Int) (h:G5e l=some r):Pure En 23 [E9 l] (·=I64 r):=by
 unfold G5e at h
 refine Gz [.tmp 2] Tryz.func23 O O (Jr fun a0=>(JLm (I64 0) O (G6 (a0 (Jr fun a1=>(JLm (I64 0) O (G6 (a1 (Js fun a2=>Jr fun a3=>(JLm (E9 l) O (JLl Jp O O O fun a4=>(JLm (I64 0) O (G6 (a3 (Gq ?_)))))))))))))))
 obtain⟨a5,m,n,j,h⟩:=Je h
 refine Hm (fun b (c:Int)=>each a5 m (List.drop b l) b c=some r) (fun b c=>[(3,I64 c),(6,E9 l),(7,Em l.length),(8,Em b)]) (fun b c=>[]) (fun b=>l.length - b) 0 0 h ⟨(.sm O O),ø,rfl⟩ ?_
 clear h
 intro b c e a8 a6
 refine Jr fun o=>(JLh (BL (decide ((b:Int) < (l.length:Int)))) (Jn O O O) O (G6 (o (Js fun p=>Gp O (fun hb=>?_) (fun hb=>?_)))))
 ·
  have g:=Jz hb
  obtain⟨a,a7,q,s,h⟩:=Hv e g
  replace h:=Zm n h
  refine Gk (p ?_)
  obtain⟨t,k,h⟩:=Rc h
  refine Qk (fun d:Int=>t d=some r) (fun d=>[(3,I64 d),(6,E9 l),(7,Em l.length),(8,Em b)]) (fun d=>[]) (fun Kj22 ej22=>?_) ?_
  ·
   refine Gq (Jr fun v=>(JLh (Ef a) (Hb (f:=Move.av) (xs:=l) (y:=a) O O O Jp q O) O (JLh (.agg (Move.cs a)) (Gm G65 O O O) O (JLh (.ptr 1033 0) (Hj 1033 6 H57 O O) O (Hq (u:=.junk) (H7 (u:=.agg (Move.cs a)) (ds:=[U8 a.Kind,I64 a.Box,I64 a.Slot.G3,I64 a.Slot.Tier,U8 a.Slot.Half,I64 a.G9]) H8b O O O O O O O O) (G6 (v (fzQ [(3,I64 c),(5,Ef a),(6,E9 l),(7,Em l.length),(8,Em b)] [] 1033 rfl rfl rfl ø rfl ?_))))))))
   refine Jr fun w=>(JLh (Ef a) (Ga H48 O O O) O (JLh (U8 a.Kind) (Gg Hy O O O) O (JLh (BL (decide (a.Kind=2))) (Qg O O O) O (JLm (BL (decide (a.Kind=2))) O (JLo (Ef a) [] O .scf ø (fun hc=>Ga H48 O O O) O (JLo (U8 a.Kind) [16] O .scf ⟨Ua,ø⟩ (fun hc=>Gg Hy O O O) O (JLo (BL (decide (a.Kind=3))) [17] O .scf ⟨Ua,ø⟩ (fun hc=>Qg O O O) O (JLh (BL ((decide (a.Kind=2))||(decide (a.Kind=3)))) (G82 O O O O) O (G6 (w (JCc O h (fun h hb=>?_) (fun h hb=>?_))))))))))))
   ·
    refine G2 (JLm (I64 c) O ?_)
    obtain⟨i,x,h⟩:=Ht h
    refine JLh (I64 i) (J3 x O O O) O (JLm (I64 i) O (G6 (ej22 _ _ i h ⟨(.sm O O),ø,rfl⟩)))
   ·
    refine Gk (ej22 _ _ c h ⟨(.sm O O),ø,rfl⟩)
  ·intro d h
   replace h:=app1 k h
   refine G2 (JLh (I64 ((b+1:Nat):Int)) (J3 (Hp g a4) O O O) O (JLm (I64 ((b+1:Nat):Int)) O (G6 (a6 _ _ (b+1) d (app1 s h) (by omega) ⟨(.sm O O),ø,rfl⟩))))
 ·
  have h:=app1 j (Hw e (Hf hb))
  refine Hr (a2 (Jr fun z=>(JLm (I64 c) O (JLm (I64 c) O (G6 (z (Gs (fin1 I64 h))))))))
end
end Go.Proofs.YtgcpimpnpcdmmaaGreat
