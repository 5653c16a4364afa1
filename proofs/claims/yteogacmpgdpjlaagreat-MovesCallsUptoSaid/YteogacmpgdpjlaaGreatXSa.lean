/-
 Models of functions of the program,and that they return what the models say.
-/
import Derived.Test.YteogacmpgdpjlaaGreatXL
set_option maxRecDepth 100000
namespace Go.Proofs.YteogacmpgdpjlaaGreat
open Go.RowKit
noncomputable section
def Hf5:ByteArray:=ByteArray.mk #[0,1,2,2,3,3,3,3,4,4,4,4,4,4,4,4,5,5,5,5,5,5,5,5,5,5,5,5,5,5,5,5,6,6,6,6,6,6,6,6,6,6,6,6,6,6,6,6,6,6,6,6,6,6,6,6,6,6,6,6,6,6,6,6,7,7,7,7,7,7,7,7,7,7,7,7,7,7,7,7,7,7,7,7,7,7,7,7,7,7,7,7,7,7,7,7,7,7,7,7,7,7,7,7,7,7,7,7,7,7,7,7,7,7,7,7,7,7,7,7,7,7,7,7,7,7,7,7,8,8,8,8,8,8,8,8,8,8,8,8,8,8,8,8,8,8,8,8,8,8,8,8,8,8,8,8,8,8,8,8,8,8,8,8,8,8,8,8,8,8,8,8,8,8,8,8,8,8,8,8,8,8,8,8,8,8,8,8,8,8,8,8,8,8,8,8,8,8,8,8,8,8,8,8,8,8,8,8,8,8,8,8,8,8,8,8,8,8,8,8,8,8,8,8,8,8,8,8,8,8,8,8,8,8,8,8,8,8,8,8,8,8,8,8,8,8,8,8,8,8,8,8,8,8,8,8]
def G6.vs (x:G6):List Value:=[.int .i64 x.H2,.int .i64 x.Slot.G4,.int .i64 x.Slot.Tier,.int .u8 x.Slot.Half]
structure Hh where
 Bay:Int
 Phase:Int
 Lifts:Int
 Covers:Int
 deriving DecidableEq,Inhabited
def Hh.cs (x:Hh):List AV:=[G0 x.Bay,G0 x.Phase,G0 x.Lifts,G0 x.Covers]
def Hh.av (x:Hh):AV:=.agg x.cs
abbrev Ek (x:Hh):AV:=.dptr (Hh.cs x)
abbrev Ea:=LS 4 Hh.av
structure J8 where
 e0:Int
 e1:Int
 deriving DecidableEq,Inhabited
def J8.cs (x:J8):List AV:=[G0 x.e0,G0 x.e1]
def J8.av (x:J8):AV:=.agg x.cs
def J8.ks (x:J8):List Value:=[.int .i64 x.e0,.int .i64 x.e1]
def J8.kv (x:J8):Value:=.agg x.ks.toArray
def Hh.vs (x:Hh):List Value:=[.int .i64 x.Bay,.int .i64 x.Phase,.int .i64 x.Lifts,.int .i64 x.Covers]
namespace XSF
open XAF
open XLF
theorem tq_60 (a b:Slot):H61 En 4 60 [.int .i64 a.G4,.int .i64 a.Tier,.int .u8 a.Half] [.int .i64 b.G4,.int .i64 b.Tier,.int .u8 b.Half]=some (decide (a=b)):=by
 refine(show _=some ((a.G4==b.G4)&&((a.Tier==b.Tier)&&((a.Half==b.Half)&&true))) by kernel_rfl).trans (congrArg some ?_)
 rw [Bool.eq_iff_iff]
 simp only [Bool.and_eq_true,beq_iff_eq,decide_eq_true_eq,Bool.and_true]
 constructor
 ·intro h; obtain⟨_,_,_⟩:=a; obtain⟨_,_,_⟩:=b; simp_all
 ·intro h; subst h; simp
theorem tq_94 (a b:J8):H61 En 4 94 [.int .i64 a.e0,.int .i64 a.e1] [.int .i64 b.e0,.int .i64 b.e1]=some (decide (a=b)):=by
 refine(show _=some ((a.e0==b.e0)&&((a.e1==b.e1)&&true)) by kernel_rfl).trans (congrArg some ?_)
 rw [Bool.eq_iff_iff]
 simp only [Bool.and_eq_true,beq_iff_eq,decide_eq_true_eq,Bool.and_true]
 constructor
 ·intro h; obtain⟨_,_⟩:=a; obtain⟨_,_⟩:=b; simp_all
 ·intro h; subst h; simp
theorem Jg:Gf9 En 60 3=true:=by kernel_rfl
theorem H0a:Gf9 En 72 4=true:=by kernel_rfl
theorem J2c:Gf9 En 94 2=true:=by kernel_rfl
theorem J0b:G30 En 60=true:=by kernel_rfl
theorem tf_arr_94:arrB En 94 3 1=true:=by kernel_rfl
theorem Qa2:Hb En 126=true:=by kernel_rfl
theorem Qa1:Hb En 127=true:=by kernel_rfl
theorem Qa0:Hb En 128=true:=by kernel_rfl
theorem Q9f:Hb En 129=true:=by kernel_rfl
theorem J04:Hb En 130=true:=by kernel_rfl
theorem Q9e:Hb En 131=true:=by kernel_rfl
theorem Jc7:Hb En 132=true:=by kernel_rfl
theorem Jc6:Hb En 133=true:=by kernel_rfl
theorem Q9d:Hb En 134=true:=by kernel_rfl
theorem Q9c:Hb En 135=true:=by kernel_rfl
theorem Q9b:Hb En 136=true:=by kernel_rfl
theorem Q9a:Hb En 137=true:=by kernel_rfl
theorem Q99:Hb En 138=true:=by kernel_rfl
theorem Q97:Hb En 141=true:=by kernel_rfl
theorem Q96:Hb En 142=true:=by kernel_rfl
theorem Q95:Hb En 143=true:=by kernel_rfl
theorem Q93:Hb En 160=true:=by kernel_rfl
theorem Q92:Hb En 161=true:=by kernel_rfl
theorem Q91:Hb En 162=true:=by kernel_rfl
theorem Q90:Hb En 163=true:=by kernel_rfl
theorem Q8f:Hb En 164=true:=by kernel_rfl
theorem Q8e:Hb En 165=true:=by kernel_rfl
theorem Jc1:Hb En 178=true:=by kernel_rfl
theorem Q23:Hb En 38=true:=by kernel_rfl
theorem Qe9:Hb En 39=true:=by kernel_rfl
theorem Qe8:Hb En 40=true:=by kernel_rfl
theorem J5c:Hb En 41=true:=by kernel_rfl
theorem Gdc:Hb En 42=true:=by kernel_rfl
theorem Q1d:Hb En 52=true:=by kernel_rfl
theorem Qe4:Hb En 53=true:=by kernel_rfl
theorem Qd8:Hb En 77=true:=by kernel_rfl
theorem Q13:Hb En 78=true:=by kernel_rfl
theorem Qd7:Hb En 80=true:=by kernel_rfl
theorem Q12:Hb En 81=true:=by kernel_rfl
theorem Qd6:Hb En 82=true:=by kernel_rfl
theorem Qd5:Hb En 83=true:=by kernel_rfl
theorem Qd4:Hb En 84=true:=by kernel_rfl
theorem Qd3:Hb En 85=true:=by kernel_rfl
theorem J5a:Hb En 86=true:=by kernel_rfl
theorem Qd2:Hb En 87=true:=by kernel_rfl
theorem J59:Hb En 88=true:=by kernel_rfl
theorem J58:Hb En 89=true:=by kernel_rfl
theorem Qd1:Hb En 90=true:=by kernel_rfl
theorem Qd0:Hb En 91=true:=by kernel_rfl
theorem J57:Hb En 94=true:=by kernel_rfl
theorem Q11:Hb En 95=true:=by kernel_rfl
theorem Q10:Hb En 96=true:=by kernel_rfl
theorem Qcd:Hb En 97=true:=by kernel_rfl
theorem Q0e:G19 En 60 3 24=true:=by kernel_rfl
theorem Q0d:G19 En 72 4 32=true:=by kernel_rfl
theorem Ja2:En.eqGuardType En.depth 60=false:=by kernel_rfl
theorem Qcb:He4 En 72 2 2=true:=by kernel_rfl
theorem Q0c:He4 En 72 3 3=true:=by kernel_rfl
theorem H9a:Qa En 58 0 0=true:=by kernel_rfl
theorem J46:Qa En 58 2 2=true:=by kernel_rfl
theorem J45:Qa En 58 3 3=true:=by kernel_rfl
theorem Hk:Qa En 60 0 0=true:=by kernel_rfl
theorem J9:Qa En 60 1 1=true:=by kernel_rfl
theorem Jo:Qa En 60 2 2=true:=by kernel_rfl
theorem Q7:Qa En 62 0 0=true:=by kernel_rfl
theorem Hg:Qa En 62 1 1=true:=by kernel_rfl
theorem Ro:Qa En 69 0 0=true:=by kernel_rfl
theorem G91:Qa En 69 2 2=true:=by kernel_rfl
theorem G90:Qa En 69 3 5=true:=by kernel_rfl
theorem Gc2:Qa En 72 0 0=true:=by kernel_rfl
theorem H16:Qa En 72 1 1=true:=by kernel_rfl
theorem G8f:Qa En 72 2 2=true:=by kernel_rfl
theorem G8e:Qa En 72 3 3=true:=by kernel_rfl
theorem Qc8:J3f En 211 .u64=true:=by kernel_rfl
theorem J76:J3f En 3 .i64=true:=by kernel_rfl
theorem Hf8:J3f En 5 .u8=true:=by kernel_rfl
theorem Q09:Gf7 En 153 3 186=true:=by kernel_rfl
theorem Hae:Gf7 En 93 94 72=true:=by kernel_rfl
theorem Q67:placesOf En 186=some []:=by kernel_rfl
theorem Hd2:placesOf En 60=some [(0,1),(1,1),(2,1)]:=by kernel_rfl
theorem H40:placesOf En 72=some [(0,1),(1,1),(2,1),(3,1)]:=by kernel_rfl
theorem Q66:Ym En 143=true:=by kernel_rfl
theorem H99:Ym En 151=true:=by kernel_rfl
theorem Q65:Ym En 153=true:=by kernel_rfl
theorem H98:Ym En 154=true:=by kernel_rfl
theorem H3f:Ym En 34=true:=by kernel_rfl
theorem J5:Ym En 5=true:=by kernel_rfl
theorem Q88:Yp En 151 1=true:=by kernel_rfl
theorem Q87:Yp En 153 1=true:=by kernel_rfl
theorem Q86:Yp En 154 1=true:=by kernel_rfl
theorem Q84:Yp En 186 0=true:=by kernel_rfl
theorem G6f:Yp En 3 1=true:=by kernel_rfl
theorem H09:Yp En 60 3=true:=by kernel_rfl
theorem J50:Yp En 72 4=true:=by kernel_rfl
theorem Qc2:Yp En 94 2=true:=by kernel_rfl
theorem Yu:sliceB En 143 60 3=true:=by kernel_rfl
theorem G24:sliceB En 151 34 1=true:=by kernel_rfl
theorem G18:sliceB En 64 72 4=true:=by kernel_rfl
theorem Q83:strB En 9=true:=by kernel_rfl
theorem Q81:(En.info? 186).bind (fun i=>i.zero.map Value.cells)=some (List.toArray []):=by kernel_rfl
theorem Qc0:(En.info? 51).bind (fun i=>i.zero.map Value.cells)=some (List.toArray [.slice none 0 0]):=by kernel_rfl
theorem Hcc:(En.info? 60).bind (fun i=>i.zero.map Value.cells)=some (List.toArray [.int .i64 0,.int .i64 0,.int .u8 0]):=by kernel_rfl
theorem Hca:(En.info? 72).bind (fun i=>i.zero.map Value.cells)=some (List.toArray [.int .i64 0,.int .i64 0,.int .i64 0,.int .i64 0]):=by kernel_rfl
theorem Qbf:(En.info? 94).bind (fun i=>i.zero.map Value.cells)=some (List.toArray [.int .i64 0,.int .i64 0]):=by kernel_rfl
theorem Q79:Yo En 151 1=true:=by kernel_rfl
theorem Q78:Yo En 153 1=true:=by kernel_rfl
theorem Q77:Yo En 154 1=true:=by kernel_rfl
theorem Q76:Yo En 186 0=true:=by kernel_rfl
theorem Jbc:Yo En 34 1=true:=by kernel_rfl
theorem Gde:Yo En 60 3=true:=by kernel_rfl
theorem H22:Yo En 72 4=true:=by kernel_rfl
theorem Q80:Yo En 94 2=true:=by kernel_rfl
theorem tf_zv_186:(En.info? 186).bind (·.zero)=some (.agg #[]):=by kernel_rfl
theorem Q06:(En.info? 72).bind (·.zero)=some (.agg #[.int .i64 0,.int .i64 0,.int .i64 0,.int .i64 0]):=by kernel_rfl
theorem tk_3:H4d En 3 (fun n:Int=>Value.int .i64 n):=H4d.of_int (by kernel_rfl)
theorem tk_94:H4d En 94 J8.kv:=H4d.of_eq J8.ks (by kernel_rfl) (fun a b h=>by simp only [J8.ks,List.cons.injEq,Value.int.injEq,Value.bool.injEq,Value.string.injEq,true_and,and_true] at h; obtain⟨_,_⟩:=a; obtain⟨_,_⟩:=b; simp_all) 4 (by decide) (fun a b=>tq_94 a b) (fun a=>by kernel_rfl) (fun a=>by simp [Instr.sameBits,J8.ks])
end XSF
open XAF
open XLF
open XSF

def Gff (x:Int):Option Int:=
 jp (fun kj2=>
  bif decide (4294967296≤x) then
  (kj2 (H9b .u64 x 32,32))
  else
  (kj2 (x,0))) fun(j2:Int×Int)=>
 jp (fun kj5=>
  bif decide (65536≤j2.1) then
  (Yn (j2.2+16) fun v8=>
   kj5 (H9b .u64 j2.1 16,v8))
  else
  (kj5 (j2.1,j2.2))) fun(j5:Int×Int)=>
 jp (fun kj9=>
  bif decide (256≤j5.1) then
  (Yn (j5.2+8) fun v12=>
   kj9 (H9b .u64 j5.1 8,v12))
  else
  (kj9 (j5.1,j5.2))) fun(j9:Int×Int)=>
 bnd (sidx Hf5 (IntKind.u8.wrap j9.1)) fun v14=>
 Yn (v14) fun v15=>
 Yn (j9.2+v15) fun v16=>
 some v16
theorem J42 (x:Int) (r:Int) (h:Gff x=some r):Pure En 160 [.sc (.int .u64 x)] (·=G0 r):=by
 unfold Gff at h
 refine H0 [.tmp 2] Tryz.func160 O O (Jr fun hK1=>(JLm (G0 0) O (G8 (hK1 ?_))))
 obtain⟨kj2,hkj2,h⟩:=Zf h
 refine Rt (fun j2:Int×Int=>kj2 j2=some r) (fun j2=>[(0,.sc (.int .u64 j2.1)),(2,G0 j2.2)]) (fun j2=>[]) (fun Kj2 ej2=>?_) ?_
 ·
  refine Jr fun hK3=>(JLm (.sc (.int .u64 x)) O (JLh (BL (decide (4294967296≤x))) (G06 O O O) O (G8 (hK3 (JCc O h (fun h hb=>?_) (fun h hb=>?_))))))
  ·
   refine Jr fun hK4=>(JLm (.sc (.int .u64 x)) O (JLh (.sc (.int .u64 (H9b .u64 x 32))) (Q60 (s:=32) O O O O) O (JLm (.sc (.int .u64 (H9b .u64 x 32))) O (G8 (hK4 (G2 (JLm (G0 32) O (G8 (ej2 _ _ (H9b .u64 x 32,32) h ⟨⟨.same O,.same O,G⟩,G,O⟩)))))))))
  ·
   refine Gm (ej2 _ _ (x,0) h ⟨⟨.same O,.same O,G⟩,G,O⟩)
 ·intro j2 h
  replace h:=app1 hkj2 h
  obtain⟨kj5,hkj5,h⟩:=Zf h
  refine Rt (fun j5:Int×Int=>kj5 j5=some r) (fun j5=>[(0,.sc (.int .u64 j5.1)),(2,G0 j5.2)]) (fun j5=>[]) (fun Kj5 ej5=>?_) ?_
  ·
   refine Jr fun hK6=>(JLm (.sc (.int .u64 j2.1)) O (JLh (BL (decide (65536≤j2.1))) (G06 O O O) O (G8 (hK6 (JCc O h (fun h hb=>?_) (fun h hb=>?_))))))
   ·
    refine Jr fun hK7=>(JLm (.sc (.int .u64 j2.1)) O (JLh (.sc (.int .u64 (H9b .u64 j2.1 16))) (Q60 (s:=16) O O O O) O (JLm (.sc (.int .u64 (H9b .u64 j2.1 16))) O (G8 (hK7 (G2 (JLm (G0 j2.2) O ?_)))))))
    obtain⟨v8,hv8,h⟩:=Jh h
    refine JLh (G0 v8) (Hx hv8 O O O) O (JLm (G0 v8) O (G8 (ej5 _ _ (H9b .u64 j2.1 16,v8) h ⟨⟨.same O,.same O,G⟩,G,O⟩)))
   ·
    refine Gm (ej5 _ _ (j2.1,j2.2) h ⟨⟨.same O,.same O,G⟩,G,O⟩)
  ·intro j5 h
   replace h:=app1 hkj5 h
   obtain⟨kj9,hkj9,h⟩:=Zf h
   refine Rt (fun j9:Int×Int=>kj9 j9=some r) (fun j9=>[(0,.sc (.int .u64 j9.1)),(2,G0 j9.2)]) (fun j9=>[]) (fun Kj9 ej9=>?_) ?_
   ·
    refine Jr fun hK10=>(JLm (.sc (.int .u64 j5.1)) O (JLh (BL (decide (256≤j5.1))) (G06 O O O) O (G8 (hK10 (JCc O h (fun h hb=>?_) (fun h hb=>?_))))))
    ·
     refine Jr fun hK11=>(JLm (.sc (.int .u64 j5.1)) O (JLh (.sc (.int .u64 (H9b .u64 j5.1 8))) (Q60 (s:=8) O O O O) O (JLm (.sc (.int .u64 (H9b .u64 j5.1 8))) O (G8 (hK11 (G2 (JLm (G0 j5.2) O ?_)))))))
     obtain⟨v12,hv12,h⟩:=Jh h
     refine JLh (G0 v12) (Hx hv12 O O O) O (JLm (G0 v12) O (G8 (ej9 _ _ (H9b .u64 j5.1 8,v12) h ⟨⟨.same O,.same O,G⟩,G,O⟩)))
    ·
     refine Gm (ej9 _ _ (j5.1,j5.2) h ⟨⟨.same O,.same O,G⟩,G,O⟩)
   ·intro j9 h
    replace h:=app1 hkj9 h
    refine Jr fun hK13=>(JLm (G0 j9.2) O (JLm (.sc (.int .u64 j9.1)) O (JLh (U8 (IntKind.u8.wrap j9.1)) (Jba Hf8 Qc8 O O O) O ?_)))
    obtain⟨v14,hv14,h⟩:=Gf h
    refine JLh (U8 v14) (Qba Q83 O O O hv14) O ?_
    obtain⟨v15,hv15,h⟩:=Jh h
    refine JLh (G0 v15) (Jba J76 Hf8 hv15 O O) O ?_
    obtain⟨v16,hv16,h⟩:=Jh h
    refine JLh (G0 v16) (Hx hv16 O O O) O (JLm (G0 v16) O (G8 (hK13 (Gt (fin1 G0 h)))))

def G8b (x:Int):Option Int:=
 bnd (Gff x) fun r4=>
 some r4
theorem J97 (x:Int) (r:Int) (h:G8b x=some r):Pure En 125 [.sc (.int .u64 x)] (·=G0 r):=by
 unfold G8b at h
 refine H0 [.tmp 2] Tryz.func125 O O (Jr fun hK1=>(JLm (G0 0) O (G8 (hK1 (Js fun hK2=>Q5d O (Gm (hK2 (Jr fun hK3=>(JLm (.sc (.int .u64 x)) O ?_)))))))))
 obtain⟨r4,hr4,h⟩:=Gf h
 refine JLh (G0 r4) (Gq O (J42 x r4 hr4) Q93 ⟨O,O,G⟩) O (JLm (G0 r4) O (G8 (hK3 (Gt (fin1 G0 h)))))

def G23 (s:List Int) (v:Int):Option Int:=
 each (fun y18 i18 (s18:Unit) nx18=>
  bif decide (v=y18) then
  (some (i18:Int))
  else
  (nx18 ()))
 (fun(s18:Unit)=>
  some (-1)) s 0 ()
theorem J22 (s:List Int) (v:Int) (r:Int) (h:G23 s v=some r):Pure En 141 [E1 s,G0 v] (·=G0 r):=by
 unfold G23 at h
 refine H0 [.tmp 4] Tryz.func141 O O (Jr fun hK1=>(JLm (G0 0) O (G8 (hK1 (Js fun hK2=>Jr fun hK3=>(JLm (E1 s) O (JLl H4 O O O fun hm7=>(JLm (G0 0) O (G8 (hK3 (Gk ?_)))))))))))
 obtain⟨b18,kx18,hb18,hkx18,h⟩:=J4 h
 refine H6 (fun i18 (s18:Unit)=>each b18 kx18 (List.drop i18 s) i18 s18=some r) (fun i18 s18=>[(0,E1 s),(1,G0 v),(7,Em s.length),(8,Em i18)]) (fun i18 s18=>[]) (fun i18=>s.length - i18) 0 () h ⟨(by repeat' constructor),G,rfl⟩ ?_
 clear h
 intro i18 s18 hi18 K18 e18
 refine Jr fun hK19=>(JLh (BL (decide ((i18:Int) < (s.length:Int)))) (Hy O O O) O (G8 (hK19 (Js fun hK20=>Gj O (fun hb=>?_) (fun hb=>?_)))))
 ·
  have hk18:=Je hb
  obtain⟨y18,nx18,hy18,hn18,h⟩:=Hs hi18 hk18
  replace h:=Y8 hb18 h
  refine Gm (hK20 (Js fun hK21=>Gk (Jr fun hK22=>(JLm (Em i18) O (JLm (Em i18) O (G8 (hK22 (Jr fun hK23=>(JLm (G0 v) O (JLm (E1 s) O (JLm (Em i18) O (JLh (.dptr [G0 y18]) (Gs (f:=G0) (xs:=s) (y:=y18) O O O H4 hy18 O) O (JLh (G0 y18) (Gh Gc O O O) O (JLh (BL (decide (v=y18))) (Jk O O O) O (G8 (hK23 (JCc O h (fun h hb=>?_) (fun h hb=>?_))))))))))))))))))
  ·
   refine Jr fun hK24=>(JLm (Em i18) O (JLm (Em i18) O (G8 (hK24 (Gt (fin1 G0 h))))))
  ·
   refine Gm (hK21 (G2 (JLh (G0 ((i18+1:Nat):Int)) (Hx (Hc hk18 hm7) O O O) O (JLm (G0 ((i18+1:Nat):Int)) O (G8 (e18 _ _ (i18+1) () (app1 hn18 h) (by omega) ⟨(by repeat' constructor),G,rfl⟩))))))
 ·
  have h:=app1 hkx18 (Ht hi18 (H9 hb))
  refine Hd (hK2 (Jr fun hK25=>(JLm (G0 (-1)) O (G8 (hK25 (Gt (fin1 G0 h)))))))

def Zd (s:List Int) (v:Int):Option Bool:=
 bnd (G23 s v) fun r3=>
 some (decide (0≤r3))
theorem G75 (s:List Int) (v:Int) (r:Bool) (h:Zd s v=some r):Pure En 94 [E1 s,G0 v] (·=BL r):=by
 unfold Zd at h
 refine H0 [.tmp 4] Tryz.func94 O O (Jr fun hK1=>(JLm (BL false) O (G8 (hK1 (Jr fun hK2=>(JLm (E1 s) O (JLm (G0 v) O ?_)))))))
 obtain⟨r3,hr3,h⟩:=Gf h
 refine JLh (G0 r3) (Gq O (J22 s v r3 hr3) Q97 ⟨O,O,O,O,G⟩) O (JLh (BL (decide (0≤r3))) (G06 O O O) O (JLm (BL (decide (0≤r3))) O (G8 (hK2 (Gt (fin1 BL h))))))

def G8c (x:Int):Option Bool:=
 some (decide (x≠x))
theorem H93 (x:Int) (r:Bool) (h:G8c x=some r):Pure En 78 [G0 x] (·=BL r):=by
 unfold G8c at h
 refine H0 [.tmp 2] Tryz.func78 O O (Jr fun hK1=>(JLm (BL false) O (G8 (hK1 (Jr fun hK2=>(JLm (G0 x) O (JLm (G0 x) O (JLh (BL (decide (x≠x))) (G56 O O O) O (JLm (BL (decide (x≠x))) O (G8 (hK2 (Gt (fin1 BL h)))))))))))))

def Qj (x:Int) (y:Int):Option Int:=
 bnd (G8c x) fun r3=>
 bnd (G8c y) fun r5=>
 bif r3 then
 (bif r5 then
  (some 0)
  else
  (some (-1)))
 else
 (bif r5 then
  (some 1)
  else
  (bif decide (x < y) then
   (some (-1))
   else
   (bif decide (y < x) then
    (some 1)
    else
    (some 0))))
theorem Z5 (x:Int) (y:Int) (r:Int) (h:Qj x y=some r):Pure En 42 [G0 x,G0 y] (·=G0 r):=by
 unfold Qj at h
 refine H0 [.tmp 4] Tryz.func42 O O (Jr fun hK1=>(JLm (G0 0) O (G8 (hK1 (Jr fun hK2=>(JLm (G0 x) O ?_))))))
 obtain⟨r3,hr3,h⟩:=Gf h
 refine JLh (BL r3) (Gq O (H93 x r3 hr3) Q13 ⟨O,O,G⟩) O (JLm (BL r3) O (G8 (hK2 (Jr fun hK4=>(JLm (G0 y) O ?_)))))
 obtain⟨r5,hr5,h⟩:=Gf h
 refine JLh (BL r5) (Gq O (H93 y r5 hr5) Q13 ⟨O,O,G⟩) O (JLm (BL r5) O (G8 (hK4 (Js fun hK6=>Jr fun hK7=>(JLm (BL r3) O (G8 (hK7 (JCc O h (fun h hb=>?_) (fun h hb=>?_)))))))))
 ·
  refine Js fun hK8=>Jr fun hK9=>(JLm (BL r5) O (G8 (hK9 (JCc O h (fun h hb=>?_) (fun h hb=>?_)))))
  ·
   refine Jr fun hK10=>(JLm (G0 0) O (G8 (hK10 (Gt (fin1 G0 h)))))
  ·
   refine Gm (hK8 (Jr fun hK11=>(JLm (G0 (-1)) O (G8 (hK11 (Gt (fin1 G0 h)))))))
 ·
  refine Gm (hK6 (Js fun hK12=>Jr fun hK13=>(JLm (BL r5) O (G8 (hK13 (JCc O h (fun h hb=>?_) (fun h hb=>?_)))))))
  ·
   refine Jr fun hK14=>(JLm (G0 1) O (G8 (hK14 (Gt (fin1 G0 h)))))
  ·
   refine Gm (hK12 (Js fun hK15=>Jr fun hK16=>(JLm (G0 x) O (JLm (G0 y) O (JLh (BL (decide (x < y))) (Hy O O O) O (G8 (hK16 (JCc O h (fun h hb=>?_) (fun h hb=>?_)))))))))
   ·
    refine Jr fun hK17=>(JLm (G0 (-1)) O (G8 (hK17 (Gt (fin1 G0 h)))))
   ·
    refine Gm (hK15 (Js fun hK18=>Jr fun hK19=>(JLm (G0 x) O (JLm (G0 y) O (JLh (BL (decide (y < x))) (G4d O O O) O (G8 (hK19 (JCc O h (fun h hb=>?_) (fun h hb=>?_)))))))))
    ·
     refine Jr fun hK20=>(JLm (G0 1) O (G8 (hK20 (Gt (fin1 G0 h)))))
    ·
     refine Gm (hK18 (Jr fun hK21=>(JLm (G0 0) O (G8 (hK21 (Gt (fin1 G0 h)))))))

def G66 (x:Int):Option Bool:=
 some (decide (x≠x))
theorem H3c (x:Int) (r:Bool) (h:G66 x=some r):Pure En 178 [U8 x] (·=BL r):=by
 unfold G66 at h
 refine H0 [.tmp 2] Tryz.func178 O O (Jr fun hK1=>(JLm (BL false) O (G8 (hK1 (Jr fun hK2=>(JLm (U8 x) O (JLm (U8 x) O (JLh (BL (decide (x≠x))) (G56 O O O) O (JLm (BL (decide (x≠x))) O (G8 (hK2 (Gt (fin1 BL h)))))))))))))

def G42 (x:Int) (y:Int):Option Int:=
 bnd (G66 x) fun r3=>
 bnd (G66 y) fun r5=>
 bif r3 then
 (bif r5 then
  (some 0)
  else
  (some (-1)))
 else
 (bif r5 then
  (some 1)
  else
  (bif decide (x < y) then
   (some (-1))
   else
   (bif decide (y < x) then
    (some 1)
    else
    (some 0))))
theorem Hf4 (x:Int) (y:Int) (r:Int) (h:G42 x y=some r):Pure En 143 [U8 x,U8 y] (·=G0 r):=by
 unfold G42 at h
 refine H0 [.tmp 4] Tryz.func143 O O (Jr fun hK1=>(JLm (G0 0) O (G8 (hK1 (Jr fun hK2=>(JLm (U8 x) O ?_))))))
 obtain⟨r3,hr3,h⟩:=Gf h
 refine JLh (BL r3) (Gq O (H3c x r3 hr3) Jc1 ⟨O,O,G⟩) O (JLm (BL r3) O (G8 (hK2 (Jr fun hK4=>(JLm (U8 y) O ?_)))))
 obtain⟨r5,hr5,h⟩:=Gf h
 refine JLh (BL r5) (Gq O (H3c y r5 hr5) Jc1 ⟨O,O,G⟩) O (JLm (BL r5) O (G8 (hK4 (Js fun hK6=>Jr fun hK7=>(JLm (BL r3) O (G8 (hK7 (JCc O h (fun h hb=>?_) (fun h hb=>?_)))))))))
 ·
  refine Js fun hK8=>Jr fun hK9=>(JLm (BL r5) O (G8 (hK9 (JCc O h (fun h hb=>?_) (fun h hb=>?_)))))
  ·
   refine Jr fun hK10=>(JLm (G0 0) O (G8 (hK10 (Gt (fin1 G0 h)))))
  ·
   refine Gm (hK8 (Jr fun hK11=>(JLm (G0 (-1)) O (G8 (hK11 (Gt (fin1 G0 h)))))))
 ·
  refine Gm (hK6 (Js fun hK12=>Jr fun hK13=>(JLm (BL r5) O (G8 (hK13 (JCc O h (fun h hb=>?_) (fun h hb=>?_)))))))
  ·
   refine Jr fun hK14=>(JLm (G0 1) O (G8 (hK14 (Gt (fin1 G0 h)))))
  ·
   refine Gm (hK12 (Js fun hK15=>Jr fun hK16=>(JLm (U8 x) O (JLm (U8 y) O (JLh (BL (decide (x < y))) (Hy O O O) O (G8 (hK16 (JCc O h (fun h hb=>?_) (fun h hb=>?_)))))))))
   ·
    refine Jr fun hK17=>(JLm (G0 (-1)) O (G8 (hK17 (Gt (fin1 G0 h)))))
   ·
    refine Gm (hK15 (Js fun hK18=>Jr fun hK19=>(JLm (U8 x) O (JLm (U8 y) O (JLh (BL (decide (y < x))) (G4d O O O) O (G8 (hK19 (JCc O h (fun h hb=>?_) (fun h hb=>?_)))))))))
    ·
     refine Jr fun hK20=>(JLm (G0 1) O (G8 (hK20 (Gt (fin1 G0 h)))))
    ·
     refine Gm (hK18 (Jr fun hK21=>(JLm (G0 0) O (G8 (hK21 (Gt (fin1 G0 h)))))))

def G80 (vals:List Int):Option Int:=
 each (fun y19 i19 (s19:Unit) nx19=>
  bif decide (y19≠0) then
  (some y19)
  else
  (nx19 ()))
 (fun(s19:Unit)=>
  some 0) vals 0 ()
theorem H76 (vals:List Int) (r:Int) (h:G80 vals=some r):Pure En 41 [E1 vals] (·=G0 r):=by
 unfold G80 at h
 refine H0 [.tmp 2] Tryz.func41 O O (Jr fun hK1=>(JLm (G0 0) O (G8 (hK1 (Jr fun hK2=>(JLm (G0 0) O (G8 (hK2 (Js fun hK3=>Jr fun hK4=>(JLm (E1 vals) O (JLl H4 O O O fun hm7=>(JLm (G0 0) O (G8 (hK4 (Gk ?_)))))))))))))))
 obtain⟨b19,kx19,hb19,hkx19,h⟩:=J4 h
 refine H6 (fun i19 (s19:Unit)=>each b19 kx19 (List.drop i19 vals) i19 s19=some r) (fun i19 s19=>[(3,G0 0),(6,E1 vals),(7,Em vals.length),(8,Em i19)]) (fun i19 s19=>[]) (fun i19=>vals.length - i19) 0 () h ⟨(by repeat' constructor),G,rfl⟩ ?_
 clear h
 intro i19 s19 hi19 K19 e19
 refine Jr fun hK20=>(JLh (BL (decide ((i19:Int) < (vals.length:Int)))) (Hy O O O) O (G8 (hK20 (Js fun hK21=>Gj O (fun hb=>?_) (fun hb=>?_)))))
 ·
  have hk19:=Je hb
  obtain⟨y19,nx19,hy19,hn19,h⟩:=Hs hi19 hk19
  replace h:=Y8 hb19 h
  refine Gm (hK21 (Js fun hK22=>Gk (Jr fun hK23=>(JLh (.dptr [G0 y19]) (Gs (f:=G0) (xs:=vals) (y:=y19) O O O H4 hy19 O) O (JLh (G0 y19) (Gh Gc O O O) O (JLm (G0 y19) O (G8 (hK23 (Jr fun hK24=>(JLm (G0 y19) O (JLm (G0 0) O (JLh (BL (decide (y19≠0))) (G56 O O O) O (G8 (hK24 (JCc O h (fun h hb=>?_) (fun h hb=>?_))))))))))))))))
  ·
   refine Jr fun hK25=>(JLm (G0 y19) O (JLm (G0 y19) O (G8 (hK25 (Gt (fin1 G0 h))))))
  ·
   refine Gm (hK22 (G2 (JLh (G0 ((i19+1:Nat):Int)) (Hx (Hc hk19 hm7) O O O) O (JLm (G0 ((i19+1:Nat):Int)) O (G8 (e19 _ _ (i19+1) () (app1 hn19 h) (by omega) ⟨(by repeat' constructor),G,rfl⟩))))))
 ·
  have h:=app1 hkx19 (Ht hi19 (H9 hb))
  refine Hd (hK3 (Jr fun hK26=>(JLm (G0 0) O (JLm (G0 0) O (G8 (hK26 (Gt (fin1 G0 h))))))))

def Gaa (a:Slot) (b:Slot):Option Int:=
 bnd (Qj a.G4 b.G4) fun r3=>
 bnd (Qj a.Tier b.Tier) fun r4=>
 bnd (G42 a.Half b.Half) fun r5=>
 bnd (G80 [r3,r4,r5]) fun r6=>
 some r6
theorem Jb8 (a:Slot) (b:Slot) (r:Int) (h:Gaa a b=some r):Pure En 97 [.agg [G0 a.G4,G0 a.Tier,U8 a.Half],.agg [G0 b.G4,G0 b.Tier,U8 b.Half]] (·=G0 r):=by
 unfold Gaa at h
 refine H0 [.tmp 4] Tryz.func97 O O (Jr fun hK1=>(JLh (.ptr 1142 0) (Jq (cs:=[G0 a.G4,G0 a.Tier,U8 a.Half]) 1142 O O O O O) O (JLh (.ptr 1143 0) (Jq (cs:=[G0 b.G4,G0 b.Tier,U8 b.Half]) 1143 O O O O O) O (JLm (G0 0) O (G8 (hK1 (Gx [(2,.dptr [G0 a.G4,G0 a.Tier,U8 a.Half]),(3,.ptr 1143 0)] [(1143,.box 60 [G0 b.G4,G0 b.Tier,U8 b.Half])] 1142 rfl rfl rfl ⟨⟨_,rfl,.boxEq rfl rfl⟩,G⟩ rfl (by exact⟨.ptr,.conv (.same rfl),G⟩) (Gx [(2,.dptr [G0 a.G4,G0 a.Tier,U8 a.Half]),(3,.dptr [G0 b.G4,G0 b.Tier,U8 b.Half])] [] 1143 rfl rfl rfl G rfl (by exact⟨.conv (.same rfl),.ptr,G⟩) (Js fun hK2=>?_)))))))))
 obtain⟨r3,hr3,h⟩:=Gf h
 obtain⟨r4,hr4,h⟩:=Gf h
 obtain⟨r5,hr5,h⟩:=Gf h
 obtain⟨r6,hr6,h⟩:=Gf h
 refine JC_d0 Jb (by kernel_rfl) (Dq (.dptr [G0 a.G4,G0 a.Tier,U8 a.Half]) (Ga Hk O O O) O (Dq (G0 a.G4) (Gh Gc O O O) O (Dq (.dptr [G0 b.G4,G0 b.Tier,U8 b.Half]) (Ga Hk O O O) O (Dq (G0 b.G4) (Gh Gc O O O) O (Dq (G0 r3) (Gq (args:=[G0 a.G4,G0 b.G4]) O (Z5 a.G4 b.G4 r3 hr3) Gdc ⟨O,O,O,O,G⟩) O (Dq (.dptr [G0 a.Tier,U8 a.Half]) (Ga J9 O O O) O (Dq (G0 a.Tier) (Gh Gc O O O) O (Dq (.dptr [G0 b.Tier,U8 b.Half]) (Ga J9 O O O) O (Dq (G0 b.Tier) (Gh Gc O O O) O (Dq (G0 r4) (Gq (args:=[G0 a.Tier,G0 b.Tier]) O (Z5 a.Tier b.Tier r4 hr4) Gdc ⟨O,O,O,O,G⟩) O (Dq (.dptr [U8 a.Half]) (Ga Jo O O O) O (Dq (U8 a.Half) (Gh J5 O O O) O (Dq (.dptr [U8 b.Half]) (Ga Jo O O O) O ?_)))))))))))))
 refine Dq (U8 b.Half) (Gh J5 O O O) O (Dq (G0 r5) (Gq (args:=[U8 a.Half,U8 b.Half]) O (Hf4 a.Half b.Half r5 hr5) Q95 ⟨O,O,O,O,G⟩) O (Dq (E1 [r3,r4,r5]) (Hv (xs:=[G0 r3,G0 r4,G0 r5]) O ⟨O,O,O,O,O,O,G⟩ H4 G67 O O O O) O (Dq (G0 r6) (Gq (args:=[E1 [r3,r4,r5]]) O (H76 [r3,r4,r5] r6 hr6) J5c ⟨O,O,G⟩) O (Dq (G0 r6) (G9 O O) O (Dnil (hK2 (Gt (fin1 G0 h))))))))

def G34 (a:G6) (b:G6):Option Int:=
 bnd (Qj a.Slot.Tier b.Slot.Tier) fun r3=>
 bnd (Gaa a.Slot b.Slot) fun r4=>
 bnd (G80 [r3,r4]) fun r5=>
 some r5
theorem Hc0 (a:G6) (b:G6) (r:Int) (h:G34 a b=some r):Pure En 96 [.agg (G6.cs a),.agg (G6.cs b)] (·=G0 r):=by
 unfold G34 at h
 refine H0 [.tmp 4] Tryz.func96 O O (Jr fun hK1=>(JLh (.ptr 1140 0) (Jq (cs:=[G0 a.H2,G0 a.Slot.G4,G0 a.Slot.Tier,U8 a.Slot.Half]) 1140 O O O O O) O (JLh (.ptr 1141 0) (Jq (cs:=[G0 b.H2,G0 b.Slot.G4,G0 b.Slot.Tier,U8 b.Slot.Half]) 1141 O O O O O) O (JLm (G0 0) O (G8 (hK1 (Gx [(2,Ee a),(3,.ptr 1141 0)] [(1141,.box 62 [G0 b.H2,G0 b.Slot.G4,G0 b.Slot.Tier,U8 b.Slot.Half])] 1140 rfl rfl rfl ⟨⟨_,rfl,.boxEq rfl rfl⟩,G⟩ rfl (by exact⟨.ptr,.conv (.same rfl),G⟩) (Gx [(2,Ee a),(3,Ee b)] [] 1141 rfl rfl rfl G rfl (by exact⟨.conv (.same rfl),.ptr,G⟩) (Js fun hK2=>?_)))))))))
 obtain⟨r3,hr3,h⟩:=Gf h
 obtain⟨r4,hr4,h⟩:=Gf h
 obtain⟨r5,hr5,h⟩:=Gf h
 refine JC_d0 Jb (by kernel_rfl) (Dq (.dptr ((G6.cs a).drop 1)) (Ga Hg O O O) O (Dq (.dptr [G0 a.Slot.Tier,U8 a.Slot.Half]) (Ga J9 O O O) O (Dq (G0 a.Slot.Tier) (Gh Gc O O O) O (Dq (.dptr ((G6.cs b).drop 1)) (Ga Hg O O O) O (Dq (.dptr [G0 b.Slot.Tier,U8 b.Slot.Half]) (Ga J9 O O O) O (Dq (G0 b.Slot.Tier) (Gh Gc O O O) O (Dq (G0 r3) (Gq (args:=[G0 a.Slot.Tier,G0 b.Slot.Tier]) O (Z5 a.Slot.Tier b.Slot.Tier r3 hr3) Gdc ⟨O,O,O,O,G⟩) O (Dq (.dptr ((G6.cs a).drop 1)) (Ga Hg O O O) O (Dq (.agg ((G6.cs a).drop 1)) (Gi Jg O O O) O (Dq (.dptr ((G6.cs b).drop 1)) (Ga Hg O O O) O (Dq (.agg ((G6.cs b).drop 1)) (Gi Jg O O O) O (Dq (G0 r4) (Gq (args:=[.agg ((G6.cs a).drop 1),.agg ((G6.cs b).drop 1)]) O (Jb8 a.Slot b.Slot r4 hr4) Qcd ⟨O,O,O,O,G⟩) O (Dq (E1 [r3,r4]) (Hv (xs:=[G0 r3,G0 r4]) O ⟨O,O,O,O,G⟩ H4 G67 O O O O) O ?_)))))))))))))
 refine Dq (G0 r5) (Gq (args:=[E1 [r3,r4]]) O (H76 [r3,r4] r5 hr5) J5c ⟨O,O,G⟩) O (Dq (G0 r5) (G9 O O) O (Dnil (hK2 (Gt (fin1 G0 h)))))

def Zr (l:List G6) (compare:G6→G6→Option Int):Option (List G6):=
 bnd (Jcf compare l) fun r3=>
 some r3
theorem G4c (l:List G6) (l_q:Nat) (compare:G6→G6→Option Int) (compare_f:FuncId) (compare_c:List AV) (compare_B:Hb En compare_f=true) (compare_d:Zt (fun _=>false) compare_c=true) (compare_w:∀ a0 a1 q,compare a0 a1=some q→Pure En compare_f ([.agg (G6.cs a0),.agg (G6.cs a1)]++compare_c) (·=G0 q)) (r:(List G6)) (h:Zr l compare=some r):Rn En 95 [.vec 1095 l_q 4 l.length,.fn compare_f compare_c] [(1095,.vec 62 4 l_q (l.map G6.av))] (fun av L'=>∃ p:Nat,av=.vec 1095 p 4 r.length∧L'=[(1095,.vec 62 4 p (r.map G6.av))]):=by
 unfold Zr at h
 refine Z6 [1095] [.tmp 4] Tryz.func95 O O (H3b O) (Jr fun hK1=>(JLh (.vec 1139 (([]:List G6).length) 4 (([]:List G6).length)) (Hac 1139 62 4 O O O) O (G8 (hK1 (Jr fun hK2=>(JLm (.vec 1095 l_q 4 l.length) O (JLm (.fn compare_f compare_c) O ?_)))))))
 obtain⟨r3,hr3,h⟩:=Gf h
 refine JLh (.tup []) (A_sortM (f:=G6.av) (cmp:=compare) (xs:=l) (r:=r3) G6.vs O sortLaw_142 sortNone_142 (fun _=>O) (fun _=>O) (fun _=>cells1 O) Q96 compare_B O O O O compare_d hr3 (fun z0 z1 q hq=>compare_w z0 z1 q hq) O) O (G8 (hK2 (Jr fun hK4=>(JLm (.vec 1095 l_q 4 l.length) O (JLm (.vec 1095 l_q 4 l.length) O (G8 (hK4 (J98 4 O O (fun hn_=>Gt ?_)))))))))
 obtain rfl:=Option.some.inj h
 exact⟨[.vec 1095 l_q 4 l.length],[(1095,.vec 62 4 l_q (r3.map G6.av))],⟨⟨_,O,.vec⟩,G⟩,O,⟨⟨_,O,.conv (.same O)⟩,G⟩,l_q,congrArg (fun n_:Nat=>(.vec 1095 l_q 4 n_:AV)) (hn_.trans (List.length_map _)),O⟩

def Gb7 (s:H8) (l:List G6) (lifted:List Int) (bay:Int) (deck:Bool):Option (List G6):=
 each (fun y49 i49 (s49:(List G6)) nx49=>
  jp (fun kj52=>
   Jc s.Columns y49.Slot.G4 fun y55=>
   bnd (bif ((decide (y55.Bay=bay))&&(y55.Deck==deck)) then Zd lifted y49.H2 else some default) fun r58=>
   bif (((decide (y55.Bay=bay))&&(y55.Deck==deck))&&r58) then
   (need (decide ((s49.length+[y49].length)*32≤140737488355328∧s49.length+[y49].length≤maxLen)) <|
    kj52 (s49++[y49]))
   else
   (kj52 s49)) fun(j52:(List G6))=>
  nx49 j52)
 (fun(s49:(List G6))=>
  bnd (Zr s49 (fun z0 z1=>G34 z0 z1)) fun r61=>
  some r61) l 0 []
theorem Q57 (s:H8) (l:List G6) (lifted:List Int) (bay:Int) (deck:Bool) (r:(List G6)) (h:Gb7 s l lifted bay deck=some r):Pure En 57 [.agg (H8.cs s),E0 l,E1 lifted,G0 bay,BL deck] (·=E0 r):=by
 unfold Gb7 at h
 refine H0 [.tmp 10] Tryz.func57 O O (Jr fun hK1=>(JLh (.ptr 1093 0) (Jq (cs:=(H8.cs s)) 1093 O O O O O) O (JLh (E0 ([]:List G6)) (Q2 4 O O) O (G8 (hK1 ?_)))))
 refine Gx [(1,E0 l),(2,E1 lifted),(3,G0 bay),(4,BL deck),(5,Ed s)] [] 1093 rfl rfl rfl G rfl (by repeat' (first | exact .ptr | constructor)) (Jr fun hK2=>(JLh (.vec 1095 (([]:List G6).length) 4 (([]:List G6).length)) (Hac 1095 62 4 O O O) O (G8 (hK2 (Js fun hK3=>Jr fun hK4=>(JLm (E0 l) O (JLl Gz O O O fun hm16=>(JLm (G0 0) O (G8 (hK4 (Gk ?_)))))))))))
 obtain⟨b49,kx49,hb49,hkx49,h⟩:=J4 h
 refine H6 (fun i49 (s49:(List G6))=>each b49 kx49 (List.drop i49 l) i49 s49=some r) (fun i49 s49=>[(2,E1 lifted),(3,G0 bay),(4,BL deck),(5,Ed s),(11,.vec 1095 s49.length 4 s49.length),(15,E0 l),(16,Em l.length),(17,Em i49)]) (fun i49 s49=>[(1095,.vec 62 4 s49.length (s49.map G6.av))]) (fun i49=>l.length - i49) 0 [] h ⟨(by repeat' constructor),⟨⟨_,rfl,.vec⟩,G⟩,rfl⟩ ?_
 clear h
 intro i49 s49 hi49 K49 e49
 refine Jr fun hK50=>(JLh (BL (decide ((i49:Int) < (l.length:Int)))) (Hy O O O) O (G8 (hK50 (Js fun hK51=>Gj O (fun hb=>?_) (fun hb=>?_)))))
 ·
  have hk49:=Je hb
  obtain⟨y49,nx49,hy49,hn49,h⟩:=Hs hi49 hk49
  replace h:=Y8 hb49 h
  refine Gm (hK51 ?_)
  obtain⟨kj52,hkj52,h⟩:=Zf h
  refine Rt (fun j52:(List G6)=>kj52 j52=some r) (fun j52=>[(2,E1 lifted),(3,G0 bay),(4,BL deck),(5,Ed s),(11,.vec 1095 j52.length 4 j52.length),(15,E0 l),(16,Em l.length),(17,Em i49)]) (fun j52=>[(1095,.vec 62 4 j52.length (j52.map G6.av))]) (fun Kj52 ej52=>?_) ?_
  ·
   refine Gk (Jr fun hK53=>(JLh (Ee y49) (Gs (f:=G6.av) (xs:=l) (y:=y49) O O O Gz hy49 O) O (JLh (.agg (G6.cs y49)) (Gi Qv O O O) O (JLh (.ptr 1096 0) (Ju 1096 4 Rv O O) O (Ja (u:=.junk) (J0 (u:=.agg (G6.cs y49)) (ds:=[G0 y49.H2,G0 y49.Slot.G4,G0 y49.Slot.Tier,U8 y49.Slot.Half]) Z4 O O O O O O O O) (G8 (hK53 ?_)))))))
   refine Gx [(2,E1 lifted),(3,G0 bay),(4,BL deck),(5,Ed s),(11,.vec 1095 s49.length 4 s49.length),(13,Ee y49),(15,E0 l),(16,Em l.length),(17,Em i49)] [(1095,.vec 62 4 s49.length (s49.map G6.av))] 1096 rfl rfl rfl ⟨⟨_,rfl,.vec⟩,G⟩ rfl (by repeat' (first | exact .ptr | constructor)) ?_
   refine Jr fun hK54=>(JLh (Ed s) (Ga Hi O O O) O (JLh (E5 s.Columns) (Gh Ho O O O) O (JLh (.dptr ((G6.cs y49).drop 1)) (Ga Hg O O O) O (JLh (.dptr ((G6.cs y49).drop 1)) (Ga Hk O O O) O (JLh (G0 y49.Slot.G4) (Gh Gc O O O) O ?_)))))
   obtain⟨m56,y55,hm56,hy55,h⟩:=R1 h
   refine JLh (Ef y55) (Gs (f:=G4.av) (xs:=s.Columns) (y:=y55) O O O H7 hy55 hm56) O (JLh (.agg (G4.cs y55)) (Gi Yc O O O) O (JLh (.ptr 1097 0) (Ju 1097 12 G5e O O) O (Ja (u:=.junk) (J0 (u:=.agg (G4.cs y55)) (ds:=(G4.cs y55)) Ga0 O O O O O O O O) (G8 (hK54 ?_)))))
   refine Gx [(2,E1 lifted),(3,G0 bay),(4,BL deck),(5,Ed s),(11,.vec 1095 s49.length 4 s49.length),(13,Ee y49),(14,Ef y55),(15,E0 l),(16,Em l.length),(17,Em i49)] [(1095,.vec 62 4 s49.length (s49.map G6.av))] 1097 rfl rfl rfl ⟨⟨_,rfl,.vec⟩,G⟩ rfl (by repeat' (first | exact .ptr | constructor)) ?_
   refine Jr fun hK57=>(JLh (Ef y55) (Ga Rr O O O) O (JLh (G0 y55.Bay) (Gh Gc O O O) O (JLm (G0 bay) O (JLh (BL (decide (y55.Bay=bay))) (Jk O O O) O (JLm (BL (decide (y55.Bay=bay))) O (JLo (.dptr ((G4.cs y55).drop 2)) [] O .sct G (fun hc=>Ga Yb O O O) O (JLo (BL y55.Deck) [33] O .sct ⟨Ua,G⟩ (fun hc=>Gh R5 O O O) O (JLo (BL deck) [] O .sct G (fun hc=>G5 O O) O (JLo (BL (y55.Deck==deck)) [34,35] O .sct ⟨Ua,Ua,G⟩ (fun hc=>J2a Ge1 O O O) O (JLh (BL ((decide (y55.Bay=bay))&&(y55.Deck==deck))) (J3 O O O O) O (JLm (BL ((decide (y55.Bay=bay))&&(y55.Deck==deck))) O (JLo (E1 lifted) [] O .sct G (fun hc=>G5 O O) O (JLo (Ee y49) [] O .sct G (fun hc=>Ga Q7 O O O) O ?_)))))))))))))
   refine JLo (G0 y49.H2) [40] O .sct ⟨Ua,G⟩ (fun hc=>Gh Gc O O O) O ?_
   obtain⟨r58,hr58,h⟩:=Gf h
   refine JLo (BL r58) [39,41] O .sct ⟨Ua,Ua,G⟩ (fun hc=>Gq (args:=[E1 lifted,G0 y49.H2]) O (G75 lifted y49.H2 r58 (Gv hc hr58)) J57 ⟨O,O,O,O,G⟩) O (JLh (BL (((decide (y55.Bay=bay))&&(y55.Deck==deck))&&r58)) (J3 O O O O) O (G8 (hK57 (JCc O h (fun h hb=>?_) (fun h hb=>?_)))))
   ·
    refine G2 (JLm (.vec 1095 s49.length 4 s49.length) O (JLh (.agg (G6.cs y49)) (Gi Qv O O O) O (JLh (E0 [y49]) (Hv (xs:=[.agg (G6.cs y49)]) O ⟨O,O,G⟩ Gz Rv O O O O) O ?_)))
    obtain⟨ha59,h⟩:=Hz h
    refine JLh (.vec 1095 ((s49++[y49]).length) 4 ((s49++[y49]).length)) (H15 (f:=G6.av) (xs:=s49) (ys:=[y49]) (ver:=s49.length) (ver1:=(s49++[y49]).length) rfl rfl rfl rfl Gz H52 ha59 (fun _=>rfl) (.inl rfl) (by simp)) O (JLm (.vec 1095 ((s49++[y49]).length) 4 ((s49++[y49]).length)) O (G8 (ej52 _ _ (s49++[y49]) h ⟨(by repeat' constructor),⟨⟨_,rfl,.vec⟩,G⟩,rfl⟩)))
   ·
    refine Gm (ej52 _ _ s49 h ⟨(by repeat' constructor),⟨⟨_,rfl,.vec⟩,G⟩,rfl⟩)
  ·intro j52 h
   replace h:=app1 hkj52 h
   refine G2 (JLh (G0 ((i49+1:Nat):Int)) (Hx (Hc hk49 hm16) O O O) O (JLm (G0 ((i49+1:Nat):Int)) O (G8 (e49 _ _ (i49+1) j52 (app1 hn49 h) (by omega) ⟨(by repeat' constructor),⟨⟨_,rfl,.vec⟩,G⟩,rfl⟩))))
 ·
  have h:=app1 hkx49 (Ht hi49 (H9 hb))
  refine Hd (hK3 (Jr fun hK60=>(JLm (.vec 1095 s49.length 4 s49.length) O ?_)))
  obtain⟨r61,hr61,h⟩:=Gf h
  refine H00 O O O (H2e (args:=[.vec 1095 s49.length 4 s49.length,.fn 96 []]) (L0:=[(1095,.vec 62 4 s49.length (s49.map G6.av))]) (u:=fun p=>.vec 1095 p 4 r61.length) (Lr:=fun p=>[(1095,.vec 62 4 p (r61.map G6.av))]) O (G4c s49 s49.length (fun z0 z1=>G34 z0 z1) 96 [] Q10 O (fun z0 z1 q hq=>Hc0 z0 z1 q hq) r61 hr61) Q11 ⟨.inl O,O,.inl O,O,G⟩ ⟨O,G⟩ O (fun _=>O)) ?_
  rintro u_ L_ ⟨v62,rfl,rfl⟩
  refine JLm (.vec 1095 v62 4 r61.length) O (G8 (hK60 (H77 [(10,E0 r61)] [] 1095 rfl rfl G rfl (by exact⟨.vec,G⟩) (Gt (fin1 (fun r:(List G6)=>(E0 r:AV)) h)))))


theorem Q58 (s:H8) (l:List G6) (lifted:List Int) (bay:Int) (deck:Bool) (r:(List G6)) (h:Gb7 s l lifted bay deck=some r):Rn En 57 [.agg (H8.cs s),E0 l,E1 lifted,G0 bay,BL deck] [] (fun av L'=>∃ p:Nat,av=.vec 1095 p 4 r.length∧L'=[(1095,.vec 62 4 p (r.map G6.av))]):=by
 unfold Gb7 at h
 refine Z6 [] [.tmp 10] Tryz.func57 O O (H3b O) (Jr fun hK1=>(JLh (.ptr 1093 0) (Jq (cs:=(H8.cs s)) 1093 O O O O O) O (JLh (.vec 1094 (([]:List G6).length) 4 (([]:List G6).length)) (Hac 1094 62 4 O O O) O (G8 (hK1 ?_)))))
 refine Gx [(1,E0 l),(2,E1 lifted),(3,G0 bay),(4,BL deck),(5,Ed s)] [(1094,.vec 62 4 (([]:List G6).length) (([]:List G6).map G6.av))] 1093 rfl rfl rfl ⟨⟨_,rfl,.vec⟩,G⟩ rfl (by repeat' (first | exact .ptr | constructor)) (Jr fun hK2=>(JLh (.vec 1095 (([]:List G6).length) 4 (([]:List G6).length)) (Hac 1095 62 4 O O O) O (G8 (hK2 (Js fun hK3=>Jr fun hK4=>(JLm (E0 l) O (JLl Gz O O O fun hm16=>(JLm (G0 0) O (G8 (hK4 (Gk ?_)))))))))))
 obtain⟨b49,kx49,hb49,hkx49,h⟩:=J4 h
 refine H6 (fun i49 (s49:(List G6))=>each b49 kx49 (List.drop i49 l) i49 s49=some r) (fun i49 s49=>[(2,E1 lifted),(3,G0 bay),(4,BL deck),(5,Ed s),(11,.vec 1095 s49.length 4 s49.length),(15,E0 l),(16,Em l.length),(17,Em i49)]) (fun i49 s49=>[(1094,.vec 62 4 (([]:List G6).length) (([]:List G6).map G6.av)),(1095,.vec 62 4 s49.length (s49.map G6.av))]) (fun i49=>l.length - i49) 0 [] h ⟨(by repeat' constructor),⟨⟨_,rfl,.vec⟩,⟨_,rfl,.vec⟩,G⟩,rfl⟩ ?_
 clear h
 intro i49 s49 hi49 K49 e49
 refine Jr fun hK50=>(JLh (BL (decide ((i49:Int) < (l.length:Int)))) (Hy O O O) O (G8 (hK50 (Js fun hK51=>Gj O (fun hb=>?_) (fun hb=>?_)))))
 ·
  have hk49:=Je hb
  obtain⟨y49,nx49,hy49,hn49,h⟩:=Hs hi49 hk49
  replace h:=Y8 hb49 h
  refine Gm (hK51 ?_)
  obtain⟨kj52,hkj52,h⟩:=Zf h
  refine Rt (fun j52:(List G6)=>kj52 j52=some r) (fun j52=>[(2,E1 lifted),(3,G0 bay),(4,BL deck),(5,Ed s),(11,.vec 1095 j52.length 4 j52.length),(15,E0 l),(16,Em l.length),(17,Em i49)]) (fun j52=>[(1094,.vec 62 4 (([]:List G6).length) (([]:List G6).map G6.av)),(1095,.vec 62 4 j52.length (j52.map G6.av))]) (fun Kj52 ej52=>?_) ?_
  ·
   refine Gk (Jr fun hK53=>(JLh (Ee y49) (Gs (f:=G6.av) (xs:=l) (y:=y49) O O O Gz hy49 O) O (JLh (.agg (G6.cs y49)) (Gi Qv O O O) O (JLh (.ptr 1096 0) (Ju 1096 4 Rv O O) O (Ja (u:=.junk) (J0 (u:=.agg (G6.cs y49)) (ds:=[G0 y49.H2,G0 y49.Slot.G4,G0 y49.Slot.Tier,U8 y49.Slot.Half]) Z4 O O O O O O O O) (G8 (hK53 ?_)))))))
   refine Gx [(2,E1 lifted),(3,G0 bay),(4,BL deck),(5,Ed s),(11,.vec 1095 s49.length 4 s49.length),(13,Ee y49),(15,E0 l),(16,Em l.length),(17,Em i49)] [(1094,.vec 62 4 (([]:List G6).length) (([]:List G6).map G6.av)),(1095,.vec 62 4 s49.length (s49.map G6.av))] 1096 rfl rfl rfl ⟨⟨_,rfl,.vec⟩,⟨_,rfl,.vec⟩,G⟩ rfl (by repeat' (first | exact .ptr | constructor)) ?_
   refine Jr fun hK54=>(JLh (Ed s) (Ga Hi O O O) O (JLh (E5 s.Columns) (Gh Ho O O O) O (JLh (.dptr ((G6.cs y49).drop 1)) (Ga Hg O O O) O (JLh (.dptr ((G6.cs y49).drop 1)) (Ga Hk O O O) O (JLh (G0 y49.Slot.G4) (Gh Gc O O O) O ?_)))))
   obtain⟨m56,y55,hm56,hy55,h⟩:=R1 h
   refine JLh (Ef y55) (Gs (f:=G4.av) (xs:=s.Columns) (y:=y55) O O O H7 hy55 hm56) O (JLh (.agg (G4.cs y55)) (Gi Yc O O O) O (JLh (.ptr 1097 0) (Ju 1097 12 G5e O O) O (Ja (u:=.junk) (J0 (u:=.agg (G4.cs y55)) (ds:=(G4.cs y55)) Ga0 O O O O O O O O) (G8 (hK54 ?_)))))
   refine Gx [(2,E1 lifted),(3,G0 bay),(4,BL deck),(5,Ed s),(11,.vec 1095 s49.length 4 s49.length),(13,Ee y49),(14,Ef y55),(15,E0 l),(16,Em l.length),(17,Em i49)] [(1094,.vec 62 4 (([]:List G6).length) (([]:List G6).map G6.av)),(1095,.vec 62 4 s49.length (s49.map G6.av))] 1097 rfl rfl rfl ⟨⟨_,rfl,.vec⟩,⟨_,rfl,.vec⟩,G⟩ rfl (by repeat' (first | exact .ptr | constructor)) ?_
   refine Jr fun hK57=>(JLh (Ef y55) (Ga Rr O O O) O (JLh (G0 y55.Bay) (Gh Gc O O O) O (JLm (G0 bay) O (JLh (BL (decide (y55.Bay=bay))) (Jk O O O) O (JLm (BL (decide (y55.Bay=bay))) O (JLo (.dptr ((G4.cs y55).drop 2)) [] O .sct G (fun hc=>Ga Yb O O O) O (JLo (BL y55.Deck) [33] O .sct ⟨Ua,G⟩ (fun hc=>Gh R5 O O O) O (JLo (BL deck) [] O .sct G (fun hc=>G5 O O) O (JLo (BL (y55.Deck==deck)) [34,35] O .sct ⟨Ua,Ua,G⟩ (fun hc=>J2a Ge1 O O O) O (JLh (BL ((decide (y55.Bay=bay))&&(y55.Deck==deck))) (J3 O O O O) O (JLm (BL ((decide (y55.Bay=bay))&&(y55.Deck==deck))) O (JLo (E1 lifted) [] O .sct G (fun hc=>G5 O O) O (JLo (Ee y49) [] O .sct G (fun hc=>Ga Q7 O O O) O ?_)))))))))))))
   refine JLo (G0 y49.H2) [40] O .sct ⟨Ua,G⟩ (fun hc=>Gh Gc O O O) O ?_
   obtain⟨r58,hr58,h⟩:=Gf h
   refine JLo (BL r58) [39,41] O .sct ⟨Ua,Ua,G⟩ (fun hc=>Gq (args:=[E1 lifted,G0 y49.H2]) O (G75 lifted y49.H2 r58 (Gv hc hr58)) J57 ⟨O,O,O,O,G⟩) O (JLh (BL (((decide (y55.Bay=bay))&&(y55.Deck==deck))&&r58)) (J3 O O O O) O (G8 (hK57 (JCc O h (fun h hb=>?_) (fun h hb=>?_)))))
   ·
    refine G2 (JLm (.vec 1095 s49.length 4 s49.length) O (JLh (.agg (G6.cs y49)) (Gi Qv O O O) O (JLh (E0 [y49]) (Hv (xs:=[.agg (G6.cs y49)]) O ⟨O,O,G⟩ Gz Rv O O O O) O ?_)))
    obtain⟨ha59,h⟩:=Hz h
    refine JLh (.vec 1095 ((s49++[y49]).length) 4 ((s49++[y49]).length)) (H15 (f:=G6.av) (xs:=s49) (ys:=[y49]) (ver:=s49.length) (ver1:=(s49++[y49]).length) rfl rfl rfl rfl Gz H52 ha59 (fun _=>rfl) (.inl rfl) (by simp)) O (JLm (.vec 1095 ((s49++[y49]).length) 4 ((s49++[y49]).length)) O (G8 (ej52 _ _ (s49++[y49]) h ⟨(by repeat' constructor),⟨⟨_,rfl,.vec⟩,⟨_,rfl,.vec⟩,G⟩,rfl⟩)))
   ·
    refine Gm (ej52 _ _ s49 h ⟨(by repeat' constructor),⟨⟨_,rfl,.vec⟩,⟨_,rfl,.vec⟩,G⟩,rfl⟩)
  ·intro j52 h
   replace h:=app1 hkj52 h
   refine G2 (JLh (G0 ((i49+1:Nat):Int)) (Hx (Hc hk49 hm16) O O O) O (JLm (G0 ((i49+1:Nat):Int)) O (G8 (e49 _ _ (i49+1) j52 (app1 hn49 h) (by omega) ⟨(by repeat' constructor),⟨⟨_,rfl,.vec⟩,⟨_,rfl,.vec⟩,G⟩,rfl⟩))))
 ·
  have h:=app1 hkx49 (Ht hi49 (H9 hb))
  refine Hd (hK3 (Jr fun hK60=>(JLm (.vec 1095 s49.length 4 s49.length) O ?_)))
  obtain⟨r61,hr61,h⟩:=Gf h
  refine H00 O O O (H2e (args:=[.vec 1095 s49.length 4 s49.length,.fn 96 []]) (L0:=[(1095,.vec 62 4 s49.length (s49.map G6.av))]) (u:=fun p=>.vec 1095 p 4 r61.length) (Lr:=fun p=>[(1095,.vec 62 4 p (r61.map G6.av))]) O (G4c s49 s49.length (fun z0 z1=>G34 z0 z1) 96 [] Q10 O (fun z0 z1 q hq=>Hc0 z0 z1 q hq) r61 hr61) Q11 ⟨.inl O,O,.inl O,O,G⟩ ⟨O,G⟩ O (fun _=>O)) ?_
  rintro u_ L_ ⟨v62,rfl,rfl⟩
  refine JLm (.vec 1095 v62 4 r61.length) O (G8 (hK60 (J98 10 O O (fun hn_=>Gt ?_))))
  obtain rfl:=Option.some.inj h
  exact⟨[.vec 1095 v62 4 r61.length],[(1095,.vec 62 4 v62 (r61.map G6.av))],⟨⟨_,O,.vec⟩,G⟩,O,⟨⟨_,O,.conv (.same O)⟩,G⟩,v62,congrArg (fun n_:Nat=>(.vec 1095 v62 4 n_:AV)) (hn_.trans (List.length_map _)),O⟩

def G3f (a:Hh) (b:Hh):Option Int:=
 bnd (Qj a.Phase b.Phase) fun r3=>
 bnd (Qj a.Bay b.Bay) fun r4=>
 bnd (G80 [r3,r4]) fun r5=>
 some r5
theorem J96 (a:Hh) (b:Hh) (r:Int) (h:G3f a b=some r):Pure En 40 [.agg (Hh.cs a),.agg (Hh.cs b)] (·=G0 r):=by
 unfold G3f at h
 refine H0 [.tmp 4] Tryz.func40 O O (Jr fun hK1=>(JLh (.ptr 1064 0) (Jq (cs:=[G0 a.Bay,G0 a.Phase,G0 a.Lifts,G0 a.Covers]) 1064 O O O O O) O (JLh (.ptr 1065 0) (Jq (cs:=[G0 b.Bay,G0 b.Phase,G0 b.Lifts,G0 b.Covers]) 1065 O O O O O) O (JLm (G0 0) O (G8 (hK1 (Gx [(2,Ek a),(3,.ptr 1065 0)] [(1065,.box 72 [G0 b.Bay,G0 b.Phase,G0 b.Lifts,G0 b.Covers])] 1064 rfl rfl rfl ⟨⟨_,rfl,.boxEq rfl rfl⟩,G⟩ rfl (by exact⟨.ptr,.conv (.same rfl),G⟩) (Gx [(2,Ek a),(3,Ek b)] [] 1065 rfl rfl rfl G rfl (by exact⟨.conv (.same rfl),.ptr,G⟩) (Js fun hK2=>?_)))))))))
 obtain⟨r3,hr3,h⟩:=Gf h
 obtain⟨r4,hr4,h⟩:=Gf h
 obtain⟨r5,hr5,h⟩:=Gf h
 refine JC_d0 Jb (by kernel_rfl) (Dq (.dptr [G0 a.Phase,G0 a.Lifts,G0 a.Covers]) (Ga H16 O O O) O (Dq (G0 a.Phase) (Gh Gc O O O) O (Dq (.dptr [G0 b.Phase,G0 b.Lifts,G0 b.Covers]) (Ga H16 O O O) O (Dq (G0 b.Phase) (Gh Gc O O O) O (Dq (G0 r3) (Gq (args:=[G0 a.Phase,G0 b.Phase]) O (Z5 a.Phase b.Phase r3 hr3) Gdc ⟨O,O,O,O,G⟩) O (Dq (Ek a) (Ga Gc2 O O O) O (Dq (G0 a.Bay) (Gh Gc O O O) O (Dq (Ek b) (Ga Gc2 O O O) O (Dq (G0 b.Bay) (Gh Gc O O O) O (Dq (G0 r4) (Gq (args:=[G0 a.Bay,G0 b.Bay]) O (Z5 a.Bay b.Bay r4 hr4) Gdc ⟨O,O,O,O,G⟩) O (Dq (E1 [r3,r4]) (Hv (xs:=[G0 r3,G0 r4]) O ⟨O,O,O,O,G⟩ H4 G67 O O O O) O (Dq (G0 r5) (Gq (args:=[E1 [r3,r4]]) O (H76 [r3,r4] r5 hr5) J5c ⟨O,O,G⟩) O (Dq (G0 r5) (G9 O O) O (Dnil ?_))))))))))))))
 refine hK2 (Gt (fin1 G0 h))

def G14 (l:List Hh) (compare:Hh→Hh→Option Int):Option (List Hh):=
 bnd (Jcf compare l) fun r3=>
 some r3
theorem Geb (l:List Hh) (l_q:Nat) (compare:Hh→Hh→Option Int) (compare_f:FuncId) (compare_c:List AV) (compare_B:Hb En compare_f=true) (compare_d:Zt (fun _=>false) compare_c=true) (compare_w:∀ a0 a1 q,compare a0 a1=some q→Pure En compare_f ([.agg (Hh.cs a0),.agg (Hh.cs a1)]++compare_c) (·=G0 q)) (r:(List Hh)) (h:G14 l compare=some r):Rn En 39 [.vec 1024 l_q 4 l.length,.fn compare_f compare_c] [(1024,.vec 72 4 l_q (l.map Hh.av))] (fun av L'=>∃ p:Nat,av=.vec 1024 p 4 r.length∧L'=[(1024,.vec 72 4 p (r.map Hh.av))]):=by
 unfold G14 at h
 refine Z6 [1024] [.tmp 4] Tryz.func39 O O (H3b O) (Jr fun hK1=>(JLh (.vec 1063 (([]:List Hh).length) 4 (([]:List Hh).length)) (Hac 1063 72 4 O O O) O (G8 (hK1 (Jr fun hK2=>(JLm (.vec 1024 l_q 4 l.length) O (JLm (.fn compare_f compare_c) O ?_)))))))
 obtain⟨r3,hr3,h⟩:=Gf h
 refine JLh (.tup []) (A_sortM (f:=Hh.av) (cmp:=compare) (xs:=l) (r:=r3) Hh.vs O sortLaw_77 sortNone_77 (fun _=>O) (fun _=>O) (fun _=>cells1 O) Qd8 compare_B O O O O compare_d hr3 (fun z0 z1 q hq=>compare_w z0 z1 q hq) O) O (G8 (hK2 (Jr fun hK4=>(JLm (.vec 1024 l_q 4 l.length) O (JLm (.vec 1024 l_q 4 l.length) O (G8 (hK4 (J98 4 O O (fun hn_=>Gt ?_)))))))))
 obtain rfl:=Option.some.inj h
 exact⟨[.vec 1024 l_q 4 l.length],[(1024,.vec 72 4 l_q (r3.map Hh.av))],⟨⟨_,O,.vec⟩,G⟩,O,⟨⟨_,O,.conv (.same O)⟩,G⟩,l_q,congrArg (fun n_:Nat=>(.vec 1024 l_q 4 n_:AV)) (hn_.trans (List.length_map _)),O⟩

def Gd4 (s:H8) (l:List Move) (Rp:((List Hh)×Int)→Prop):Option Prop:=
 bnd (G29 s) fun r4=>
 bif (!r4) then
 (some (Rp ([],2)))
 else
 (each (fun y189 i189 (s189:(Hp J8 Hh)) nx189=>
   jp (fun kj196=>
    bif ((decide (y189.Kind < 1))||(decide (4 < y189.Kind))) then
    (kj196 ((decide (y189.Kind < 1))||(decide (4 < y189.Kind))))
    else
    (bif (((decide (y189.Kind=1))||(decide (y189.Kind=4)))&&((decide (y189.Ge < 0))||(decide ((s.Covers.length:Int)≤y189.Ge)))) then
     (kj196 (((decide (y189.Kind=1))||(decide (y189.Kind=4)))&&((decide (y189.Ge < 0))||(decide ((s.Covers.length:Int)≤y189.Ge)))))
     else
     (kj196 ((!((decide (y189.Kind=1))||(decide (y189.Kind=4))))&&((decide (y189.Slot.G4 < 0))||(decide ((s.Columns.length:Int)≤y189.Slot.G4))))))) fun(j196:Bool)=>
   bif j196 then
   (some (Rp ([],2)))
   else
   (jp (fun kj201=>
     bif decide (3≤y189.Kind) then
     (kj201 2)
     else
     (kj201 1)) fun(j201:Int)=>
    jp (fun kj203=>
     bif ((decide (y189.Kind=1))||(decide (y189.Kind=4))) then
     (Jc s.Covers y189.Ge fun y205=>
      kj203 y205.Bay)
     else
     (Jc s.Columns y189.Slot.G4 fun y207=>
      kj203 y207.Bay)) fun(j203:Int)=>
    bnd (some (Hp.get s189 (J8.mk j201 j203) (Hh.mk 0 0 0 0))) fun v211=>
    bnd (some (Hp.get s189 (J8.mk j201 j203) (Hh.mk 0 0 0 0))) fun v212=>
    jp (fun kj213=>
     bif ((decide (y189.Kind=1))||(decide (y189.Kind=4))) then
     (Yn (v212.Covers+1) fun v215=>
      kj213 (v211.Lifts,v215))
     else
     (Yn (v211.Lifts+1) fun v216=>
      kj213 (v216,v212.Covers))) fun(j213:Int×Int)=>
    nx189 (Hp.put s189 (J8.mk j201 j203) (Hh.mk j203 j201 j213.1 j213.2))))
  (fun(s189:(Hp J8 Hh))=>
   eachM (fun(x228:J8×Hh) (s228:(List Hh)) nx228=>
    need (decide ((s228.length+[x228.2].length)*32≤140737488355328∧s228.length+[x228.2].length≤maxLen)) <|
    nx228 (s228++[x228.2]))
   (fun(s228:(List Hh))=>
    bnd (G14 s228 (fun z0 z1=>G3f z0 z1)) fun r235=>
    some (Rp (r235,0))) (Hp.l s189) []) l 0 (Hp.empty:Hp J8 Hh))
theorem Jf6 (s:H8) (l:List Move) (Rp:((List Hh)×Int)→Prop) (p:Prop) (h:Gd4 s l Rp=some p) (hp:p):Pure En 17 [.agg (H8.cs s),E2 l] (fun av=>∃ r,Rp r∧av=.tup [Ea r.1,G0 r.2]):=by
 unfold Gd4 at h
 refine H0 [.tmp 4,.tmp 5] Tryz.func17 O O (Jr fun hK1=>(JLh (.ptr 1020 0) (Jq (cs:=(H8.cs s)) 1020 O O O O O) O (JLh (Ea ([]:List Hh)) (Q2 4 O O) O (JLm (G0 0) O (G8 (hK1 (Gx [(1,E2 l),(2,Ed s)] [] 1020 rfl rfl rfl G rfl (by exact⟨.conv (.same rfl),.ptr,G⟩) (Js fun hK2=>?_))))))))
 refine Jr fun hK3=>(JLh (.agg (H8.cs s)) (Gi J1 O O O) O ?_)
 obtain⟨r4,hr4,h⟩:=Gf h
 refine JLh (BL r4) (Gq O (J1e.down s r4 hr4) Q23 ⟨O,O,G⟩) O (JLh (BL (!r4)) (R9 (b:=r4) O O) O (G8 (hK3 (JCc O h (fun h hb=>?_) (fun h hb=>?_)))))
 ·
  refine Jr fun hK5=>(JLh (Ea ([]:List Hh)) (Q2 4 O O) O (JLm (G0 2) O (G8 (hK5 (Gt (⟨[Ea ([]:List Hh),G0 2],[],G,O,⟨⟨_,O,.conv (.same O)⟩,⟨_,O,.conv (.same O)⟩,G⟩,O,([],2),Eq.mpr (Option.some.inj h) hp,O⟩))))))
 ·
  refine Gm (hK2 (Jr fun hK6=>(JLh (.mp 1026) (J70 1026 J8.kv Hh.av O O) O (JLm (.mp 1026) O (G8 (hK6 (Js fun hK7=>Jr fun hK8=>(JLm (E2 l) O (JLl Hr O O O fun hm20=>(JLm (G0 0) O (G8 (hK8 (Gk ?_)))))))))))))
  obtain⟨b189,kx189,hb189,hkx189,h⟩:=J4 h
  refine H6 (fun i189 (s189:(Hp J8 Hh))=>each b189 kx189 (List.drop i189 l) i189 s189=some p) (fun i189 s189=>[(2,Ed s),(6,.mp 1026),(19,E2 l),(20,Em l.length),(21,Em i189)]) (fun i189 s189=>[(1026,MP 93 J8.kv Hh.av s189)]) (fun i189=>l.length - i189) 0 (Hp.empty:Hp J8 Hh) h ⟨(by repeat' constructor),⟨⟨_,rfl,.map⟩,G⟩,rfl⟩ ?_
  clear h
  intro i189 s189 hi189 K189 e189
  refine Jr fun hK190=>(JLh (BL (decide ((i189:Int) < (l.length:Int)))) (Hy O O O) O (G8 (hK190 (Js fun hK191=>Gj O (fun hb=>?_) (fun hb=>?_)))))
  ·
   have hk189:=Je hb
   obtain⟨y189,nx189,hy189,hn189,h⟩:=Hs hi189 hk189
   replace h:=Y8 hb189 h
   refine Gm (hK191 (Js fun hK192=>Gk (Jr fun hK193=>(JLh (Eg y189) (Gs (f:=Move.av) (xs:=l) (y:=y189) O O O Hr hy189 O) O (JLh (.agg (Move.cs y189)) (Gi Gb1 O O O) O (JLh (.ptr 1021 0) (Ju 1021 6 G7a O O) O (Ja (u:=.junk) (J0 (u:=.agg (Move.cs y189)) (ds:=[U8 y189.Kind,G0 y189.H2,G0 y189.Slot.G4,G0 y189.Slot.Tier,U8 y189.Slot.Half,G0 y189.Ge]) J51 O O O O O O O O) (G8 (hK193 ?_)))))))))
   refine Gx [(2,Ed s),(6,.mp 1026),(8,Eg y189),(19,E2 l),(20,Em l.length),(21,Em i189)] [(1026,MP 93 J8.kv Hh.av s189)] 1021 rfl rfl rfl ⟨⟨_,rfl,.map⟩,G⟩ rfl (by repeat' (first | exact .ptr | constructor)) ?_
   refine Jr fun hK194=>(JLh (Eg y189) (Ga Ro O O O) O (JLh (U8 y189.Kind) (Gh J5 O O O) O (JLh (BL (decide (y189.Kind=1))) (Jk O O O) O (JLm (BL (decide (y189.Kind=1))) O (JLo (Eg y189) [] O .scf G (fun hc=>Ga Ro O O O) O (JLo (U8 y189.Kind) [29] O .scf ⟨Ua,G⟩ (fun hc=>Gh J5 O O O) O (JLo (BL (decide (y189.Kind=4))) [30] O .scf ⟨Ua,G⟩ (fun hc=>Jk O O O) O (JLh (BL ((decide (y189.Kind=1))||(decide (y189.Kind=4)))) (Y7 O O O O) O (JLm (BL ((decide (y189.Kind=1))||(decide (y189.Kind=4)))) O (G8 (hK194 (Js fun hK195=>Gk ?_))))))))))))
   obtain⟨kj196,hkj196,h⟩:=Zf h
   refine Rt (fun j196:Bool=>kj196 j196=some p) (fun j196=>[(2,Ed s),(6,.mp 1026),(8,Eg y189),(9,BL ((decide (y189.Kind=1))||(decide (y189.Kind=4)))),(19,E2 l),(20,Em l.length),(21,Em i189),(33,BL j196)]) (fun j196=>[(1026,MP 93 J8.kv Hh.av s189)]) (fun Kj196 ej196=>?_) ?_
   ·
    refine Jr fun hK197=>(JLh (Eg y189) (Ga Ro O O O) O (JLh (U8 y189.Kind) (Gh J5 O O O) O (JLh (BL (decide (y189.Kind < 1))) (Hy O O O) O (JLm (BL (decide (y189.Kind < 1))) O (JLo (Eg y189) [] O .scf G (fun hc=>Ga Ro O O O) O (JLo (U8 y189.Kind) [38] O .scf ⟨Ua,G⟩ (fun hc=>Gh J5 O O O) O (JLo (BL (decide (4 < y189.Kind))) [39] O .scf ⟨Ua,G⟩ (fun hc=>G4d O O O) O (JLh (BL ((decide (y189.Kind < 1))||(decide (4 < y189.Kind)))) (Y7 O O O O) O (JLm (BL ((decide (y189.Kind < 1))||(decide (4 < y189.Kind)))) O (G8 (hK197 (JCc O h (fun h hb=>?_) (fun h hb=>?_)))))))))))))
    ·
     refine Gm (ej196 _ _ ((decide (y189.Kind < 1))||(decide (4 < y189.Kind))) h ⟨(by repeat' constructor),⟨⟨_,rfl,.map⟩,G⟩,rfl⟩)
    ·
     refine Jr fun hK198=>(JLm (BL ((decide (y189.Kind=1))||(decide (y189.Kind=4)))) O (JLm (BL ((decide (y189.Kind=1))||(decide (y189.Kind=4)))) O (JLo (.dptr [G0 y189.Ge]) [] O .sct G (fun hc=>Ga G90 O O O) O (JLo (G0 y189.Ge) [44] O .sct ⟨Ua,G⟩ (fun hc=>Gh Gc O O O) O (JLo (BL (decide (y189.Ge < 0))) [45] O .sct ⟨Ua,G⟩ (fun hc=>Hy O O O) O (JLo (BL (decide (y189.Ge < 0))) [46] O .sct ⟨Ua,G⟩ (fun hc=>G5 O O) O (JLo (.dptr [G0 y189.Ge]) [] O .optf G (fun hc=>Ga G90 O O O) O (JLo (G0 y189.Ge) [48] O .optf ⟨Ua,G⟩ (fun hc=>Gh Gc O O O) O (JLo (.dptr [E4 s.Covers,G0 s.Light.Kilos,G0 s.Light.X,G0 s.Light.Y,G0 s.Light.Z,E7 s.Rows,E6 s.Frames,E8 s.Tanks,G0 s.G3.Tolerance,G0 s.G3.Trim,G0 s.G3.List_,G0 s.G3.Stability]) [] O .optf G (fun hc=>Ga Jp O O O) O (JLo (E4 s.Covers) [50] O .optf ⟨Ua,G⟩ (fun hc=>Gh Q4 O O O) O (JLo (Em s.Covers.length) [51] O .optf ⟨Ua,G⟩ (fun hc=>Qx (f:=Ge.av) (xs:=s.Covers) Hu O O) O (JLo (BL (decide ((s.Covers.length:Int)≤y189.Ge))) [49,52] O .optf ⟨Ua,Ua,G⟩ (fun hc=>G06 O O O) O ?_))))))))))))
     refine Gb (u:=BL ((decide (y189.Ge < 0))||(decide ((s.Covers.length:Int)≤y189.Ge)))) [(47,BL (decide (y189.Ge < 0))),(53,_)] O O O .sct ⟨.all id,.part,G⟩ (fun hc=>Y7 O O O O) ?_
     refine JLh (BL (((decide (y189.Kind=1))||(decide (y189.Kind=4)))&&((decide (y189.Ge < 0))||(decide ((s.Covers.length:Int)≤y189.Ge))))) (J3 O O O O) O (JLm (BL (((decide (y189.Kind=1))||(decide (y189.Kind=4)))&&((decide (y189.Ge < 0))||(decide ((s.Covers.length:Int)≤y189.Ge))))) O (G8 (hK198 (JCc O h (fun h hb=>?_) (fun h hb=>?_)))))
     ·
      refine Gm (ej196 _ _ (((decide (y189.Kind=1))||(decide (y189.Kind=4)))&&((decide (y189.Ge < 0))||(decide ((s.Covers.length:Int)≤y189.Ge)))) h ⟨(by repeat' constructor),⟨⟨_,rfl,.map⟩,G⟩,rfl⟩)
     ·
      refine G2 ?_
      refine JLm (BL ((decide (y189.Kind=1))||(decide (y189.Kind=4)))) O (JLh (BL (!((decide (y189.Kind=1))||(decide (y189.Kind=4))))) (R9 (b:=((decide (y189.Kind=1))||(decide (y189.Kind=4)))) O O) O (JLm (BL (!((decide (y189.Kind=1))||(decide (y189.Kind=4))))) O (JLo (.dptr ((Move.cs y189).drop 2)) [] O .sct G (fun hc=>Ga G91 O O O) O (JLo (.dptr ((Move.cs y189).drop 2)) [59] O .sct ⟨Ua,G⟩ (fun hc=>Ga Hk O O O) O (JLo (G0 y189.Slot.G4) [60] O .sct ⟨Ua,G⟩ (fun hc=>Gh Gc O O O) O (JLo (BL (decide (y189.Slot.G4 < 0))) [61] O .sct ⟨Ua,G⟩ (fun hc=>Hy O O O) O (JLo (BL (decide (y189.Slot.G4 < 0))) [62] O .sct ⟨Ua,G⟩ (fun hc=>G5 O O) O (JLo (.dptr ((Move.cs y189).drop 2)) [] O .optf G (fun hc=>Ga G91 O O O) O (JLo (.dptr ((Move.cs y189).drop 2)) [64] O .optf ⟨Ua,G⟩ (fun hc=>Ga Hk O O O) O (JLo (G0 y189.Slot.G4) [65] O .optf ⟨Ua,G⟩ (fun hc=>Gh Gc O O O) O (JLo (Ed s) [] O .optf G (fun hc=>Ga Hi O O O) O (JLo (E5 s.Columns) [67] O .optf ⟨Ua,G⟩ (fun hc=>Gh Ho O O O) O (JLo (Em s.Columns.length) [68] O .optf ⟨Ua,G⟩ (fun hc=>Qx (f:=G4.av) (xs:=s.Columns) H7 O O) O ?_)))))))))))))
      refine JLo (BL (decide ((s.Columns.length:Int)≤y189.Slot.G4))) [66,69] O .optf ⟨Ua,Ua,G⟩ (fun hc=>G06 O O O) O (Gb (u:=BL ((decide (y189.Slot.G4 < 0))||(decide ((s.Columns.length:Int)≤y189.Slot.G4)))) [(63,BL (decide (y189.Slot.G4 < 0))),(70,_)] O O O .sct ⟨.all id,.part,G⟩ (fun hc=>Y7 O O O O) ?_)
      refine JLh (BL ((!((decide (y189.Kind=1))||(decide (y189.Kind=4))))&&((decide (y189.Slot.G4 < 0))||(decide ((s.Columns.length:Int)≤y189.Slot.G4))))) (J3 O O O O) O (JLm (BL ((!((decide (y189.Kind=1))||(decide (y189.Kind=4))))&&((decide (y189.Slot.G4 < 0))||(decide ((s.Columns.length:Int)≤y189.Slot.G4))))) O (G8 (ej196 _ _ ((!((decide (y189.Kind=1))||(decide (y189.Kind=4))))&&((decide (y189.Slot.G4 < 0))||(decide ((s.Columns.length:Int)≤y189.Slot.G4)))) h ⟨(by repeat' constructor),⟨⟨_,rfl,.map⟩,G⟩,rfl⟩)))
   ·intro j196 h
    replace h:=app1 hkj196 h
    refine JCc O h (fun h hb=>?_) (fun h hb=>?_)
    ·
     refine Jr fun hK199=>(JLh (Ea ([]:List Hh)) (Q2 4 O O) O (JLm (G0 2) O (G8 (hK199 (Gt (⟨[Ea ([]:List Hh),G0 2],[],G,O,⟨⟨_,O,.conv (.same O)⟩,⟨_,O,.conv (.same O)⟩,G⟩,O,([],2),Eq.mpr (Option.some.inj h) hp,O⟩))))))
    ·
     refine Gm (hK195 (Jr fun hK200=>(JLh (.agg [G0 0,G0 1,G0 0,G0 0]) (Ji (cs:=[G0 0,G0 1,G0 0,G0 0]) [(0,1),(1,1),(2,1),(3,1)] [G0 0,G0 0,G0 0,G0 0] [.int .i64 0,.int .i64 0,.int .i64 0,.int .i64 0] H40 Hca ⟨.inl O,.inl O,.inl O,.inl O,G⟩ O O) O (JLh (.ptr 1022 0) (Ju 1022 4 H22 O O) O (Ja (u:=.junk) (J0 (u:=.agg [G0 0,G0 1,G0 0,G0 0]) (ds:=[G0 0,G0 1,G0 0,G0 0]) J50 O O O O O O O O) (G8 (hK200 ?_)))))))
     obtain⟨kj201,hkj201,h⟩:=Zf h
     refine Rt (fun j201:Int=>kj201 j201=some p) (fun j201=>[(2,Ed s),(6,.mp 1026),(8,Eg y189),(9,BL ((decide (y189.Kind=1))||(decide (y189.Kind=4)))),(10,.ptr 1022 0),(19,E2 l),(20,Em l.length),(21,Em i189)]) (fun j201=>[(1026,MP 93 J8.kv Hh.av s189),(1022,.box 72 [G0 0,G0 j201,G0 0,G0 0])]) (fun Kj201 ej201=>?_) ?_
     ·
      refine Jr fun hK202=>(JLh (Eg y189) (Ga Ro O O O) O (JLh (U8 y189.Kind) (Gh J5 O O O) O (JLh (BL (decide (3≤y189.Kind))) (G06 O O O) O (G8 (hK202 (JCc O h (fun h hb=>?_) (fun h hb=>?_)))))))
      ·
       refine G2 (JLh (.ptr 1022 1) (Qp H16 O O) O (Ja (u:=.junk) (J0 (u:=G0 2) (ds:=[G0 0,G0 2,G0 0,G0 0]) G6f O O O O O O O O) (G8 (ej201 _ _ 2 h ⟨(by repeat' constructor),⟨⟨_,rfl,.map⟩,⟨_,rfl,.boxL rfl (by repeat' constructor)⟩,G⟩,rfl⟩))))
      ·
       refine Gm (ej201 _ _ 1 h ⟨(by repeat' constructor),⟨⟨_,rfl,.map⟩,⟨_,rfl,.boxL rfl (by repeat' constructor)⟩,G⟩,rfl⟩)
     ·intro j201 h
      replace h:=app1 hkj201 h
      obtain⟨kj203,hkj203,h⟩:=Zf h
      refine Rt (fun j203:Int=>kj203 j203=some p) (fun j203=>[(2,Ed s),(6,.mp 1026),(9,BL ((decide (y189.Kind=1))||(decide (y189.Kind=4)))),(10,.ptr 1022 0),(19,E2 l),(20,Em l.length),(21,Em i189)]) (fun j203=>[(1026,MP 93 J8.kv Hh.av s189),(1022,.box 72 [G0 j203,G0 j201,G0 0,G0 0])]) (fun Kj203 ej203=>?_) ?_
      ·
       refine Jr fun hK204=>(JLm (BL ((decide (y189.Kind=1))||(decide (y189.Kind=4)))) O (G8 (hK204 (JCc O h (fun h hb=>?_) (fun h hb=>?_)))))
       ·
        refine G2 (JLh (.dptr [E4 s.Covers,G0 s.Light.Kilos,G0 s.Light.X,G0 s.Light.Y,G0 s.Light.Z,E7 s.Rows,E6 s.Frames,E8 s.Tanks,G0 s.G3.Tolerance,G0 s.G3.Trim,G0 s.G3.List_,G0 s.G3.Stability]) (Ga Jp O O O) O (JLh (E4 s.Covers) (Gh Q4 O O O) O (JLh (.dptr [G0 y189.Ge]) (Ga G90 O O O) O (JLh (G0 y189.Ge) (Gh Gc O O O) O ?_))))
        obtain⟨m206,y205,hm206,hy205,h⟩:=R1 h
        refine JLh (.dptr [G0 y205.Bay,E1 y205.Rows]) (Gs (f:=Ge.av) (xs:=s.Covers) (y:=y205) O O O Hu hy205 hm206) O (JLh (.dptr [G0 y205.Bay,E1 y205.Rows]) (Ga Ya O O O) O (JLh (G0 y205.Bay) (Gh Gc O O O) O (JLh (.ptr 1022 0) (Qp Gc2 O O) O (Ja (u:=.junk) (J0 (u:=G0 y205.Bay) (ds:=[G0 y205.Bay,G0 j201,G0 0,G0 0]) G6f O O O O O O O O) (G8 (ej203 _ _ y205.Bay h ⟨(by repeat' constructor),⟨⟨_,rfl,.map⟩,⟨_,rfl,.boxL rfl (by repeat' constructor)⟩,G⟩,rfl⟩))))))
       ·
        refine G2 (JLh (Ed s) (Ga Hi O O O) O (JLh (E5 s.Columns) (Gh Ho O O O) O (JLh (.dptr ((Move.cs y189).drop 2)) (Ga G91 O O O) O (JLh (.dptr ((Move.cs y189).drop 2)) (Ga Hk O O O) O (JLh (G0 y189.Slot.G4) (Gh Gc O O O) O ?_)))))
        obtain⟨m208,y207,hm208,hy207,h⟩:=R1 h
        refine JLh (Ef y207) (Gs (f:=G4.av) (xs:=s.Columns) (y:=y207) O O O H7 hy207 hm208) O (JLh (Ef y207) (Ga Rr O O O) O (JLh (G0 y207.Bay) (Gh Gc O O O) O (JLh (.ptr 1022 0) (Qp Gc2 O O) O (Ja (u:=.junk) (J0 (u:=G0 y207.Bay) (ds:=[G0 y207.Bay,G0 j201,G0 0,G0 0]) G6f O O O O O O O O) (G8 (ej203 _ _ y207.Bay h ⟨(by repeat' constructor),⟨⟨_,rfl,.map⟩,⟨_,rfl,.boxL rfl (by repeat' constructor)⟩,G⟩,rfl⟩))))))
      ·intro j203 h
       replace h:=app1 hkj203 h
       refine Jr fun hK209=>(JLh (.ptr 1022 1) (Qp H16 O O) O (JLh (G0 j201) (Z7 Gc O O O O) O (JLh (.ptr 1022 0) (Qp Gc2 O O) O (JLh (G0 j203) (Z7 Gc O O O O) O (JLh (.agg [G0 j201,G0 j203]) (J71 (cs:=[G0 j201,G0 j203]) [.int .i64 0,.int .i64 0] tf_arr_94 Qbf O O) O (JLh (.ptr 1023 0) (Ju 1023 2 Q80 O O) O (Ja (u:=.junk) (J0 (u:=.agg [G0 j201,G0 j203]) (ds:=[G0 j201,G0 j203]) Qc2 O O O O O O O O) (G8 (hK209 ?_)))))))))
       refine Gx [(2,Ed s),(6,.mp 1026),(9,BL ((decide (y189.Kind=1))||(decide (y189.Kind=4)))),(10,.ptr 1022 0),(11,.dptr [G0 j201,G0 j203]),(19,E2 l),(20,Em l.length),(21,Em i189)] [(1026,MP 93 J8.kv Hh.av s189),(1022,.box 72 [G0 j203,G0 j201,G0 0,G0 0])] 1023 rfl rfl rfl ⟨⟨_,rfl,.map⟩,⟨_,rfl,.boxEq rfl rfl⟩,G⟩ rfl (by repeat' (first | exact .ptr | constructor)) (Js fun hK210=>?_)
       refine G9c (l':=[(2,Ed s),(6,.mp 1026),(9,BL ((decide (y189.Kind=1))||(decide (y189.Kind=4)))),(10,.ptr 1022 0),(11,.dptr [G0 j201,G0 j203]),(19,E2 l),(20,Em l.length),(21,Em i189)]) (L':=[(1026,MP 93 J8.kv Hh.av s189),(1022,.box 72 [G0 j203,G0 j201,G0 0,G0 0])]) ⟨(by repeat' constructor),⟨⟨_,rfl,.map⟩,⟨_,rfl,.boxL rfl (by repeat' constructor)⟩,G⟩,rfl⟩ ?_
       obtain⟨v211,hv211,h⟩:=Gf h
       obtain⟨v212,hv212,h⟩:=Gf h
       refine Jt [9,11] [0,0,0,0,0,0,0,0,0,0,1,0] [0,0,0,0,1,1,1,1,0,0,1,0] [[(1026,MP 93 J8.kv Hh.av s189),(1022,.box 72 [G0 j203,G0 j201,G0 0,G0 0])],((1022,.box 72 [G0 j203,G0 j201,G0 v211.Lifts,G0 0])::[(1026,MP 93 J8.kv Hh.av s189),(1022,.box 72 [G0 j203,G0 j201,G0 0,G0 0])]),((1022,.box 72 [G0 j203,G0 j201,G0 v211.Lifts,G0 v212.Covers])::((1022,.box 72 [G0 j203,G0 j201,G0 v211.Lifts,G0 0])::[(1026,MP 93 J8.kv Hh.av s189),(1022,.box 72 [G0 j203,G0 j201,G0 0,G0 0])]))] Jb (by kernel_rfl) rfl rfl ?_
       refine Gd (u:=.mp 1026) O O ⟨Gr (G5 O O) O,G⟩ (Gd (u:=.agg [G0 j201,G0 j203]) O O ⟨Gr (Gi J2c O O O) O,G⟩ (Gd (u:=.agg (Hh.cs v211)) O O ⟨Gr (((Option.some.inj hv211) ▸ H79 (av:=Hh.av) (m:=s189) (a:=(J8.mk j201 j203)) (Hh.mk 0 0 0 0) (.agg #[.int .i64 0,.int .i64 0,.int .i64 0,.int .i64 0]) O O O O tk_94 Hae Q06 O)) O,G⟩ (Gd (u:=G0 v211.Lifts) O O ⟨Gr (Q64 Qcb O O O) O,G⟩ (Gd (u:=.mp 1026) O O ⟨Gr (G5 O O) O,Gr (G5 O O) O,G⟩ (Gd (u:=.agg [G0 j201,G0 j203]) O O ⟨Gr (Gi J2c O O O) O,Gr (Gi J2c O O O) O,G⟩ (Gd (u:=.agg (Hh.cs v212)) O O ⟨Gr (((Option.some.inj hv212) ▸ H79 (av:=Hh.av) (m:=s189) (a:=(J8.mk j201 j203)) (Hh.mk 0 0 0 0) (.agg #[.int .i64 0,.int .i64 0,.int .i64 0,.int .i64 0]) O O O O tk_94 Hae Q06 O)) O,Gr (((Option.some.inj hv212) ▸ H79 (av:=Hh.av) (m:=s189) (a:=(J8.mk j201 j203)) (Hh.mk 0 0 0 0) (.agg #[.int .i64 0,.int .i64 0,.int .i64 0,.int .i64 0]) O O O O tk_94 Hae Q06 O)) O,G⟩ (Gd (u:=G0 v212.Covers) O O ⟨Gr (Q64 Q0c O O O) O,Gr (Q64 Q0c O O O) O,G⟩ (Gd (u:=.ptr 1022 2) O O ⟨Gr (Qp G8f O O) O,G⟩ (Q7e (u:=.junk) O O O O (Gr (J0 (u:=G0 v211.Lifts) (ds:=[G0 j203,G0 j201,G0 v211.Lifts,G0 0]) G6f O O O O O O O O) O) (Gd (u:=.ptr 1022 3) O O ⟨Gr (Qp G8e O O) O,G⟩ (Q7e (u:=.junk) O O O O (Gr (J0 (u:=G0 v212.Covers) (ds:=[G0 j203,G0 j201,G0 v211.Lifts,G0 v212.Covers]) G6f O O O O O O O O) O) (Ru ?_))))))))))))
       refine hK210 ?_
       obtain⟨kj213,hkj213,h⟩:=Zf h
       refine Rt (fun j213:Int×Int=>kj213 j213=some p) (fun j213=>[(2,Ed s),(6,.mp 1026),(10,.ptr 1022 0),(11,.dptr [G0 j201,G0 j203]),(19,E2 l),(20,Em l.length),(21,Em i189)]) (fun j213=>[(1026,MP 93 J8.kv Hh.av s189),(1022,.box 72 [G0 j203,G0 j201,G0 j213.1,G0 j213.2])]) (fun Kj213 ej213=>?_) ?_
       ·
        refine Jr fun hK214=>(JLm (BL ((decide (y189.Kind=1))||(decide (y189.Kind=4)))) O (G8 (hK214 (JCc O h (fun h hb=>?_) (fun h hb=>?_)))))
        ·
         refine G2 (JLh (.ptr 1022 3) (Qp G8e O O) O (JLh (G0 v212.Covers) (Z7 Gc O O O O) O ?_))
         obtain⟨v215,hv215,h⟩:=Jh h
         refine JLh (G0 v215) (Hx hv215 O O O) O (JLh (.ptr 1022 3) (Qp G8e O O) O (Ja (u:=.junk) (J0 (u:=G0 v215) (ds:=[G0 j203,G0 j201,G0 v211.Lifts,G0 v215]) G6f O O O O O O O O) (G8 (ej213 _ _ (v211.Lifts,v215) h ⟨(by repeat' constructor),⟨⟨_,rfl,.map⟩,⟨_,rfl,.boxL rfl (by repeat' constructor)⟩,G⟩,rfl⟩))))
        ·
         refine G2 (JLh (.ptr 1022 2) (Qp G8f O O) O (JLh (G0 v211.Lifts) (Z7 Gc O O O O) O ?_))
         obtain⟨v216,hv216,h⟩:=Jh h
         refine JLh (G0 v216) (Hx hv216 O O O) O (JLh (.ptr 1022 2) (Qp G8f O O) O (Ja (u:=.junk) (J0 (u:=G0 v216) (ds:=[G0 j203,G0 j201,G0 v216,G0 v212.Covers]) G6f O O O O O O O O) (G8 (ej213 _ _ (v216,v212.Covers) h ⟨(by repeat' constructor),⟨⟨_,rfl,.map⟩,⟨_,rfl,.boxL rfl (by repeat' constructor)⟩,G⟩,rfl⟩))))
       ·intro j213 h
        replace h:=app1 hkj213 h
        refine G2 (JLm (.mp 1026) O (JLh (.agg [G0 j201,G0 j203]) (Gi J2c O O O) O (JLh (.agg [G0 j203,G0 j201,G0 j213.1,G0 j213.2]) (A_loadAggL H0a O O O O) O (Ja (u:=.junk) (J9b (m:=s189) (a:=(J8.mk j201 j203)) (v:=(Hh.mk j203 j201 j213.1 j213.2)) O O O O O O tk_94 Hae) (G8 (hK192 (G2 (JLh (G0 ((i189+1:Nat):Int)) (Hx (Hc hk189 hm20) O O O) O (JLm (G0 ((i189+1:Nat):Int)) O (G8 (e189 _ _ (i189+1) (Hp.put s189 (J8.mk j201 j203) (Hh.mk j203 j201 j213.1 j213.2)) (app1 hn189 h) (by omega) ⟨(by repeat' constructor),⟨⟨_,rfl,.map⟩,G⟩,rfl⟩)))))))))))
  ·
   have h:=app1 hkx189 (Ht hi189 (H9 hb))
   refine Hd (hK7 (Jr fun hK217=>(JLh (.vec 1024 (([]:List Hh).length) 4 (([]:List Hh).length)) (Hac 1024 72 4 O O O) O (G8 (hK217 (Js fun hK218=>Jr fun hK219=>(JLm (.mp 1026) O (JLh (.it 1027) (Qbb 1027 (m:=s189) O O O O Hae) O (G8 (hK219 (Gk ?_)))))))))))
   obtain⟨b228,kx228,hb228,hkx228,h⟩:=eachM_in h
   refine Qb7 (Hp.size s189) (fun i228 (s228:(List Hh))=>MInv b228 kx228 (Hp.l s189) i228 s228) (fun i228 s228=>[(12,.vec 1024 s228.length 4 s228.length),(125,.it 1027)]) (fun i228 s228=>[(1026,MP 93 J8.kv Hh.av s189),(1024,.vec 72 4 s228.length (s228.map Hh.av)),(1027,.iter 1026 (Hp.size s189) i228)]) [] (MInv.start h hp) ⟨⟨.same O,.same O,G⟩,⟨⟨_,O,.map⟩,⟨_,O,.vec⟩,⟨_,O,.iter O⟩,G⟩,O⟩ ?_
   clear h hp
   intro i228 s228 hi228 K228 e228
   refine Jr fun hK229=>H00 O O O (A_nextM (m:=s189) O O O O) ?_
   intro u_ L_ hn_
   rcases hn_ with ⟨q228,x228,he228,hs228,rfl,rfl⟩ | ⟨ha228,rfl,rfl⟩
   ·
    obtain⟨o228,h,ho1_228,ho2_228⟩:=hi228.step he228 hs228
    replace h:=H9f hb228 h
    refine JLh (BL true) (Jn O O O) O (G8 (hK229 (Js fun hK230=>Qb8 O (Gm (hK230 (Gk (Jr fun hK231=>(JLh (.tup [.agg [G0 x228.1.e0,G0 x228.1.e1],.agg (Hh.cs x228.2)]) (Qbe (kv:=J8.kv) (av:=Hh.av) (m:=s189) (q:=q228) (seen:=i228) (e:=x228) O O O O he228) O (JLh (.agg (Hh.cs x228.2)) (Jn O O O) O (JLh (.ptr 1025 0) (Ju 1025 4 H22 O O) O (Ja (u:=.junk) (J0 (u:=.agg (Hh.cs x228.2)) (ds:=[G0 x228.2.Bay,G0 x228.2.Phase,G0 x228.2.Lifts,G0 x228.2.Covers]) J50 O O O O O O O O) (G8 (hK231 ?_)))))))))))))
    refine Gx [(12,.vec 1024 s228.length 4 s228.length),(14,Ek x228.2),(125,.it 1027)] [(1026,MP 93 J8.kv Hh.av s189),(1024,.vec 72 4 s228.length (s228.map Hh.av)),(1027,.iter 1026 (Hp.size s189) (i228++[q228]))] 1025 rfl rfl rfl ⟨⟨_,rfl,.map⟩,⟨_,rfl,.vec⟩,⟨_,rfl,.iter rfl⟩,G⟩ rfl (by exact⟨.conv (.same rfl),.ptr,.conv (.same rfl),G⟩) (G2 (JLm (.vec 1024 s228.length 4 s228.length) O (JLh (.agg (Hh.cs x228.2)) (Gi H0a O O O) O (JLh (Ea [x228.2]) (Hv (xs:=[.agg (Hh.cs x228.2)]) O ⟨O,O,G⟩ G18 H22 O O O O) O ?_))))
    obtain⟨ha232,h⟩:=Hz h
    refine JLh (.vec 1024 ((s228++[x228.2]).length) 4 ((s228++[x228.2]).length)) (H15 (f:=Hh.av) (xs:=s228) (ys:=[x228.2]) (ver:=s228.length) (ver1:=(s228++[x228.2]).length) rfl rfl rfl rfl G18 Q0d ha232 (fun _=>rfl) (.inl rfl) (by simp)) O (JLm (.vec 1024 ((s228++[x228.2]).length) 4 ((s228++[x228.2]).length)) O (G8 (e228 _ _ (i228++[q228]) (s228++[x228.2]) (ho2_228 _ (Option.some.inj h).symm) (unseen_lt (List.getElem?_eq_some_iff.1 he228).1 hs228) ⟨⟨.same O,.same O,G⟩,⟨⟨_,O,.map⟩,⟨_,O,.vec⟩,⟨_,O,.iter O⟩,G⟩,O⟩)))
   ·
    obtain⟨p_,h,hp⟩:=hi228.done ha228
    replace h:=app1 hkx228 h
    refine JLh (BL false) (Jn O O O) O (G8 (hK229 (Js fun hK233=>Q5d O (Hd (hK218 (Jr fun hK234=>(JLm (.vec 1024 s228.length 4 s228.length) O ?_)))))))
    obtain⟨r235,hr235,h⟩:=Gf h
    refine H00 O O O (H2e (args:=[.vec 1024 s228.length 4 s228.length,.fn 40 []]) (L0:=[(1024,.vec 72 4 s228.length (s228.map Hh.av))]) (u:=fun p=>.vec 1024 p 4 r235.length) (Lr:=fun p=>[(1024,.vec 72 4 p (r235.map Hh.av))]) O (Geb s228 s228.length (fun z0 z1=>G3f z0 z1) 40 [] Qe8 O (fun z0 z1 q hq=>J96 z0 z1 q hq) r235 hr235) Qe9 ⟨.inl O,O,.inl O,O,G⟩ ⟨O,G⟩ O (fun _=>O)) ?_
    rintro u_ L_ ⟨v236,rfl,rfl⟩
    refine JLm (.vec 1024 v236 4 r235.length) O (JLm (G0 0) O (G8 (hK234 (H77 [(4,Ea r235),(5,G0 0)] [] 1024 rfl rfl G rfl (by exact⟨.vec,.conv (.same rfl),G⟩) (Gt (⟨[Ea r235,G0 0],[],G,O,⟨⟨_,O,.conv (.same O)⟩,⟨_,O,.conv (.same O)⟩,G⟩,O,(r235,0),Eq.mpr (Option.some.inj h) hp,O⟩))))))
theorem Jf7 (S_:(H8)→(List Move)→Option ((List Hh)×Int)) (hS_:∀ s l r,S_ s l=some r→∃ p:Prop,Gd4 s l (fun r_=>r_=r)=some p∧p) (s:H8) (l:List Move) (r:(List Hh)×Int) (h:S_ s l=some r):Pure En 17 [.agg (H8.cs s),E2 l] (·=.tup [Ea r.1,G0 r.2]):=by
 obtain⟨p,h1,h2⟩:=hS_ s l r h
 exact(Jf6 s l _ p h1 h2).monoP (fun av hh=>by obtain⟨r_,rfl,ha⟩:=hh; exact ha)

def Gfa (l:List G6):Option (List Slot):=
 each (fun y17 i17 (s17:(List Slot)) nx17=>
  need (decide ((s17.length+[y17.Slot].length)*24≤140737488355328∧s17.length+[y17.Slot].length≤maxLen)) <|
  nx17 (s17++[y17.Slot]))
 (fun(s17:(List Slot))=>
  some s17) l 0 []
theorem Q52 (l:List G6) (r:(List Slot)) (h:Gfa l=some r):Pure En 80 [E0 l] (·=E9 r):=by
 unfold Gfa at h
 refine H0 [.tmp 2] Tryz.func80 O O (Jr fun hK1=>(JLh (E9 ([]:List Slot)) (Q2 3 O O) O (G8 (hK1 (Jr fun hK2=>(JLh (OW 1116 3 Slot.av ([]:List Slot)) (H02 1116 60 3 O O O) O (G8 (hK2 (Js fun hK3=>Jr fun hK4=>(JLm (E0 l) O (JLl Gz O O O fun hm7=>(JLm (G0 0) O (G8 (hK4 (Gk ?_)))))))))))))))
 obtain⟨b17,kx17,hb17,hkx17,h⟩:=J4 h
 refine H6 (fun i17 (s17:(List Slot))=>each b17 kx17 (List.drop i17 l) i17 s17=some r) (fun i17 s17=>[(3,OW 1116 3 Slot.av s17),(6,E0 l),(7,Em l.length),(8,Em i17)]) (fun i17 s17=>[(1116,.spare 60 3 s17.length s17.length)]) (fun i17=>l.length - i17) 0 [] h ⟨(by repeat' constructor),⟨⟨_,rfl,.same⟩,G⟩,rfl⟩ ?_
 clear h
 intro i17 s17 hi17 K17 e17
 refine Jr fun hK18=>(JLh (BL (decide ((i17:Int) < (l.length:Int)))) (Hy O O O) O (G8 (hK18 (Js fun hK19=>Gj O (fun hb=>?_) (fun hb=>?_)))))
 ·
  have hk17:=Je hb
  obtain⟨y17,nx17,hy17,hn17,h⟩:=Hs hi17 hk17
  replace h:=Y8 hb17 h
  refine Gm (hK19 (Js fun hK20=>Gk (Jr fun hK21=>(JLh (Ee y17) (Gs (f:=G6.av) (xs:=l) (y:=y17) O O O Gz hy17 O) O (JLh (.agg (G6.cs y17)) (Gi Qv O O O) O (JLh (.ptr 1117 0) (Ju 1117 4 Rv O O) O (Ja (u:=.junk) (J0 (u:=.agg (G6.cs y17)) (ds:=[G0 y17.H2,G0 y17.Slot.G4,G0 y17.Slot.Tier,U8 y17.Slot.Half]) Z4 O O O O O O O O) (G8 (hK21 (Gx [(3,OW 1116 3 Slot.av s17),(5,Ee y17),(6,E0 l),(7,Em l.length),(8,Em i17)] [(1116,.spare 60 3 s17.length s17.length)] 1117 rfl rfl rfl ⟨⟨_,rfl,.same⟩,G⟩ rfl (by repeat' (first | exact .ptr | constructor)) (G2 ?_)))))))))))
  refine JLm (OW 1116 3 Slot.av s17) O (JLh (.dptr ((G6.cs y17).drop 1)) (Ga Hg O O O) O (JLh (.agg ((G6.cs y17).drop 1)) (Gi Jg O O O) O (JLh (E9 [y17.Slot]) (Hv (xs:=[.agg ((G6.cs y17).drop 1)]) O ⟨O,O,G⟩ Yu Gde O O O O) O ?_)))
  obtain⟨ha22,h⟩:=Hz h
  refine JLh (OW 1116 3 Slot.av (s17++[y17.Slot])) (Y0 (f:=Slot.av) (xs:=s17) (ys:=[y17.Slot]) O O O O Yu Q0e ha22 (fun _=>O) (.inl O) O) O (JLm (OW 1116 3 Slot.av (s17++[y17.Slot])) O (G8 (hK20 (G2 (JLh (G0 ((i17+1:Nat):Int)) (Hx (Hc hk17 hm7) O O O) O (JLm (G0 ((i17+1:Nat):Int)) O (G8 (e17 _ _ (i17+1) (s17++[y17.Slot]) (app1 hn17 h) (by omega) ⟨(by repeat' constructor),⟨⟨_,rfl,.same⟩,G⟩,rfl⟩))))))))
 ·
  have h:=app1 hkx17 (Ht hi17 (H9 hb))
  refine Hd (hK3 (Jr fun hK23=>(JLm (OW 1116 3 Slot.av s17) O (JLm (OW 1116 3 Slot.av s17) O (G8 (hK23 (Gt (fin1l (fun r:(List Slot)=>(E9 r:AV)) h))))))))

def Gce (b:H2) (p1:Int):Option Bool:=
 some (decide (b.ID=p1))
theorem Jf0 (b:H2) (p1:Int) (r:Bool) (h:Gce b p1=some r):Pure En 127 [.agg (H2.cs b),.dptr [G0 p1]] (·=BL r):=by
 unfold Gce at h
 refine H0 [.tmp 3] Tryz.func127 O O (Jr fun hK1=>(JLh (.ptr 1173 0) (Jq (cs:=(H2.cs b)) 1173 O O O O O) O (JLm (BL false) O (G8 (hK1 (Gx [(1,.dptr [G0 p1]),(2,Eh b)] [] 1173 rfl rfl rfl G rfl (by exact⟨.conv (.same rfl),.ptr,G⟩) (Jr fun hK2=>(JLh (Eh b) (Ga H9a O O O) O (JLh (G0 b.ID) (Gh Gc O O O) O (JLh (G0 p1) (Gh Gc O O O) O (JLh (BL (decide (b.ID=p1))) (Jk O O O) O (JLm (BL (decide (b.ID=p1))) O (G8 (hK2 (Gt (fin1 BL h))))))))))))))))

def G1b (s:List H2) (f:H2→Option Bool):Option Int:=
 each (fun y20 i20 (s20:Unit) nx20=>
  bnd (f y20) fun r26=>
  bif r26 then
  (some (i20:Int))
  else
  (nx20 ()))
 (fun(s20:Unit)=>
  some (-1)) s 0 ()
theorem H4b (s:List H2) (f:H2→Option Bool) (f_f:FuncId) (f_c:List AV) (f_B:Hb En f_f=true) (f_d:Zt (fun _=>false) f_c=true) (f_w:∀ a0 q,f a0=some q→Pure En f_f ([.agg (H2.cs a0)]++f_c) (·=BL q)) (r:Int) (h:G1b s f=some r):Pure En 126 [E3 s,.fn f_f f_c] (·=G0 r):=by
 unfold G1b at h
 refine H0 [.tmp 4] Tryz.func126 O O (Jr fun hK1=>(JLm (G0 0) O (G8 (hK1 (Js fun hK2=>Jr fun hK3=>(JLm (E3 s) O (JLl Jy O O O fun hm7=>(JLm (G0 0) O (G8 (hK3 (Gk ?_)))))))))))
 obtain⟨b20,kx20,hb20,hkx20,h⟩:=J4 h
 refine H6 (fun i20 (s20:Unit)=>each b20 kx20 (List.drop i20 s) i20 s20=some r) (fun i20 s20=>[(0,E3 s),(1,.fn f_f f_c),(7,Em s.length),(8,Em i20)]) (fun i20 s20=>[]) (fun i20=>s.length - i20) 0 () h ⟨⟨.same O,.same (Jf _ _ f_d),.same O,.same O,G⟩,G,O⟩ ?_
 clear h
 intro i20 s20 hi20 K20 e20
 refine Jr fun hK21=>(JLh (BL (decide ((i20:Int) < (s.length:Int)))) (Hy O O O) O (G8 (hK21 (Js fun hK22=>Gj O (fun hb=>?_) (fun hb=>?_)))))
 ·
  have hk20:=Je hb
  obtain⟨y20,nx20,hy20,hn20,h⟩:=Hs hi20 hk20
  replace h:=Y8 hb20 h
  refine Gm (hK22 (Js fun hK23=>Gk (Jr fun hK24=>(JLm (Em i20) O (JLm (Em i20) O (G8 (hK24 (Jr fun hK25=>(JLm (.fn f_f f_c) O (JLm (E3 s) O (JLm (Em i20) O (JLh (Eh y20) (Gs (f:=H2.av) (xs:=s) (y:=y20) O O O Jy hy20 O) O (JLh (.agg (H2.cs y20)) (Gi G5b O O O) O ?_)))))))))))))
  obtain⟨r26,hr26,h⟩:=Gf h
  refine JLh (BL r26) (Gaf (args:=[.agg (H2.cs y20)]) (caps:=f_c) O O (f_w y20 _ hr26) f_B ⟨O,O,G⟩ f_d) O (G8 (hK25 (JCc O h (fun h hb=>?_) (fun h hb=>?_))))
  ·
   refine Jr fun hK27=>(JLm (Em i20) O (JLm (Em i20) O (G8 (hK27 (Gt (fin1 G0 h))))))
  ·
   refine Gm (hK23 (G2 (JLh (G0 ((i20+1:Nat):Int)) (Hx (Hc hk20 hm7) O O O) O (JLm (G0 ((i20+1:Nat):Int)) O (G8 (e20 _ _ (i20+1) () (app1 hn20 h) (by omega) ⟨⟨.same rfl,.same (Jf _ _ f_d),.same rfl,.same rfl,G⟩,G,rfl⟩))))))
 ·
  have h:=app1 hkx20 (Ht hi20 (H9 hb))
  refine Hd (hK2 (Jr fun hK28=>(JLm (G0 (-1)) O (G8 (hK28 (Gt (fin1 G0 h)))))))

def Ge9 (boxes:List H2) (id_:Int):Option (H2×Bool):=
 bnd (G1b boxes (fun z0=>Gce z0 id_)) fun r3=>
 bif decide (r3 < 0) then
 (some ((H2.mk 0 ByteArray.empty 0 false 0 0 0 0 false),false))
 else
 (Jc boxes r3 fun y8=>
  some (y8,true))
theorem J4c (boxes:List H2) (id_:Int) (r:H2×Bool) (h:Ge9 boxes id_=some r):Pure En 81 [E3 boxes,G0 id_] (·=.tup [.agg (H2.cs r.1),BL r.2]):=by
 unfold Ge9 at h
 refine H0 [.cell 4 58,.tmp 5] Tryz.func81 O O (Jr fun hK1=>(JLh (.ptr 1118 0) (Jq (cs:=[G0 id_]) 1118 O O O O O) O (JLh (.ptr 1119 0) (G15 1119 [G0 0,ST ByteArray.empty,U8 0,BL false,G0 0,G0 0,G0 0,U8 0,BL false] [.int .i64 0,.string ByteArray.empty,.int .u8 0,.bool false,.int .i64 0,.int .i64 0,.int .i64 0,.int .u8 0,.bool false] G9e ⟨.inl O,.inl O,.inl O,.inl O,.inl O,.inl O,.inl O,.inl O,.inl O,G⟩ O O) O (JLm (BL false) O (G8 (hK1 (Gx [(0,E3 boxes),(3,.dptr [G0 id_]),(4,.ptr 1119 0)] [(1119,.box 58 [G0 0,ST ByteArray.empty,U8 0,BL false,G0 0,G0 0,G0 0,U8 0,BL false])] 1118 rfl rfl rfl ⟨⟨_,rfl,.boxEq rfl rfl⟩,G⟩ rfl (by exact⟨.conv (.same rfl),.ptr,.conv (.same rfl),G⟩) ?_)))))))
 refine Jr fun hK2=>(JLm (E3 boxes) O (JLh (.fn 127 [.dptr [G0 id_]]) (Gae (cs:=[.dptr [G0 id_]]) O O) O ?_))
 obtain⟨r3,hr3,h⟩:=Gf h
 refine JLh (G0 r3) (Gq O (H4b boxes (fun z0=>Gce z0 id_) 127 [.dptr [G0 id_]] Qa1 O (fun z0 q hq=>Jf0 z0 id_ q hq) r3 hr3) Qa2 ⟨O,O,O,O,G⟩) O (JLm (G0 r3) O (G8 (hK2 (Js fun hK4=>Jr fun hK5=>(JLm (G0 r3) O (JLh (BL (decide (r3 < 0))) (Hy O O O) O (G8 (hK5 (JCc O h (fun h hb=>?_) (fun h hb=>?_))))))))))
 ·
  refine Jr fun hK6=>(JLh (.agg [G0 0,ST ByteArray.empty,U8 0,BL false,G0 0,G0 0,G0 0,U8 0,BL false]) (Ji (cs:=[G0 0,ST ByteArray.empty,U8 0,BL false,G0 0,G0 0,G0 0,U8 0,BL false]) [(0,1),(1,1),(2,1),(3,1),(4,1),(5,1),(6,1),(7,1),(8,1)] [G0 0,ST ByteArray.empty,U8 0,BL false,G0 0,G0 0,G0 0,U8 0,BL false] [.int .i64 0,.string ByteArray.empty,.int .u8 0,.bool false,.int .i64 0,.int .i64 0,.int .i64 0,.int .u8 0,.bool false] Gf0 G9e ⟨.inl O,.inl O,.inl O,.inl O,.inl O,.inl O,.inl O,.inl O,.inl O,G⟩ O O) O (Ja (u:=.junk) (J0 (u:=.agg [G0 0,ST ByteArray.empty,U8 0,BL false,G0 0,G0 0,G0 0,U8 0,BL false]) (ds:=[G0 0,ST ByteArray.empty,U8 0,BL false,G0 0,G0 0,G0 0,U8 0,BL false]) G7c O O O O O O O O) (JLm (BL false) O (G8 (hK6 ?_)))))
  refine Gt (⟨[.agg [G0 0,ST ByteArray.empty,U8 0,BL false,G0 0,G0 0,G0 0,U8 0,BL false],BL false],[],G,O,⟨⟨_,⟨_,_,_,_,O,O,O,.inl ⟨G5b,O⟩⟩,.conv (.same O)⟩,⟨_,O,.conv (.same O)⟩,G⟩,O,congrArg (fun r:H2×Bool=>(.tup [.agg (H2.cs r.1),BL r.2]:AV)) (Option.some.inj h)⟩)
 ·
  refine Gm (hK4 (Jr fun hK7=>(JLm (E3 boxes) O (JLm (G0 r3) O ?_))))
  obtain⟨m9,y8,hm9,hy8,h⟩:=R1 h
  refine JLh (Eh y8) (Gs (f:=H2.av) (xs:=boxes) (y:=y8) O O O Jy hy8 hm9) O (JLh (.agg (H2.cs y8)) (Gi G5b O O O) O (Ja (u:=.junk) (J0 (u:=.agg (H2.cs y8)) (ds:=(H2.cs y8)) G7c O O O O O O O O) (JLm (BL true) O (G8 (hK7 (Gt (⟨[.agg (H2.cs y8),BL true],[],G,O,⟨⟨_,⟨_,_,_,_,O,O,O,.inl ⟨G5b,O⟩⟩,.conv (.same O)⟩,⟨_,O,.conv (.same O)⟩,G⟩,O,congrArg (fun r:H2×Bool=>(.tup [.agg (H2.cs r.1),BL r.2]:AV)) (Option.some.inj h)⟩)))))))

def G32 (s:List Int) (v:Int):Option Int:=
 each (fun y18 i18 (s18:Unit) nx18=>
  bif decide (v=y18) then
  (some (i18:Int))
  else
  (nx18 ()))
 (fun(s18:Unit)=>
  some (-1)) s 0 ()
theorem Hea (s:List Int) (v:Int) (r:Int) (h:G32 s v=some r):Pure En 161 [Eb s,U8 v] (·=G0 r):=by
 unfold G32 at h
 refine H0 [.tmp 4] Tryz.func161 O O (Jr fun hK1=>(JLm (G0 0) O (G8 (hK1 (Js fun hK2=>Jr fun hK3=>(JLm (Eb s) O (JLl H3d O O O fun hm7=>(JLm (G0 0) O (G8 (hK3 (Gk ?_)))))))))))
 obtain⟨b18,kx18,hb18,hkx18,h⟩:=J4 h
 refine H6 (fun i18 (s18:Unit)=>each b18 kx18 (List.drop i18 s) i18 s18=some r) (fun i18 s18=>[(0,Eb s),(1,U8 v),(7,Em s.length),(8,Em i18)]) (fun i18 s18=>[]) (fun i18=>s.length - i18) 0 () h ⟨(by repeat' constructor),G,rfl⟩ ?_
 clear h
 intro i18 s18 hi18 K18 e18
 refine Jr fun hK19=>(JLh (BL (decide ((i18:Int) < (s.length:Int)))) (Hy O O O) O (G8 (hK19 (Js fun hK20=>Gj O (fun hb=>?_) (fun hb=>?_)))))
 ·
  have hk18:=Je hb
  obtain⟨y18,nx18,hy18,hn18,h⟩:=Hs hi18 hk18
  replace h:=Y8 hb18 h
  refine Gm (hK20 (Js fun hK21=>Gk (Jr fun hK22=>(JLm (Em i18) O (JLm (Em i18) O (G8 (hK22 (Jr fun hK23=>(JLm (U8 v) O (JLm (Eb s) O (JLm (Em i18) O (JLh (.dptr [U8 y18]) (Gs (f:=U8) (xs:=s) (y:=y18) O O O H3d hy18 O) O (JLh (U8 y18) (Gh J5 O O O) O (JLh (BL (decide (v=y18))) (Jk O O O) O (G8 (hK23 (JCc O h (fun h hb=>?_) (fun h hb=>?_))))))))))))))))))
  ·
   refine Jr fun hK24=>(JLm (Em i18) O (JLm (Em i18) O (G8 (hK24 (Gt (fin1 G0 h))))))
  ·
   refine Gm (hK21 (G2 (JLh (G0 ((i18+1:Nat):Int)) (Hx (Hc hk18 hm7) O O O) O (JLm (G0 ((i18+1:Nat):Int)) O (G8 (e18 _ _ (i18+1) () (app1 hn18 h) (by omega) ⟨(by repeat' constructor),G,rfl⟩))))))
 ·
  have h:=app1 hkx18 (Ht hi18 (H9 hb))
  refine Hd (hK2 (Jr fun hK25=>(JLm (G0 (-1)) O (G8 (hK25 (Gt (fin1 G0 h)))))))

def G03 (s:List Int) (v:Int):Option Bool:=
 bnd (G32 s v) fun r3=>
 some (decide (0≤r3))
theorem H87 (s:List Int) (v:Int) (r:Bool) (h:G03 s v=some r):Pure En 128 [Eb s,U8 v] (·=BL r):=by
 unfold G03 at h
 refine H0 [.tmp 4] Tryz.func128 O O (Jr fun hK1=>(JLm (BL false) O (G8 (hK1 (Jr fun hK2=>(JLm (Eb s) O (JLm (U8 v) O ?_)))))))
 obtain⟨r3,hr3,h⟩:=Gf h
 refine JLh (G0 r3) (Gq O (Hea s v r3 hr3) Q92 ⟨O,O,O,O,G⟩) O (JLh (BL (decide (0≤r3))) (G06 O O O) O (JLm (BL (decide (0≤r3))) O (G8 (hK2 (Gt (fin1 BL h))))))

def Gfb (s:H8) (x:Slot) (size:Int):Option Bool:=
 bnd (bif (((decide (0≤x.G4))&&(decide (x.G4 < (s.Columns.length:Int))))&&(decide (0≤x.Tier))) then Jc s.Columns x.G4 some else some default) fun y3=>
 bnd (bif ((((decide (0≤x.G4))&&(decide (x.G4 < (s.Columns.length:Int))))&&(decide (0≤x.Tier)))&&(decide (x.Tier < y3.Tiers))) then Gcf size else some default) fun r4=>
 bnd (bif ((((decide (0≤x.G4))&&(decide (x.G4 < (s.Columns.length:Int))))&&(decide (0≤x.Tier)))&&(decide (x.Tier < y3.Tiers))) then G03 r4 x.Half else some default) fun r5=>
 some (((((decide (0≤x.G4))&&(decide (x.G4 < (s.Columns.length:Int))))&&(decide (0≤x.Tier)))&&(decide (x.Tier < y3.Tiers)))&&r5)
theorem Q53 (s:H8) (x:Slot) (size:Int) (r:Bool) (h:Gfb s x size=some r):Pure En 82 [.agg (H8.cs s),.agg [G0 x.G4,G0 x.Tier,U8 x.Half],U8 size] (·=BL r):=by
 unfold Gfb at h
 refine H0 [.tmp 6] Tryz.func82 O O (Jr fun hK1=>(JLh (.ptr 1120 0) (Jq (cs:=(H8.cs s)) 1120 O O O O O) O (JLh (.ptr 1121 0) (Jq (cs:=[G0 x.G4,G0 x.Tier,U8 x.Half]) 1121 O O O O O) O (JLm (BL false) O (G8 (hK1 ?_))))))
 refine Gx [(2,U8 size),(3,Ed s),(4,.ptr 1121 0)] [(1121,.box 60 [G0 x.G4,G0 x.Tier,U8 x.Half])] 1120 rfl rfl rfl ⟨⟨_,rfl,.boxEq rfl rfl⟩,G⟩ rfl (by exact⟨.conv (.same rfl),.ptr,.conv (.same rfl),G⟩) ?_
 refine Gx [(2,U8 size),(3,Ed s),(4,.dptr [G0 x.G4,G0 x.Tier,U8 x.Half])] [] 1121 rfl rfl rfl G rfl (by exact⟨.conv (.same rfl),.conv (.same rfl),.ptr,G⟩) (Js fun hK2=>?_)
 obtain⟨y3,hy3,h⟩:=Gf h
 obtain⟨r4,hr4,h⟩:=Gf h
 obtain⟨r5,hr5,h⟩:=Gf h
 refine JC_d0 Jb (by kernel_rfl) (Dq (.dptr [G0 x.G4,G0 x.Tier,U8 x.Half]) (Ga Hk O O O) O (Dq (G0 x.G4) (Gh Gc O O O) O (Dq (BL (decide (0≤x.G4))) (G06 O O O) O (Dq (BL (decide (0≤x.G4))) (G5 O O) O (Do (.dptr [G0 x.G4,G0 x.Tier,U8 x.Half]) [] O .sct G (fun hc=>Ga Hk O O O) O (Do (G0 x.G4) [11] O .sct ⟨Ua,G⟩ (fun hc=>Gh Gc O O O) O (Do (Ed s) [] O .sct G (fun hc=>Ga Hi O O O) O (Do (E5 s.Columns) [13] O .sct ⟨Ua,G⟩ (fun hc=>Gh Ho O O O) O (Do (Em s.Columns.length) [14] O .sct ⟨Ua,G⟩ (fun hc=>Qx (f:=G4.av) (xs:=s.Columns) H7 O O) O (Do (BL (decide (x.G4 < (s.Columns.length:Int)))) [12,15] O .sct ⟨Ua,Ua,G⟩ (fun hc=>Hy O O O) O (Dq (BL ((decide (0≤x.G4))&&(decide (x.G4 < (s.Columns.length:Int))))) (J3 O O O O) O (Dq (BL ((decide (0≤x.G4))&&(decide (x.G4 < (s.Columns.length:Int))))) (G5 O O) O (Do (.dptr [G0 x.Tier,U8 x.Half]) [] O .sct G (fun hc=>Ga J9 O O O) O ?_)))))))))))))
 refine Do (G0 x.Tier) [19] O .sct ⟨Ua,G⟩ (fun hc=>Gh Gc O O O) O (Do (BL (decide (0≤x.Tier))) [20] O .sct ⟨Ua,G⟩ (fun hc=>G06 O O O) O (Dq (BL (((decide (0≤x.G4))&&(decide (x.G4 < (s.Columns.length:Int))))&&(decide (0≤x.Tier)))) (J3 O O O O) O (Dq (BL (((decide (0≤x.G4))&&(decide (x.G4 < (s.Columns.length:Int))))&&(decide (0≤x.Tier)))) (G5 O O) O (Do (.dptr [G0 x.Tier,U8 x.Half]) [] O .sct G (fun hc=>Ga J9 O O O) O (Do (G0 x.Tier) [24] O .sct ⟨Ua,G⟩ (fun hc=>Gh Gc O O O) O (Do (Ed s) [] O .sct G (fun hc=>Ga Hi O O O) O (Do (E5 s.Columns) [26] O .sct ⟨Ua,G⟩ (fun hc=>Gh Ho O O O) O (Do (.dptr [G0 x.G4,G0 x.Tier,U8 x.Half]) [] O .sct G (fun hc=>Ga Hk O O O) O (Do (G0 x.G4) [28] O .sct ⟨Ua,G⟩ (fun hc=>Gh Gc O O O) O (Do (Ef y3) [27,29] O .sct ⟨Ua,Ua,G⟩ (fun hc=>(match Jm (Gv hc hy3) with | ⟨_,hm_,hy_⟩=>Gs (f:=G4.av) (xs:=s.Columns) (y:=y3) O O O H7 hy_ hm_)) O (Do (.dptr ((G4.cs y3).drop 3)) [30] O .sct ⟨Ua,G⟩ (fun hc=>Ga G26 O O O) O (Do (G0 y3.Tiers) [31] O .sct ⟨Ua,G⟩ (fun hc=>Gh Gc O O O) O (Do (BL (decide (x.Tier < y3.Tiers))) [25,32] O .sct ⟨Ua,Ua,G⟩ (fun hc=>Hy O O O) O ?_)))))))))))))
 refine Dq (BL ((((decide (0≤x.G4))&&(decide (x.G4 < (s.Columns.length:Int))))&&(decide (0≤x.Tier)))&&(decide (x.Tier < y3.Tiers)))) (J3 O O O O) O (Dq (BL ((((decide (0≤x.G4))&&(decide (x.G4 < (s.Columns.length:Int))))&&(decide (0≤x.Tier)))&&(decide (x.Tier < y3.Tiers)))) (G5 O O) O (Do (U8 size) [] O .sct G (fun hc=>G5 O O) O (Do (Eb r4) [36] O .sct ⟨Ua,G⟩ (fun hc=>Gq (args:=[U8 size]) O (Jf1 size r4 (Gv hc hr4)) Q9f ⟨O,O,G⟩) O (Do (.dptr [U8 x.Half]) [] O .sct G (fun hc=>Ga Jo O O O) O (Do (U8 x.Half) [38] O .sct ⟨Ua,G⟩ (fun hc=>Gh J5 O O O) O (Do (BL r5) [37,39] O .sct ⟨Ua,Ua,G⟩ (fun hc=>Gq (args:=[Eb r4,U8 x.Half]) O (H87 r4 x.Half r5 (Gv hc hr5)) Qa0 ⟨O,O,O,O,G⟩) O (Dq (BL (((((decide (0≤x.G4))&&(decide (x.G4 < (s.Columns.length:Int))))&&(decide (0≤x.Tier)))&&(decide (x.Tier < y3.Tiers)))&&r5)) (J3 O O O O) O (Dq (BL (((((decide (0≤x.G4))&&(decide (x.G4 < (s.Columns.length:Int))))&&(decide (0≤x.Tier)))&&(decide (x.Tier < y3.Tiers)))&&r5)) (G9 O O) O (Dnil ?_)))))))))
 refine hK2 (Gt (fin1 BL h))

def G12 (s:List Slot) (v:Slot):Option Int:=
 each (fun y18 i18 (s18:Unit) nx18=>
  bif decide (v=y18) then
  (some (i18:Int))
  else
  (nx18 ()))
 (fun(s18:Unit)=>
  some (-1)) s 0 ()
theorem Ha9 (s:List Slot) (v:Slot) (r:Int) (h:G12 s v=some r):Pure En 162 [E9 s,.agg [G0 v.G4,G0 v.Tier,U8 v.Half]] (·=G0 r):=by
 unfold G12 at h
 refine H0 [.tmp 4] Tryz.func162 O O (Jr fun hK1=>(JLh (.ptr 1187 0) (Jq (cs:=[G0 v.G4,G0 v.Tier,U8 v.Half]) 1187 O O O O O) O (JLm (G0 0) O (G8 (hK1 (Gx [(0,E9 s),(3,.dptr [G0 v.G4,G0 v.Tier,U8 v.Half])] [] 1187 rfl rfl rfl G rfl (by exact⟨.conv (.same rfl),.ptr,G⟩) (Js fun hK2=>Jr fun hK3=>(JLm (E9 s) O (JLl Yu O O O fun hm7=>(JLm (G0 0) O (G8 (hK3 (Gk ?_)))))))))))))
 obtain⟨b18,kx18,hb18,hkx18,h⟩:=J4 h
 refine H6 (fun i18 (s18:Unit)=>each b18 kx18 (List.drop i18 s) i18 s18=some r) (fun i18 s18=>[(0,E9 s),(3,.dptr [G0 v.G4,G0 v.Tier,U8 v.Half]),(7,Em s.length),(8,Em i18)]) (fun i18 s18=>[]) (fun i18=>s.length - i18) 0 () h ⟨(by repeat' constructor),G,rfl⟩ ?_
 clear h
 intro i18 s18 hi18 K18 e18
 refine Jr fun hK19=>(JLh (BL (decide ((i18:Int) < (s.length:Int)))) (Hy O O O) O (G8 (hK19 (Js fun hK20=>Gj O (fun hb=>?_) (fun hb=>?_)))))
 ·
  have hk18:=Je hb
  obtain⟨y18,nx18,hy18,hn18,h⟩:=Hs hi18 hk18
  replace h:=Y8 hb18 h
  refine Gm (hK20 (Js fun hK21=>Gk (Jr fun hK22=>(JLm (Em i18) O (JLm (Em i18) O (G8 (hK22 (Js fun hK23=>JC_d0 Jb (by kernel_rfl) (Dq (.agg [G0 v.G4,G0 v.Tier,U8 v.Half]) (Gi Jg O O O) O (Dq (E9 s) (G5 O O) O (Dq (Em i18) (G5 O O) O (Dq (Ei y18) (Gs (f:=Slot.av) (xs:=s) (y:=y18) O O O Yu hy18 O) O (Dq (.agg (Slot.cs y18)) (Gi Jg O O O) O (Dq (BL (decide (v=y18))) (G81 (vs:=[.int .i64 v.G4,.int .i64 v.Tier,.int .u8 v.Half]) (us:=[.int .i64 y18.G4,.int .i64 y18.Tier,.int .u8 y18.Half]) 4 O (tq_60 v y18) J0b Ja2 O O O) O (Dnil (hK23 (JCc O h (fun h hb=>?_) (fun h hb=>?_))))))))))))))))))
  ·
   refine Jr fun hK24=>(JLm (Em i18) O (JLm (Em i18) O (G8 (hK24 (Gt (fin1 G0 h))))))
  ·
   refine Gm (hK21 (G2 (JLh (G0 ((i18+1:Nat):Int)) (Hx (Hc hk18 hm7) O O O) O (JLm (G0 ((i18+1:Nat):Int)) O (G8 (e18 _ _ (i18+1) () (app1 hn18 h) (by omega) ⟨(by repeat' constructor),G,rfl⟩))))))
 ·
  have h:=app1 hkx18 (Ht hi18 (H9 hb))
  refine Hd (hK2 (Jr fun hK25=>(JLm (G0 (-1)) O (G8 (hK25 (Gt (fin1 G0 h)))))))

def Z3 (s:List Slot) (v:Slot):Option Bool:=
 bnd (G12 s v) fun r3=>
 some (decide (0≤r3))
theorem H4c (s:List Slot) (v:Slot) (r:Bool) (h:Z3 s v=some r):Pure En 131 [E9 s,.agg [G0 v.G4,G0 v.Tier,U8 v.Half]] (·=BL r):=by
 unfold Z3 at h
 refine H0 [.tmp 4] Tryz.func131 O O (Jr fun hK1=>(JLh (.ptr 1174 0) (Jq (cs:=[G0 v.G4,G0 v.Tier,U8 v.Half]) 1174 O O O O O) O (JLm (BL false) O (G8 (hK1 (Gx [(0,E9 s),(3,.dptr [G0 v.G4,G0 v.Tier,U8 v.Half])] [] 1174 rfl rfl rfl G rfl (by exact⟨.conv (.same rfl),.ptr,G⟩) (Jr fun hK2=>(JLm (E9 s) O (JLh (.agg [G0 v.G4,G0 v.Tier,U8 v.Half]) (Gi Jg O O O) O ?_)))))))))
 obtain⟨r3,hr3,h⟩:=Gf h
 refine JLh (G0 r3) (Gq O (Ha9 s v r3 hr3) Q91 ⟨O,O,O,O,G⟩) O (JLh (BL (decide (0≤r3))) (G06 O O O) O (JLm (BL (decide (0≤r3))) O (G8 (hK2 (Gt (fin1 BL h))))))

def G6b (half:Int) (p1:List Slot) (p2:Slot):Option Bool:=
 Yn (p2.Tier - 1) fun v3=>
 bnd (Z3 p1 (Slot.mk p2.G4 v3 half)) fun r4=>
 some r4
theorem H39 (half:Int) (p1:List Slot) (p2:Slot) (r:Bool) (h:G6b half p1 p2=some r):Pure En 130 [U8 half,.dptr [E9 p1],.dptr [G0 p2.G4,G0 p2.Tier,U8 p2.Half]] (·=BL r):=by
 unfold G6b at h
 refine H0 [.tmp 4] Tryz.func130 O O (Jr fun hK1=>(JLm (BL false) O (G8 (hK1 (Jr fun hK2=>(JLh (E9 p1) (Gh Q66 O O O) O (JLh (.dptr [G0 p2.G4,G0 p2.Tier,U8 p2.Half]) (Ga Hk O O O) O (JLh (G0 p2.G4) (Gh Gc O O O) O (JLh (.dptr [G0 p2.Tier,U8 p2.Half]) (Ga J9 O O O) O (JLh (G0 p2.Tier) (Gh Gc O O O) O ?_))))))))))
 obtain⟨v3,hv3,h⟩:=Jh h
 refine JLh (G0 v3) (G6d hv3 O O O) O (JLm (U8 half) O (JLh (.agg [G0 p2.G4,G0 v3,U8 half]) (Ji (cs:=[G0 p2.G4,G0 v3,U8 half]) [(0,1),(1,1),(2,1)] [G0 0,G0 0,U8 0] [.int .i64 0,.int .i64 0,.int .u8 0] Hd2 Hcc ⟨.inl O,.inl O,.inl O,G⟩ O O) O ?_))
 obtain⟨r4,hr4,h⟩:=Gf h
 refine JLh (BL r4) (Gq O (H4c p1 (Slot.mk p2.G4 v3 half) r4 hr4) Q9e ⟨O,O,O,O,G⟩) O (JLm (BL r4) O (G8 (hK2 (Gt (fin1 BL h)))))

def H2b (x:Slot) (l:List Slot):Option Bool:=
 bif decide (x.Tier≤0) then
 (some true)
 else
 (bnd (G6b x.Half l x) fun r7=>
  bnd (bif ((!r7)&&(decide (x.Half=0))) then G6b 1 l x else some default) fun r8=>
  bnd (bif ((!r7)&&((decide (x.Half=0))&&r8)) then G6b 2 l x else some default) fun r9=>
  some (r7||(((decide (x.Half=0))&&r8)&&r9)))
theorem M_slot_Held_w (x:Slot) (l:List Slot) (r:Bool) (h:H2b x l=some r):Pure En 83 [.agg [G0 x.G4,G0 x.Tier,U8 x.Half],E9 l] (·=BL r):=by
 unfold H2b at h
 refine H0 [.tmp 4] Tryz.func83 O O (Jr fun hK1=>(JLh (.ptr 1122 0) (Jq (cs:=[G0 x.G4,G0 x.Tier,U8 x.Half]) 1122 O O O O O) O (JLh (.ptr 1123 0) (Jq (cs:=[E9 l]) 1123 O O O O O) O (JLm (BL false) O (G8 (hK1 (Gx [(2,.dptr [G0 x.G4,G0 x.Tier,U8 x.Half]),(3,.ptr 1123 0)] [(1123,.box 143 [E9 l])] 1122 rfl rfl rfl ⟨⟨_,rfl,.boxEq rfl rfl⟩,G⟩ rfl (by exact⟨.ptr,.conv (.same rfl),G⟩) (Gx [(2,.dptr [G0 x.G4,G0 x.Tier,U8 x.Half]),(3,.dptr [E9 l])] [] 1123 rfl rfl rfl G rfl (by exact⟨.conv (.same rfl),.ptr,G⟩) (Js fun hK2=>Jr fun hK3=>(JLh (.dptr [G0 x.Tier,U8 x.Half]) (Ga J9 O O O) O (JLh (G0 x.Tier) (Gh Gc O O O) O (JLh (BL (decide (x.Tier≤0))) (H97 O O O) O (G8 (hK3 ?_))))))))))))))
 refine JCc O h (fun h hb=>?_) (fun h hb=>?_)
 ·
  refine Jr fun hK4=>(JLm (BL true) O (G8 (hK4 (Gt (fin1 BL h)))))
 ·
  refine Gm (hK2 (Jr fun hK5=>(JLh (.fn 130 [.dptr [E9 l],.dptr [G0 x.G4,G0 x.Tier,U8 x.Half]]) (Gae (cs:=[.dptr [E9 l],.dptr [G0 x.G4,G0 x.Tier,U8 x.Half]]) O O) O (JLm (.fn 130 [.dptr [E9 l],.dptr [G0 x.G4,G0 x.Tier,U8 x.Half]]) O (G8 (hK5 (Jr fun hK6=>(JLm (.fn 130 [.dptr [E9 l],.dptr [G0 x.G4,G0 x.Tier,U8 x.Half]]) O (JLh (.dptr [U8 x.Half]) (Ga Jo O O O) O (JLh (U8 x.Half) (Gh J5 O O O) O ?_))))))))))
  obtain⟨r7,hr7,h⟩:=Gf h
  refine JLh (BL r7) (Gaf (args:=[U8 x.Half]) (caps:=[.dptr [E9 l],.dptr [G0 x.G4,G0 x.Tier,U8 x.Half]]) O O (H39 x.Half l x r7 hr7) J04 ⟨O,O,G⟩ O) O (JLm (BL r7) O (JLo (.dptr [U8 x.Half]) [] O .scf G (fun hc=>Ga Jo O O O) O (JLo (U8 x.Half) [15] O .scf ⟨Ua,G⟩ (fun hc=>Gh J5 O O O) O (JLo (BL (decide (x.Half=0))) [16] O .scf ⟨Ua,G⟩ (fun hc=>Jk O O O) O (JLo (BL (decide (x.Half=0))) [17] O .scf ⟨Ua,G⟩ (fun hc=>G5 O O) O (JLo (.fn 130 [.dptr [E9 l],.dptr [G0 x.G4,G0 x.Tier,U8 x.Half]]) [] O .optt G (fun hc=>G5 O O) O ?_))))))
  obtain⟨r8,hr8,h⟩:=Gf h
  refine JLo (BL r8) [19] O .optt ⟨Ua,G⟩ (fun hc=>Gaf (args:=[U8 1]) (caps:=[.dptr [E9 l],.dptr [G0 x.G4,G0 x.Tier,U8 x.Half]]) O O (H39 1 l x r8 (Gv hc hr8)) J04 ⟨O,O,G⟩ O) O (Gb (u:=BL ((decide (x.Half=0))&&r8)) [(18,BL (decide (x.Half=0))),(20,_)] O O O .scf ⟨.all id,.part,G⟩ (fun hc=>J3 O O O O) ?_)
  refine JLo (BL ((decide (x.Half=0))&&r8)) [21] O .scf ⟨Ua,G⟩ (fun hc=>G5 O O) O (JLo (.fn 130 [.dptr [E9 l],.dptr [G0 x.G4,G0 x.Tier,U8 x.Half]]) [] O .optt G (fun hc=>G5 O O) O ?_)
  obtain⟨r9,hr9,h⟩:=Gf h
  refine JLo (BL r9) [23] O .optt ⟨Ua,G⟩ (fun hc=>Gaf (args:=[U8 2]) (caps:=[.dptr [E9 l],.dptr [G0 x.G4,G0 x.Tier,U8 x.Half]]) O O (H39 2 l x r9 (Gv hc hr9)) J04 ⟨O,O,G⟩ O) O (Gb (u:=BL (((decide (x.Half=0))&&r8)&&r9)) [(22,BL ((decide (x.Half=0))&&r8)),(24,_)] O O O .scf ⟨.all id,.part,G⟩ (fun hc=>J3 O O O O) ?_)
  refine JLh (BL (r7||(((decide (x.Half=0))&&r8)&&r9))) (Y7 O O O O) O (JLm (BL (r7||(((decide (x.Half=0))&&r8)&&r9))) O (G8 (hK6 (Gt (fin1 BL h)))))

def G97 (a:Int) (b:Int):Option Bool:=
 some (((decide (a=b))||(decide (a=0)))||(decide (b=0)))
theorem Hef (a:Int) (b:Int) (r:Bool) (h:G97 a b=some r):Pure En 132 [U8 a,U8 b] (·=BL r):=by
 unfold G97 at h
 refine H0 [.tmp 4] Tryz.func132 O O (Jr fun hK1=>(JLm (BL false) O (G8 (hK1 (Jr fun hK2=>(JLm (U8 a) O (JLm (U8 b) O (JLh (BL (decide (a=b))) (Jk O O O) O (JLm (BL (decide (a=b))) O (JLo (U8 a) [] O .scf G (fun hc=>G5 O O) O (JLo (BL (decide (a=0))) [9] O .scf ⟨Ua,G⟩ (fun hc=>Jk O O O) O (JLh (BL ((decide (a=b))||(decide (a=0)))) (Y7 O O O O) O (JLm (BL ((decide (a=b))||(decide (a=0)))) O (JLo (U8 b) [] O .scf G (fun hc=>G5 O O) O (JLo (BL (decide (b=0))) [13] O .scf ⟨Ua,G⟩ (fun hc=>Jk O O O) O (JLh (BL (((decide (a=b))||(decide (a=0)))||(decide (b=0)))) (Y7 O O O O) O (JLm (BL (((decide (a=b))||(decide (a=0)))||(decide (b=0)))) O (G8 (hK2 (Gt (fin1 BL h)))))))))))))))))))))

def H2a (a:Slot) (b:Slot):Option Bool:=
 bnd (bif ((decide (a.G4=b.G4))&&(decide (a.Tier=b.Tier))) then G97 a.Half b.Half else some default) fun r3=>
 some (((decide (a.G4=b.G4))&&(decide (a.Tier=b.Tier)))&&r3)
theorem M_slot_Meet_w (a:Slot) (b:Slot) (r:Bool) (h:H2a a b=some r):Pure En 84 [.agg [G0 a.G4,G0 a.Tier,U8 a.Half],.agg [G0 b.G4,G0 b.Tier,U8 b.Half]] (·=BL r):=by
 unfold H2a at h
 refine H0 [.tmp 4] Tryz.func84 O O (Jr fun hK1=>(JLh (.ptr 1124 0) (Jq (cs:=[G0 a.G4,G0 a.Tier,U8 a.Half]) 1124 O O O O O) O (JLh (.ptr 1125 0) (Jq (cs:=[G0 b.G4,G0 b.Tier,U8 b.Half]) 1125 O O O O O) O (JLm (BL false) O (G8 (hK1 (Gx [(2,.dptr [G0 a.G4,G0 a.Tier,U8 a.Half]),(3,.ptr 1125 0)] [(1125,.box 60 [G0 b.G4,G0 b.Tier,U8 b.Half])] 1124 rfl rfl rfl ⟨⟨_,rfl,.boxEq rfl rfl⟩,G⟩ rfl (by exact⟨.ptr,.conv (.same rfl),G⟩) (Gx [(2,.dptr [G0 a.G4,G0 a.Tier,U8 a.Half]),(3,.dptr [G0 b.G4,G0 b.Tier,U8 b.Half])] [] 1125 rfl rfl rfl G rfl (by exact⟨.conv (.same rfl),.ptr,G⟩) ?_))))))))
 refine Jr fun hK2=>(JLh (.dptr [G0 a.G4,G0 a.Tier,U8 a.Half]) (Ga Hk O O O) O (JLh (G0 a.G4) (Gh Gc O O O) O (JLh (.dptr [G0 b.G4,G0 b.Tier,U8 b.Half]) (Ga Hk O O O) O (JLh (G0 b.G4) (Gh Gc O O O) O (JLh (BL (decide (a.G4=b.G4))) (Jk O O O) O (JLm (BL (decide (a.G4=b.G4))) O (JLo (.dptr [G0 a.Tier,U8 a.Half]) [] O .sct G (fun hc=>Ga J9 O O O) O (JLo (G0 a.Tier) [11] O .sct ⟨Ua,G⟩ (fun hc=>Gh Gc O O O) O (JLo (.dptr [G0 b.Tier,U8 b.Half]) [] O .sct G (fun hc=>Ga J9 O O O) O (JLo (G0 b.Tier) [13] O .sct ⟨Ua,G⟩ (fun hc=>Gh Gc O O O) O (JLo (BL (decide (a.Tier=b.Tier))) [12,14] O .sct ⟨Ua,Ua,G⟩ (fun hc=>Jk O O O) O (JLh (BL ((decide (a.G4=b.G4))&&(decide (a.Tier=b.Tier)))) (J3 O O O O) O (JLm (BL ((decide (a.G4=b.G4))&&(decide (a.Tier=b.Tier)))) O ?_)))))))))))))
 refine JLo (.dptr [U8 a.Half]) [] O .sct G (fun hc=>Ga Jo O O O) O (JLo (U8 a.Half) [18] O .sct ⟨Ua,G⟩ (fun hc=>Gh J5 O O O) O (JLo (.dptr [U8 b.Half]) [] O .sct G (fun hc=>Ga Jo O O O) O (JLo (U8 b.Half) [20] O .sct ⟨Ua,G⟩ (fun hc=>Gh J5 O O O) O ?_)))
 obtain⟨r3,hr3,h⟩:=Gf h
 refine JLo (BL r3) [19,21] O .sct ⟨Ua,Ua,G⟩ (fun hc=>Gq (args:=[U8 a.Half,U8 b.Half]) O (Hef a.Half b.Half r3 (Gv hc hr3)) Jc7 ⟨O,O,O,O,G⟩) O (JLh (BL (((decide (a.G4=b.G4))&&(decide (a.Tier=b.Tier)))&&r3)) (J3 O O O O) O (JLm (BL (((decide (a.G4=b.G4))&&(decide (a.Tier=b.Tier)))&&r3)) O (G8 (hK2 (Gt (fin1 BL h))))))

def H27 (b:H2):Option Int:=
 bif b.High then
 (some 2896)
 else
 (some 2591)
theorem M_stow_tall_w (b:H2) (r:Int) (h:H27 b=some r):Pure En 163 [.agg (H2.cs b)] (·=G0 r):=by
 unfold H27 at h
 refine H0 [.tmp 2] Tryz.func163 O O (Jr fun hK1=>(JLh (.ptr 1188 0) (Jq (cs:=(H2.cs b)) 1188 O O O O O) O (JLm (G0 0) O (G8 (hK1 (Gx [(1,Eh b)] [] 1188 rfl rfl rfl G rfl (by exact⟨.ptr,G⟩) (Js fun hK2=>Jr fun hK3=>(JLh (.dptr ((H2.cs b).drop 3)) (Ga J45 O O O) O (JLh (BL b.High) (Gh R5 O O O) O (G8 (hK3 (JCc O h (fun h hb=>?_) (fun h hb=>?_)))))))))))))
 ·
  refine Jr fun hK4=>(JLm (G0 2896) O (G8 (hK4 (Gt (fin1 G0 h)))))
 ·
  refine Gm (hK2 (Jr fun hK5=>(JLm (G0 2591) O (G8 (hK5 (Gt (fin1 G0 h)))))))

def G96 (boxes:List H2) (l:List G6) (column:Int) (half:Int):Option Int:=
 each (fun y27 i27 (s27:Int) nx27=>
  jp (fun kj30=>
   bif ((decide (y27.Slot.G4=column))&&((decide (y27.Slot.Half=half))||(decide (y27.Slot.Half=0)))) then
   (bnd (Ge9 boxes y27.H2) fun r34=>
    bif r34.2 then
    (bnd (H27 r34.1) fun r36=>
     Yn (s27+r36) fun v37=>
     kj30 v37)
    else
    (kj30 s27))
   else
   (kj30 s27)) fun(j30:Int)=>
  nx27 j30)
 (fun(s27:Int)=>
  some s27) l 0 0
theorem Hee (boxes:List H2) (l:List G6) (column:Int) (half:Int) (r:Int) (h:G96 boxes l column half=some r):Pure En 133 [E3 boxes,E0 l,G0 column,U8 half] (·=G0 r):=by
 unfold G96 at h
 refine H0 [.tmp 8] Tryz.func133 O O (Jr fun hK1=>(JLm (G0 0) O (G8 (hK1 (Jr fun hK2=>(JLm (G0 0) O (G8 (hK2 (Js fun hK3=>Jr fun hK4=>(JLm (E0 l) O (JLl Gz O O O fun hm15=>(JLm (G0 0) O (G8 (hK4 (Gk ?_)))))))))))))))
 obtain⟨b27,kx27,hb27,hkx27,h⟩:=J4 h
 refine H6 (fun i27 (s27:Int)=>each b27 kx27 (List.drop i27 l) i27 s27=some r) (fun i27 s27=>[(0,E3 boxes),(2,G0 column),(3,U8 half),(9,G0 s27),(14,E0 l),(15,Em l.length),(16,Em i27)]) (fun i27 s27=>[]) (fun i27=>l.length - i27) 0 0 h ⟨(by repeat' constructor),G,rfl⟩ ?_
 clear h
 intro i27 s27 hi27 K27 e27
 refine Jr fun hK28=>(JLh (BL (decide ((i27:Int) < (l.length:Int)))) (Hy O O O) O (G8 (hK28 (Js fun hK29=>Gj O (fun hb=>?_) (fun hb=>?_)))))
 ·
  have hk27:=Je hb
  obtain⟨y27,nx27,hy27,hn27,h⟩:=Hs hi27 hk27
  replace h:=Y8 hb27 h
  refine Gm (hK29 ?_)
  obtain⟨kj30,hkj30,h⟩:=Zf h
  refine Rt (fun j30:Int=>kj30 j30=some r) (fun j30=>[(0,E3 boxes),(2,G0 column),(3,U8 half),(9,G0 j30),(14,E0 l),(15,Em l.length),(16,Em i27)]) (fun j30=>[]) (fun Kj30 ej30=>?_) ?_
  ·
   refine Gk (Jr fun hK31=>(JLh (Ee y27) (Gs (f:=G6.av) (xs:=l) (y:=y27) O O O Gz hy27 O) O (JLh (.agg (G6.cs y27)) (Gi Qv O O O) O (JLh (.ptr 1175 0) (Ju 1175 4 Rv O O) O (Ja (u:=.junk) (J0 (u:=.agg (G6.cs y27)) (ds:=[G0 y27.H2,G0 y27.Slot.G4,G0 y27.Slot.Tier,U8 y27.Slot.Half]) Z4 O O O O O O O O) (G8 (hK31 (Gx [(0,E3 boxes),(2,G0 column),(3,U8 half),(9,G0 s27),(11,Ee y27),(14,E0 l),(15,Em l.length),(16,Em i27)] [] 1175 rfl rfl rfl G rfl (by repeat' (first | exact .ptr | constructor)) ?_))))))))
   refine Jr fun hK32=>(JLh (.dptr ((G6.cs y27).drop 1)) (Ga Hg O O O) O (JLh (.dptr ((G6.cs y27).drop 1)) (Ga Hk O O O) O (JLh (G0 y27.Slot.G4) (Gh Gc O O O) O (JLm (G0 column) O (JLh (BL (decide (y27.Slot.G4=column))) (Jk O O O) O (JLm (BL (decide (y27.Slot.G4=column))) O (JLo (.dptr ((G6.cs y27).drop 1)) [] O .sct G (fun hc=>Ga Hg O O O) O (JLo (.dptr [U8 y27.Slot.Half]) [26] O .sct ⟨Ua,G⟩ (fun hc=>Ga Jo O O O) O (JLo (U8 y27.Slot.Half) [27] O .sct ⟨Ua,G⟩ (fun hc=>Gh J5 O O O) O (JLo (U8 half) [] O .sct G (fun hc=>G5 O O) O (JLo (BL (decide (y27.Slot.Half=half))) [28,29] O .sct ⟨Ua,Ua,G⟩ (fun hc=>Jk O O O) O (JLo (BL (decide (y27.Slot.Half=half))) [30] O .sct ⟨Ua,G⟩ (fun hc=>G5 O O) O (JLo (.dptr ((G6.cs y27).drop 1)) [] O .optf G (fun hc=>Ga Hg O O O) O ?_)))))))))))))
   refine JLo (.dptr [U8 y27.Slot.Half]) [32] O .optf ⟨Ua,G⟩ (fun hc=>Ga Jo O O O) O (JLo (U8 y27.Slot.Half) [33] O .optf ⟨Ua,G⟩ (fun hc=>Gh J5 O O O) O (JLo (BL (decide (y27.Slot.Half=0))) [34] O .optf ⟨Ua,G⟩ (fun hc=>Jk O O O) O (Gb (u:=BL ((decide (y27.Slot.Half=half))||(decide (y27.Slot.Half=0)))) [(31,BL (decide (y27.Slot.Half=half))),(35,_)] O O O .sct ⟨.all id,.part,G⟩ (fun hc=>Y7 O O O O) ?_)))
   refine JLh (BL ((decide (y27.Slot.G4=column))&&((decide (y27.Slot.Half=half))||(decide (y27.Slot.Half=0))))) (J3 O O O O) O (G8 (hK32 (JCc O h (fun h hb=>?_) (fun h hb=>?_))))
   ·
    refine Jr fun hK33=>(JLm (E3 boxes) O (JLh (Ee y27) (Ga Q7 O O O) O (JLh (G0 y27.H2) (Gh Gc O O O) O ?_)))
    obtain⟨r34,hr34,h⟩:=Gf h
    refine JLh (.tup [.agg (H2.cs r34.1),BL r34.2]) (Gq O (J4c boxes y27.H2 r34 hr34) Q12 ⟨O,O,O,O,G⟩) O (JLm (.tup [.agg (H2.cs r34.1),BL r34.2]) O (JLh (.agg (H2.cs r34.1)) (Jn O O O) O (JLh (BL r34.2) (Jn O O O) O (JLh (.ptr 1176 0) (Ju 1176 9 Gdf O O) O (Ja (u:=.junk) (J0 (u:=.agg (H2.cs r34.1)) (ds:=(H2.cs r34.1)) G7c O O O O O O O O) (JLm (BL r34.2) O (G8 (hK33 ?_))))))))
    refine Gx [(0,E3 boxes),(2,G0 column),(3,U8 half),(9,G0 s27),(12,Eh r34.1),(13,BL r34.2),(14,E0 l),(15,Em l.length),(16,Em i27)] [] 1176 rfl rfl rfl G rfl (by repeat' (first | exact .ptr | constructor)) (Jr fun hK35=>(JLm (BL r34.2) O (G8 (hK35 (JCc O h (fun h hb=>?_) (fun h hb=>?_))))))
    ·
     refine G2 (JLm (G0 s27) O (JLh (.agg (H2.cs r34.1)) (Gi G5b O O O) O ?_))
     obtain⟨r36,hr36,h⟩:=Gf h
     refine JLh (G0 r36) (Gq O (M_stow_tall_w r34.1 r36 hr36) Q90 ⟨O,O,G⟩) O ?_
     obtain⟨v37,hv37,h⟩:=Jh h
     refine JLh (G0 v37) (Hx hv37 O O O) O (JLm (G0 v37) O (G8 (ej30 _ _ v37 h ⟨(by repeat' constructor),G,rfl⟩)))
    ·
     refine Gm (ej30 _ _ s27 h ⟨(by repeat' constructor),G,rfl⟩)
   ·
    refine Gm (ej30 _ _ s27 h ⟨(by repeat' constructor),G,rfl⟩)
  ·intro j30 h
   replace h:=app1 hkj30 h
   refine G2 (JLh (G0 ((i27+1:Nat):Int)) (Hx (Hc hk27 hm15) O O O) O (JLm (G0 ((i27+1:Nat):Int)) O (G8 (e27 _ _ (i27+1) j30 (app1 hn27 h) (by omega) ⟨(by repeat' constructor),G,rfl⟩))))
 ·
  have h:=app1 hkx27 (Ht hi27 (H9 hb))
  refine Hd (hK3 (Jr fun hK38=>(JLm (G0 s27) O (JLm (G0 s27) O (G8 (hK38 (Gt (fin1 G0 h))))))))

def H28 (s:H8) (boxes:List H2) (l:List G6) (column:Int):Option Bool:=
 Jc s.Columns column fun y3=>
 bnd (bif (!(decide (y3.Height≤0))) then G96 boxes l column 1 else some default) fun r6=>
 bnd (bif ((!(decide (y3.Height≤0)))&&(decide (r6≤y3.Height))) then G96 boxes l column 2 else some default) fun r7=>
 some ((decide (y3.Height≤0))||((decide (r6≤y3.Height))&&(decide (r7≤y3.Height))))
theorem M_stow_fits_w (s:H8) (boxes:List H2) (l:List G6) (column:Int) (r:Bool) (h:H28 s boxes l column=some r):Pure En 85 [.agg (H8.cs s),E3 boxes,E0 l,G0 column] (·=BL r):=by
 unfold H28 at h
 refine H0 [.tmp 8] Tryz.func85 O O (Jr fun hK1=>(JLh (.ptr 1126 0) (Jq (cs:=(H8.cs s)) 1126 O O O O O) O (JLm (BL false) O (G8 (hK1 (Gx [(1,E3 boxes),(2,E0 l),(3,G0 column),(4,Ed s)] [] 1126 rfl rfl rfl G rfl (by repeat' (first | exact .ptr | constructor)) ?_))))))
 refine Jr fun hK2=>(JLh (Ed s) (Ga Hi O O O) O (JLh (E5 s.Columns) (Gh Ho O O O) O (JLm (G0 column) O ?_)))
 obtain⟨m4,y3,hm4,hy3,h⟩:=R1 h
 refine JLh (Ef y3) (Gs (f:=G4.av) (xs:=s.Columns) (y:=y3) O O O H7 hy3 hm4) O (JLh (.dptr ((G4.cs y3).drop 4)) (Ga G49 O O O) O (JLh (G0 y3.Height) (Gh Gc O O O) O (JLm (G0 y3.Height) O (G8 (hK2 (Jr fun hK5=>(JLm (G0 y3.Height) O (JLh (BL (decide (y3.Height≤0))) (H97 O O O) O (JLm (BL (decide (y3.Height≤0))) O (JLo (E3 boxes) [] O .scf G (fun hc=>G5 O O) O (JLo (E0 l) [] O .scf G (fun hc=>G5 O O) O (JLo (G0 column) [] O .scf G (fun hc=>G5 O O) O ?_))))))))))))
 obtain⟨r6,hr6,h⟩:=Gf h
 refine JLo (G0 r6) [19,20,21] O .scf ⟨Ua,Ua,Ua,G⟩ (fun hc=>Gq (args:=[E3 boxes,E0 l,G0 column,U8 1]) O (Hee boxes l column 1 r6 (Gv hc hr6)) Jc6 ⟨O,O,O,O,O,O,O,O,G⟩) O (JLo (G0 y3.Height) [] O .scf G (fun hc=>G5 O O) O (JLo (BL (decide (r6≤y3.Height))) [22,23] O .scf ⟨Ua,Ua,G⟩ (fun hc=>H97 O O O) O (JLo (BL (decide (r6≤y3.Height))) [24] O .scf ⟨Ua,G⟩ (fun hc=>G5 O O) O (JLo (E3 boxes) [] O .optt G (fun hc=>G5 O O) O (JLo (E0 l) [] O .optt G (fun hc=>G5 O O) O (JLo (G0 column) [] O .optt G (fun hc=>G5 O O) O ?_))))))
 obtain⟨r7,hr7,h⟩:=Gf h
 refine JLo (G0 r7) [26,27,28] O .optt ⟨Ua,Ua,Ua,G⟩ (fun hc=>Gq (args:=[E3 boxes,E0 l,G0 column,U8 2]) O (Hee boxes l column 2 r7 (Gv hc hr7)) Jc6 ⟨O,O,O,O,O,O,O,O,G⟩) O (JLo (G0 y3.Height) [] O .optt G (fun hc=>G5 O O) O (JLo (BL (decide (r7≤y3.Height))) [29,30] O .optt ⟨Ua,Ua,G⟩ (fun hc=>H97 O O O) O (Gb (u:=BL ((decide (r6≤y3.Height))&&(decide (r7≤y3.Height)))) [(25,BL (decide (r6≤y3.Height))),(31,_)] O O O .scf ⟨.all id,.part,G⟩ (fun hc=>J3 O O O O) ?_)))
 refine JLh (BL ((decide (y3.Height≤0))||((decide (r6≤y3.Height))&&(decide (r7≤y3.Height))))) (Y7 O O O O) O (JLm (BL ((decide (y3.Height≤0))||((decide (r6≤y3.Height))&&(decide (r7≤y3.Height))))) O (G8 (hK5 (Gt (fin1 BL h)))))
end
end Go.Proofs.YteogacmpgdpjlaaGreat
