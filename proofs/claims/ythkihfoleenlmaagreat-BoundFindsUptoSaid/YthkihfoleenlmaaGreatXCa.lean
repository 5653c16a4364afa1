/- Walks of functions. -/
import Derived.Test.YthkihfoleenlmaaGreatFrz
import Derived.Test.YthkihfoleenlmaaGreatWp
set_option maxRecDepth 100000
set_option maxHeartbeats 1000000
set_option linter.unusedVariables false
set_option linter.unusedSimpArgs false
namespace Go.Proofs.YthkihfoleenlmaaGreat
open Go.RowKit
noncomputable section
structure G8 where
 G5:G5
 Whole:Int
 Half:Int
 deriving DecidableEq,Inhabited
def G8.cs (x:G8):List AV:=[I64 x.G5.Load,I64 x.G5.Discharge,I64 x.Whole,I64 x.Half]
def G8.av (x:G8):AV:=.agg x.cs
abbrev Eg (x:G8):AV:=.dptr (G8.cs x)
abbrev Eb:=LS 4 G8.av
namespace XCF
open XAF
open XLF
open XBF
theorem iC:eY Ej 161 4=true:=by kernel_rfl
theorem Z3:H8 Ej 107=true:=by kernel_rfl
theorem Ga3:H8 Ej 108=true:=by kernel_rfl
theorem Ga2:H8 Ej 109=true:=by kernel_rfl
theorem H15:H8 Ej 14=true:=by kernel_rfl
theorem HM:H8 Ej 171=true:=by kernel_rfl
theorem G92:H8 Ej 176=true:=by kernel_rfl
theorem eC:H8 Ej 177=true:=by kernel_rfl
theorem HJ:H8 Ej 178=true:=by kernel_rfl
theorem G91:H8 Ej 179=true:=by kernel_rfl
theorem G90:H8 Ej 180=true:=by kernel_rfl
theorem HI:H8 Ej 181=true:=by kernel_rfl
theorem G8f:H8 Ej 182=true:=by kernel_rfl
theorem G88:H8 Ej 221=true:=by kernel_rfl
theorem H09:H8 Ej 47=true:=by kernel_rfl
theorem RJ:H8 Ej 71=true:=by kernel_rfl
theorem H00:H8 Ej 75=true:=by kernel_rfl
theorem Gff:H8 Ej 76=true:=by kernel_rfl
theorem Gfe:H8 Ej 77=true:=by kernel_rfl
theorem Gfd:H8 Ej 79=true:=by kernel_rfl
theorem Gfc:H8 Ej 80=true:=by kernel_rfl
theorem Gfb:H8 Ej 81=true:=by kernel_rfl
theorem Gfa:H8 Ej 82=true:=by kernel_rfl
theorem Gf9:H8 Ej 83=true:=by kernel_rfl
theorem RI:H8 Ej 84=true:=by kernel_rfl
theorem Gf8:H8 Ej 85=true:=by kernel_rfl
theorem HD:Qd Ej 137 1 24=true:=by kernel_rfl
theorem HC:Qd Ej 139 2 16=true:=by kernel_rfl
theorem G85:Qd Ej 146 1 24=true:=by kernel_rfl
theorem pJ:Qd Ej 161 4 32=true:=by kernel_rfl
theorem dM:Je Ej 161 0 0=true:=by kernel_rfl
theorem dL:Je Ej 161 1 2=true:=by kernel_rfl
theorem dK:Je Ej 161 2 3=true:=by kernel_rfl
theorem kM:placesOf Ej 161=some [(0,2),(2,1),(3,1)]:=by kernel_rfl
theorem G06:Ja Ej 146=true:=by kernel_rfl
theorem G84:Rg Ej 137 1=true:=by kernel_rfl
theorem kV:Rg Ej 161 4=true:=by kernel_rfl
theorem mE:sliceB Ej 148 146 1=true:=by kernel_rfl
theorem Jk:sliceB Ej 159 161 4=true:=by kernel_rfl
theorem G7c:(Ej.info? 137).bind (fun i=>i.zero.map Value.cells)=some (List.toArray [.slice none 0 0]):=by kernel_rfl
theorem G7b:(Ej.info? 155).bind (fun i=>i.zero.map Value.cells)=some (List.toArray [E0,E0,E0,E0]):=by kernel_rfl
theorem iI:(Ej.info? 161).bind (fun i=>i.zero.map Value.cells)=some (List.toArray [E0,E0,E0,E0]):=by kernel_rfl
theorem rI:Rr Ej 137 1=true:=by kernel_rfl
theorem G47:Rr Ej 146 1=true:=by kernel_rfl
theorem eE:Rr Ej 161 4=true:=by kernel_rfl
end XCF
open XAF
open XLF
open XBF
open XCF

def fO (c:G1):Option Int:=
 chk (2*c.Whole) fun a=>
 chk (a+c.Half) fun b=>
 some b
theorem qW (c:G1) (r:Int) (h:fO c=some r):Pure Ej 171 [.agg (G1.cs c)] (·=I64 r):=by
 unfold fO at h
 refine Gy [.tmp 2] Tryz.func171 ø ø (Jr fun a=>(JLh (.ptr 1125 0) (Qr (cs:=[I64 c.G5.Load,I64 c.G5.Discharge,I64 c.Whole,I64 c.Half]) 1125 ø ø ø ø ø) ø (JLm (I64 0) ø (G7 (a (H1 [(1,Ed c)] [] 1125 rfl rfl rfl þ rfl (by exact⟨.ptr,þ⟩) (Jr fun b=>(JLh (.dptr [I64 c.Whole,I64 c.Half]) (Gb aN ø ø ø) ø (JLh (I64 c.Whole) (Gj Ga ø ø ø) ø ?_)))))))))
 obtain⟨g,d,h⟩:=Hd h
 refine JLh (I64 g) (fF d ø ø ø) ø (JLh (.dptr [I64 c.Half]) (Gb aM ø ø ø) ø (JLh (I64 c.Half) (Gj Ga ø ø ø) ø ?_))
 obtain⟨e,f,h⟩:=Hd h
 refine JLh (I64 e) (Hf f ø ø ø) ø (JLm (I64 e) ø (G7 (b (Gt (fin1 I64 h)))))

def cY (F:Nat) (counts:List G1) (call:Int):Option (List G1):=
 each (fun h b3 (c:(List G1)) u=>
  jp (fun o=>
   bif ((decide (h.G5.Load≤call))&&(decide (call < h.G5.Discharge))) then
   (need (decide ((c.length+[h].length)*32≤140737488355328∧c.length+[h].length≤maxLen)) <|
    o (c++[h]))
   else
   (o c)) fun(a7:(List G1))=>
  u a7)
 (fun(c:(List G1))=>
  bnd (iM (c.length:Int)) fun l=>
  need (decide (8*l≤281474976710656∧l≤maxLen∧l*1≤16777216)) <|
  bnd (iM (c.length:Int)) fun m=>
  need (decide (8*m≤281474976710656∧m≤maxLen∧m*1≤16777216)) <|
  chk ((c.length:Int) - 1) fun a8=>
  loop (fun v (b:Int×Int×(List Int)×(List Int))=>
   bif decide (0≤b.2.1) then
   (jp (fun p=>
     Jx b.2.2.2 b.2.1 fun b4=>
     chk ((c.length:Int) - 1) fun a9=>
     loop (fun s (a:Int×(List Int)×(List Int))=>
      bif decide (b.2.1 < a.1) then
      (jp (fun n=>
        Jx c a.1 fun e=>
        Jx c b.2.1 fun f=>
        bnd (bif decide (f.G5.Load < e.G5.Load) then Jx c a.1 some else some default) fun i=>
        bnd (bif decide (f.G5.Load < e.G5.Load) then Jx c b.2.1 some else some default) fun j=>
        bnd (bif ((decide (f.G5.Load < e.G5.Load))&&(decide (j.G5.Discharge < i.G5.Discharge))) then Jx a.2.1 a.1 some else some default) fun w=>
        bnd (bif ((decide (f.G5.Load < e.G5.Load))&&(decide (j.G5.Discharge < i.G5.Discharge))) then Jx a.2.1 b.2.1 some else some default) fun x=>
        bif (((decide (f.G5.Load < e.G5.Load))&&(decide (j.G5.Discharge < i.G5.Discharge)))&&(decide (x≤w))) then
        (Jx a.2.1 a.1 fun y=>
         Jx a.2.1 b.2.1 fun b0=>
         Jx a.2.2 b.2.1 fun b1=>
         n ((a.2.1.set b.2.1.toNat y),(a.2.2.set b.2.1.toNat a.1)))
        else
        (n (a.2.1,a.2.2))) fun(q:(List Int)×(List Int))=>
       chk (a.1 - 1) fun z=>
       s (z,q.1,q.2))
      else
      (Jx a.2.1 b.2.1 fun a0=>
       Jx c b.2.1 fun a1=>
       bnd (fO a1) fun a2=>
       chk (a0+a2) fun g=>
       Jx a.2.1 b.2.1 fun b2=>
       bnd (bif (!(decide (b.1 < 0))) then Jx (a.2.1.set b.2.1.toNat g) b.2.1 some else some default) fun a3=>
       bnd (bif (!(decide (b.1 < 0))) then Jx (a.2.1.set b.2.1.toNat g) b.1 some else some default) fun a4=>
       bif ((decide (b.1 < 0))||(decide (a4≤a3))) then
       (p (b.2.1,(a.2.1.set b.2.1.toNat g),a.2.2))
       else
       (p (b.1,(a.2.1.set b.2.1.toNat g),a.2.2)))) F (a9,b.2.2.1,(b.2.2.2.set b.2.1.toNat (-1)))) fun(r:Int×(List Int)×(List Int))=>
    chk (b.2.1 - 1) fun a5=>
    v (r.1,a5,r.2.1,r.2.2))
   else
   (loop (fun t (d:(List G1)×Int)=>
     bif decide (0≤d.2) then
     (Jx c d.2 fun k=>
      need (decide ((d.1.length+[k].length)*32≤140737488355328∧d.1.length+[k].length≤maxLen)) <|
      Jx b.2.2.2 d.2 fun a6=>
      t ((d.1++[k]),a6))
     else
     (some d.1)) F ([],b.1))) F ((-1),a8,(List.replicate l (0:Int)),(List.replicate m (0:Int)))) counts 0 []
def dV (F:Nat) (l:List G1) (a:H2):Option Int:=
 bnd (aI F a l) fun b=>
 some b
theorem GP (F:Nat) (l:List G1) (a:H2) (r:Int) (h:dV F l a=some r):Pure Ej 77 [E4 l,Ec a] (·=I64 r):=by
 unfold dV at h
 refine Gy [.tmp 3] Tryz.func77 ø ø (Jr fun c=>(JLm (I64 0) ø (G7 (c (Jr fun d=>(JLh (.agg (H2.cs a)) (Gk Qa ø ø ø) ø (JLm (E4 l) ø ?_)))))))
 obtain⟨b,e,h⟩:=Ge h
 refine JLh (I64 b) (Gq ø (lS F a l b e) wJ ⟨ø,ø,ø,ø,þ⟩) ø (JLm (I64 b) ø (G7 (d (Gt (fin1 I64 h)))))

def R1 (l:List (List G1)) (number:(List G1)→Option Int):Option ((List G1)×Int):=
 each (fun c g (a:(List G1)×Int) f=>
  jp (fun b=>
   bnd (number c) fun d=>
   bif decide (a.2 < d) then
   (b (c,d))
   else
   (b (a.1,a.2))) fun(e:(List G1)×Int)=>
  f (e.1,e.2))
 (fun(a:(List G1)×Int)=>
  some (a.1,a.2)) l 0 ([],0)
theorem lF (l:List (List G1)) (number:(List G1)→Option Int) (number_f:FuncId) (number_c:List AV) (number_B:H8 Ej number_f=true) (number_d:Yn (fun _=>false) number_c=true) (number_w:∀ a0 q,number a0=some q→Pure Ej number_f ([E4 a0]++number_c) (·=I64 q)) (r:(List G1)×Int) (h:R1 l number=some r):Pure Ej 76 [LS 1 (E4) l,.fn number_f number_c] (·=.tup [E4 r.1,I64 r.2]):=by
 unfold R1 at h
 refine Gy [.tmp 4,.tmp 5] Tryz.func76 ø ø (Jr fun a3=>(JLh (E4 ([]:List G1)) (Qu 4 ø ø) ø (JLm (I64 0) ø (G7 (a3 (Jr fun a4=>(JLh (E4 ([]:List G1)) (Qu 4 ø ø) ø (G7 (a4 (Jr fun a5=>(JLm (I64 0) ø (G7 (a5 (Js fun a6=>Jr fun a7=>(JLm (LS 1 (E4) l) ø (JLl mE ø ø ø fun m=>(JLm (I64 0) ø (G7 (a7 (Gi ?_))))))))))))))))))))
 obtain⟨a8,n,o,j,h⟩:=Jg h
 refine H7 (fun b (a:(List G1)×Int)=>each a8 n (List.drop b l) b a=some r) (fun b a=>[(1,.fn number_f number_c),(6,E4 a.1),(7,I64 a.2),(11,LS 1 (E4) l),(12,Ei l.length),(13,Ei b)]) (fun b a=>[]) (fun b=>l.length - b) 0 ([],0) h ⟨⟨.same (Ye _ _ number_d),.same ø,.same ø,.same ø,.same ø,.same ø,þ⟩,þ,ø⟩ ?_
 clear h
 intro b a g b1 a9
 refine Jr fun p=>(JLh (BL (decide ((b:Int) < (l.length:Int)))) (Ht ø ø ø) ø (G7 (p (Js fun s=>Gm ø (fun hb=>?_) (fun hb=>?_)))))
 ·
  have i:=Q1 hb
  obtain⟨c,b0,t,u,h⟩:=J4 g i
  replace h:=Zt o h
  refine Gn (s ?_)
  obtain⟨v,k,h⟩:=bE h
  refine Rh (fun d:(List G1)×Int=>v d=some r) (fun d=>[(1,.fn number_f number_c),(6,E4 d.1),(7,I64 d.2),(11,LS 1 (E4) l),(12,Ei l.length),(13,Ei b)]) (fun d=>[]) (fun Kj25 ej25=>?_) ?_
  ·
   refine Gi (Jr fun w=>(JLh (.dptr [E4 c]) (Gs (f:=(E4)) (xs:=l) (y:=c) ø ø ø mE t ø) ø (JLh (E4 c) (Gj G06 ø ø ø) ø (JLm (E4 c) ø (G7 (w (Jr fun x=>(JLm (.fn number_f number_c) ø (JLm (E4 c) ø ?_)))))))))
   obtain⟨e,z,h⟩:=Ge h
   refine JLh (I64 e) (rD (args:=[E4 c]) (caps:=number_c) ø ø (number_w c _ z) number_B ⟨ø,ø,þ⟩ number_d) ø (JLm (I64 e) ø (G7 (x (Jr fun a1=>(JLm (I64 e) ø (JLm (I64 a.2) ø (JLh (BL (decide (a.2 < e))) (Ya ø ø ø) ø (G7 (a1 (JCc ø h (fun h hb=>?_) (fun h hb=>?_)))))))))))
   ·
    refine G2 (JLm (E4 c) ø (JLm (I64 e) ø (JLm (E4 c) ø (JLm (I64 e) ø (G7 (ej25 _ _ (c,e) h ⟨⟨.same (Ye _ _ number_d),.same ø,.same ø,.same ø,.same ø,.same ø,þ⟩,þ,ø⟩))))))
   ·
    refine Gn (ej25 _ _ (a.1,a.2) h ⟨⟨.same (Ye _ _ number_d),.same ø,.same ø,.same ø,.same ø,.same ø,þ⟩,þ,ø⟩)
  ·intro d h
   replace h:=app1 k h
   refine G2 (JLh (I64 ((b+1:Nat):Int)) (Hf (Hq i m) ø ø ø) ø (JLm (I64 ((b+1:Nat):Int)) ø (G7 (a9 _ _ (b+1) (d.1,d.2) (app1 u h) (by omega) ⟨⟨.same (Ye _ _ number_d),.same rfl,.same rfl,.same rfl,.same rfl,.same rfl,þ⟩,þ,rfl⟩))))
 ·
  have h:=app1 j (J5 g (Hg hb))
  refine H5 (a6 (Jr fun a2=>(JLm (E4 a.1) ø (JLm (I64 a.2) ø (JLm (E4 a.1) ø (JLm (I64 a.2) ø (G7 (a2 (Gt (⟨[E4 a.1,I64 a.2],[],þ,ø,⟨⟨_,ø,.conv (.same ø)⟩,⟨_,ø,.conv (.same ø)⟩,þ⟩,ø,congrArg (fun r:(List G1)×Int=>(.tup [E4 r.1,I64 r.2]:AV)) (Nv h)⟩))))))))))

def Zd (s:List G5) (v:G5):Option Int:=
 each (fun b c (d:Unit) a=>
  bif decide (v=b) then
  (some (c:Int))
  else
  (a ()))
 (fun(d:Unit)=>
  some (-1)) s 0 ()
abbrev M9 (v:G5):List AV:=[I64 v.Load,I64 v.Discharge]
theorem pE (s:List G5) (v:G5) (r:Int) (h:Zd s v=some r):Pure Ej 176 [E2 s,.agg [I64 v.Load,I64 v.Discharge]] (·=I64 r):=by
 unfold Zd at h
 refine Gy [.tmp 4] Tryz.func176 ø ø (Jr fun w=>(JLh (.ptr 1130 0) (Qr (cs:=(M9 v)) 1130 ø ø ø ø ø) ø (JLm (I64 0) ø (G7 (w (H1 [(0,E2 s),(3,.dptr (M9 v))] [] 1130 rfl rfl rfl þ rfl (by exact⟨.conv (.same rfl),.ptr,þ⟩) (Js fun x=>Jr fun z=>(JLm (E2 s) ø (JLl Hx ø ø ø fun a0=>(JLm (I64 0) ø (G7 (z (Gi ?_)))))))))))))
 obtain⟨a1,i,j,g,h⟩:=Jg h
 refine H7 (fun a (c:Unit)=>each a1 i (List.drop a s) a c=some r) (fun a c=>[(0,E2 s),(3,.dptr (M9 v)),(7,Ei s.length),(8,Ei a)]) (fun a c=>[]) (fun a=>s.length - a) 0 () h ⟨(.sm ø ø),þ,rfl⟩ ?_
 clear h
 intro a c d a4 a2
 refine Jr fun k=>(JLh (BL (decide ((a:Int) < (s.length:Int)))) (Ht ø ø ø) ø (G7 (k (Js fun l=>Gm ø (fun hb=>?_) (fun hb=>?_)))))
 ·
  have e:=Q1 hb
  obtain⟨b,a3,m,n,h⟩:=J4 d e
  replace h:=Zt j h
  refine Gn (l (Js fun o=>Gi (Jr fun p=>(JLm (Ei a) ø (JLm (Ei a) ø (G7 (p (Js fun q=>JC_d0 J9 (by kernel_rfl) (Dq (.agg (M9 v)) (Gk Hm ø ø ø) ø (Dq (E2 s) (G3 ø ø) ø (Dq (Ei a) (G3 ø ø) ø (Dq (.dptr [I64 b.Load,I64 b.Discharge]) (Gs (f:=G5.av) (xs:=s) (y:=b) ø ø ø Hx m ø) ø (Dq (.agg [I64 b.Load,I64 b.Discharge]) (Gk Hm ø ø ø) ø (Dq (BL (decide (v=b))) (hY (vs:=[.int .i64 v.Load,.int .i64 v.Discharge]) (us:=[.int .i64 b.Load,.int .i64 b.Discharge]) 4 ø (zJ v b) mF rO ø ø ø) ø (Dnil (q (JCc ø h (fun h hb=>?_) (fun h hb=>?_))))))))))))))))))
  ·
   refine Jr fun t=>(JLm (Ei a) ø (JLm (Ei a) ø (G7 (t (Gt (fin1 I64 h))))))
  ·
   refine Gn (o (G2 (JLh (I64 ((a+1:Nat):Int)) (Hf (Hq e a0) ø ø ø) ø (JLm (I64 ((a+1:Nat):Int)) ø (G7 (a2 _ _ (a+1) () (app1 n h) (by omega) ⟨(.sm ø ø),þ,rfl⟩))))))
 ·
  have h:=app1 g (J5 d (Hg hb))
  refine H5 (x (Jr fun u=>(JLm (I64 (-1)) ø (G7 (u (Gt (fin1 I64 h)))))))

def Yd (s:List G5) (v:G5):Option Bool:=
 bnd (Zd s v) fun a=>
 some (decide (0≤a))
theorem lP (s:List G5) (v:G5) (r:Bool) (h:Yd s v=some r):Pure Ej 81 [E2 s,.agg [I64 v.Load,I64 v.Discharge]] (·=BL r):=by
 unfold Yd at h
 refine Gy [.tmp 4] Tryz.func81 ø ø (Jr fun b=>(JLh (.ptr 1078 0) (Qr (cs:=[I64 v.Load,I64 v.Discharge]) 1078 ø ø ø ø ø) ø (JLm (BL false) ø (G7 (b (H1 [(0,E2 s),(3,.dptr [I64 v.Load,I64 v.Discharge])] [] 1078 rfl rfl rfl þ rfl (by exact⟨.conv (.same rfl),.ptr,þ⟩) (Jr fun c=>(JLm (E2 s) ø (JLh (.agg [I64 v.Load,I64 v.Discharge]) (Gk Hm ø ø ø) ø ?_)))))))))
 obtain⟨a,d,h⟩:=Ge h
 refine JLh (I64 a) (Gq ø (pE s v a d) G92 ⟨ø,ø,ø,ø,þ⟩) ø (JLh (BL (decide (0≤a))) (dF ø ø ø) ø (JLm (BL (decide (0≤a))) ø (G7 (c (Gt (fin1 BL h))))))

def dU (c:G1) (a:List G5):Option Bool:=
 bnd (Yd a c.G5) fun b=>
 some b
theorem GN (c:G1) (a:List G5) (r:Bool) (h:dU c a=some r):Pure Ej 80 [.agg (G1.cs c),.dptr [E2 a]] (·=BL r):=by
 unfold dU at h
 refine Gy [.tmp 3] Tryz.func80 ø ø (Jr fun d=>(JLh (.ptr 1077 0) (Qr (cs:=[I64 c.G5.Load,I64 c.G5.Discharge,I64 c.Whole,I64 c.Half]) 1077 ø ø ø ø ø) ø (JLm (BL false) ø (G7 (d (H1 [(1,.dptr [E2 a]),(2,Ed c)] [] 1077 rfl rfl rfl þ rfl (by exact⟨.conv (.same rfl),.ptr,þ⟩) (Jr fun e=>(JLh (E2 a) (Gj bK ø ø ø) ø (JLh (Ed c) (Gb Q0 ø ø ø) ø (JLh (.agg [I64 c.G5.Load,I64 c.G5.Discharge]) (Gk Hm ø ø ø) ø ?_))))))))))
 obtain⟨b,f,h⟩:=Ge h
 refine JLh (BL b) (Gq ø (lP a c.G5 b f) Gfb ⟨ø,ø,ø,ø,þ⟩) ø (JLm (BL b) ø (G7 (e (Gt (fin1 BL h)))))


abbrev Ma (a:(List G1)):Nat×Jn:=(1065,.spare 155 4 a.length a.length)
abbrev Mb (counts_q:Nat) (counts:List G1):Nat×Jn:=(1060,.vec 155 4 counts_q (counts.map G1.av))
abbrev Mc (b:(List G1)) (c:Nat) (d:Nat) (a:Int×Int×(List Int)×(List Int)):Fr:=[(5,OW 1065 4 G1.av b),(8,.vec 1068 0 1 ((List.replicate c (0:Int)).length)),(9,.vec 1069 0 1 ((List.replicate d (0:Int)).length)),(10,I64 a.1),(11,I64 a.2.1)]
abbrev Md (c:(List G1)) (d:Nat) (e:Nat) (a:Int×Int×(List Int)×(List Int)) (b:Int×(List Int)×(List Int)):Fr:=[(5,OW 1065 4 G1.av c),(8,.vec 1068 0 1 ((List.replicate d (0:Int)).length)),(9,.vec 1069 0 1 ((List.replicate e (0:Int)).length)),(10,I64 a.1),(11,I64 a.2.1),(12,I64 b.1)]
abbrev Me (a:Int×(List Int)×(List Int)):Nat×Jn:=(1069,.vec 3 1 0 (a.2.2.map I64))
abbrev Mf (a:Int×(List Int)×(List Int)):Nat×Jn:=(1068,.vec 3 1 0 (a.2.1.map I64))
theorem qJ (F:Nat) (counts:List G1) (counts_q:Nat) (call:Int) (r:(List G1)) (h:cY F counts call=some r):R5 Ej 75 [.vec 1060 counts_q 4 counts.length,I64 call] [(1060,.vec 155 4 counts_q (counts.map G1.av))] (fun av L'=>av=E4 r∧L'=[(1060,.vec 155 4 counts_q (counts.map G1.av))]):=by
 unfold cY at h
 refine dA [1060] [.tmp 4] Tryz.func75 ø ø (YF ø) (Jr fun l2=>(JLh (E4 ([]:List G1)) (Qu 4 ø ø) ø (G7 (l2 (Jr fun l3=>(JLh (OW 1065 4 G1.av ([]:List G1)) (eP 1065 155 4 ø ø ø) ø (G7 (l3 (Js fun l4=>Jr fun l5=>(JLm (.vec 1060 counts_q 4 counts.length) ø (yV (f:=G1.av) (xs:=counts) H6 ø ø ø (fun h8=>?_) ø ø ø)))))))))))
 refine JLm (I64 0) ø (G7 (l5 (Gi ?_)))
 obtain⟨l6,h9,i0,e0,h⟩:=Jg h
 refine H7 (fun j (c:(List G1))=>each l6 h9 (List.drop j counts) j c=some r) (fun j c=>[(1,I64 call),(5,OW 1065 4 G1.av c),(15,.vec 1060 counts_q 4 counts.length),(16,Ei counts.length),(17,Ei j)]) (fun j c=>[(Mb counts_q counts),(Ma c)]) (fun j=>counts.length - j) 0 [] h ⟨(.sm ø ø),⟨⟨_,rfl,.vec⟩,⟨_,rfl,.same⟩,þ⟩,rfl⟩ ?_
 clear h
 intro j c c4 n4 l7
 refine Jr fun i1=>(JLh (BL (decide ((j:Int) < (counts.length:Int)))) (Ht ø ø ø) ø (G7 (i1 (Js fun i2=>Gm ø (fun hb=>?_) (fun hb=>?_)))))
 ·
  have c5:=Q1 hb
  obtain⟨e,m4,c6,i3,h⟩:=J4 c4 c5
  replace h:=Zt i0 h
  refine Gn (i2 ?_)
  obtain⟨i4,e1,h⟩:=bE h
  refine Rh (fun a0:(List G1)=>i4 a0=some r) (fun a0=>[(1,I64 call),(5,OW 1065 4 G1.av a0),(15,.vec 1060 counts_q 4 counts.length),(16,Ei counts.length),(17,Ei j)]) (fun a0=>[(Mb counts_q counts),(Ma a0)]) (fun Kj20 ej20=>?_) ?_
  ·
   refine Gi (Jr fun i5=>(JLh (.vptr 1060 counts_q j 0) (R2 (f:=G1.av) (xs:=counts) (y:=e) ø ø ø ø H6 c6 ø) ø (JLh (.agg (G1.cs e)) (JY (f:=G1.av) (xs:=counts) (y:=e) Qw ø ø ø c6 ø ø) ø (JLh (.ptr 1066 0) (Q3 1066 4 R7 ø ø) ø (J7 (u:=.junk) (Hw (u:=.agg (G1.cs e)) (ds:=[I64 e.G5.Load,I64 e.G5.Discharge,I64 e.Whole,I64 e.Half]) bJ ø ø ø ø ø ø ø ø) (G7 (i5 ?_)))))))
   refine fzQ [(1,I64 call),(5,OW 1065 4 G1.av c),(7,Ed e),(15,.vec 1060 counts_q 4 counts.length),(16,Ei counts.length),(17,Ei j)] [(Mb counts_q counts),(Ma c)] 1066 rfl rfl rfl ⟨⟨_,rfl,.vec⟩,⟨_,rfl,.same⟩,þ⟩ rfl ?_
   refine Jr fun i6=>(JLh (Ed e) (Gb Q0 ø ø ø) ø (JLh (Ed e) (Gb Jm ø ø ø) ø (JLh (I64 e.G5.Load) (Gj Ga ø ø ø) ø (JLm (I64 call) ø (JLh (BL (decide (e.G5.Load≤call))) (oO ø ø ø) ø (JLm (BL (decide (e.G5.Load≤call))) ø (JLo (I64 call) [] ø .sct þ (fun hc=>G3 ø ø) ø (JLo (Ed e) [] ø .sct þ (fun hc=>Gb Q0 ø ø ø) ø (JLo (.dptr ((G1.cs e).drop 1)) [28] ø .sct ⟨Ua,þ⟩ (fun hc=>Gb Jv ø ø ø) ø (JLo (I64 e.G5.Discharge) [29] ø .sct ⟨Ua,þ⟩ (fun hc=>Gj Ga ø ø ø) ø (JLo (BL (decide (call < e.G5.Discharge))) [27,30] ø .sct ⟨Ua,Ua,þ⟩ (fun hc=>Ht ø ø ø) ø (JLh (BL ((decide (e.G5.Load≤call))&&(decide (call < e.G5.Discharge)))) (Jf ø ø ø ø) ø (G7 (i6 ?_))))))))))))))
   refine JCc ø h ?_ ?_<;>intro h hb
   ·
    refine G2 (JLm (OW 1065 4 G1.av c) ø (JLh (.agg (G1.cs e)) (Gk Qw ø ø ø) ø (JLh (E4 [e]) (Hn (xs:=[.agg (G1.cs e)]) ø ⟨ø,ø,þ⟩ H6 R7 ø ø ø ø) ø ?_)))
    obtain⟨i7,h⟩:=J2 h
    refine JLh (OW 1065 4 G1.av (c++[e])) (R3 (f:=G1.av) (xs:=c) (ys:=[e]) ø ø ø ø H6 fK i7 (fun _=>ø) (.inl ø) ø) ø (JLm (OW 1065 4 G1.av (c++[e])) ø (G7 (ej20 _ _ (c++[e]) h ⟨(.sm ø ø),⟨⟨_,rfl,.vec⟩,⟨_,rfl,.same⟩,þ⟩,rfl⟩)))
   ·
    refine Gn (ej20 _ _ c h ⟨(.sm ø ø),⟨⟨_,rfl,.vec⟩,⟨_,rfl,.same⟩,þ⟩,rfl⟩)
  ·intro a0 h
   replace h:=app1 e1 h
   refine G2 (JLh (I64 ((j+1:Nat):Int)) (Hf (Hq c5 h8) ø ø ø) ø (JLm (I64 ((j+1:Nat):Int)) ø (G7 (l7 _ _ (j+1) a0 (app1 i3 h) (by omega) ⟨(.sm ø ø),⟨⟨_,rfl,.vec⟩,⟨_,rfl,.same⟩,þ⟩,rfl⟩))))
 ·
  have h:=app1 e0 (J5 c4 (Hg hb))
  refine H5 (l4 (Js fun i8=>Zh (l':=[(5,OW 1065 4 G1.av c)]) (L':=[(Mb counts_q counts),(Ma c)]) ⟨⟨.same ø,þ⟩,⟨⟨_,ø,.vec⟩,⟨_,ø,.same⟩,þ⟩,ø⟩ ?_))
  obtain⟨g,a8,h⟩:=Ge h
  obtain⟨c7,h⟩:=J2 h
  obtain⟨i,a9,h⟩:=Ge h
  obtain⟨c8,h⟩:=J2 h
  refine ZL [2,5] [[[false,false],[false,true]],[[false,false],[false,true]],[[false,false],[false,true]],[[false,false],[true,false]],[[false,false],[true,false]],[[false,false],[true,false]],[[true,false],[true,true]],[[true,true]]] [([false,false],[(Mb counts_q counts),(Ma c)]),([false,true],[(Mb counts_q counts),(Ma c),(1069,.vec 3 1 0 ((List.replicate i (0:Int)).map I64))]),([true,false],[(Mb counts_q counts),(Ma c),(1068,.vec 3 1 0 ((List.replicate g (0:Int)).map I64))]),([true,true],[(Mb counts_q counts),(Ma c),(1068,.vec 3 1 0 ((List.replicate g (0:Int)).map I64)),(1069,.vec 3 1 0 ((List.replicate i (0:Int)).map I64))])] J9 (by kernel_rfl) rfl rfl ?_
  refine fE (u:=OW 1065 4 G1.av c) ø ⟨.ro ø ø (Gg (G3 ø ø) ø),.ro ø ø (Gg (G3 ø ø) ø),þ⟩ ?_ ø
  refine fE (u:=Ei c.length) ø ⟨.ro ø ø (Gg (Q4 (f:=G1.av) (xs:=c) H6 ø ø) ø),.ro ø ø (Gg (Q4 (f:=G1.av) (xs:=c) H6 ø ø) ø),þ⟩ ?_ ø
  refine fE (u:=.vec 1068 0 1 ((List.replicate g (0:Int)).length)) ø ⟨.w [1060,1065,1068] ø ø (Gg (eO 1068 (f:=I64) (n:=g) 0 [E0] ø ø ø ø Gr aU dI (Qe a8) (Qe a8) c7 ⟨.inl ø,þ⟩ ø) ø) ø ø ⟨ø,ø,ø,þ⟩,.w [1060,1065,1069,1068] ø ø (Gg (eO 1068 (f:=I64) (n:=g) 0 [E0] ø ø ø ø Gr aU dI (Qe a8) (Qe a8) c7 ⟨.inl ø,þ⟩ ø) ø) ø ø ⟨ø,ø,ø,ø,þ⟩,þ⟩ ?_ ø
  refine fE (u:=OW 1065 4 G1.av c) ø ⟨.ro ø ø (Gg (G3 ø ø) ø),.ro ø ø (Gg (G3 ø ø) ø),þ⟩ ?_ ø
  refine fE (u:=Ei c.length) ø ⟨.ro ø ø (Gg (Q4 (f:=G1.av) (xs:=c) H6 ø ø) ø),.ro ø ø (Gg (Q4 (f:=G1.av) (xs:=c) H6 ø ø) ø),þ⟩ ?_ ø
  refine fE (u:=.vec 1069 0 1 ((List.replicate i (0:Int)).length)) ø ⟨.w [1060,1065,1069] ø ø (Gg (eO 1069 (f:=I64) (n:=i) 0 [E0] ø ø ø ø Gr aU dI (Qe a9) (Qe a9) c8 ⟨.inl ø,þ⟩ ø) ø) ø ø ⟨ø,ø,ø,þ⟩,.w [1060,1065,1068,1069] ø ø (Gg (eO 1069 (f:=I64) (n:=i) 0 [E0] ø ø ø ø Gr aU dI (Qe a9) (Qe a9) c8 ⟨.inl ø,þ⟩ ø) ø) ø ø ⟨ø,ø,ø,ø,þ⟩,þ⟩ ?_ ø
  refine fE (u:=.vec 1068 0 1 ((List.replicate g (0:Int)).length)) ø ⟨.ro ø ø (Gg (G6 ø ø) ø),.ro ø ø (Gg (G6 ø ø) ø),þ⟩ ?_ ø
  refine fE (u:=.vec 1069 0 1 ((List.replicate i (0:Int)).length)) ø ⟨.ro ø ø (Gg (G6 ø ø) ø),þ⟩ ?_ ø
  refine H44 (i8 (Jr fun i9=>(JLm (I64 (-1)) ø (G7 (i9 (Js fun j0=>Jr fun j1=>(JLm (OW 1065 4 G1.av c) ø (JLl H6 ø ø ø fun m5=>?_))))))))
  obtain⟨c9,j2,h⟩:=Hd h
  refine JLh (I64 c9) (cB j2 ø ø ø) ø (JLm (I64 c9) ø (G7 (j1 (Gi ?_))))
  obtain⟨l8,j3,h⟩:=aF h
  refine H7 (fun a7 (b:Int×Int×(List Int)×(List Int))=>loop l8 a7 b=some r) (fun a7 b=>(Mc c g i b)) (fun a7 b=>[(Mb counts_q counts),(Ma c),(1068,.vec 3 1 0 (b.2.2.1.map I64)),(1069,.vec 3 1 0 (b.2.2.2.map I64))]) (fun a7=>a7) F ((-1),c9,(List.replicate g (0:Int)),(List.replicate i (0:Int))) h ⟨(.sm ø ø),⟨⟨_,rfl,.vec⟩,⟨_,rfl,.same⟩,⟨_,rfl,.vec⟩,⟨_,rfl,.vec⟩,þ⟩,rfl⟩ ?_
  clear h
  intro a7 b j4 n5 l9
  obtain⟨m0,m6,hm_33,j5,h⟩:=Yu j4
  replace h:=qA j3 h
  refine Js fun j6=>Jr fun j7=>(JLm (I64 b.2.1) ø (JLh (BL (decide (0≤b.2.1))) (dF ø ø ø) ø (G7 (j7 (JCc ø h (fun h hb=>?_) (fun h hb=>?_))))))
  ·
   refine Gn (j6 ?_)
   obtain⟨j8,e2,h⟩:=bE h
   refine Rh (fun t:Int×(List Int)×(List Int)=>j8 t=some r) (fun t=>[(5,OW 1065 4 G1.av c),(8,.vec 1068 0 1 ((List.replicate g (0:Int)).length)),(9,.vec 1069 0 1 ((List.replicate i (0:Int)).length)),(10,I64 t.1),(11,I64 b.2.1)]) (fun t=>[(Mb counts_q counts),(Ma c),(Mf t),(Me t)]) (fun Kj36 ej36=>?_) ?_
   ·
    refine Gi (Jr fun j9=>(JLm (.vec 1069 0 1 ((List.replicate i (0:Int)).length)) ø (JLm (I64 b.2.1) ø ?_)))
    obtain⟨m1,e3,d0,h⟩:=Yr h
    refine JLh (.vptr 1069 0 b.2.1.toNat 0) (R2 (f:=I64) (xs:=b.2.2.2) (y:=m1) ø ø ø ø Gr d0 e3) ø (J7 (u:=.junk) (bR (f:=I64) (xs:=b.2.2.2) (z:=(-1)) Zy ø ø ø ø (Nt d0).1 ø ø ø ø) (G7 (j9 (Js fun k0=>Jr fun k1=>(JLm (OW 1065 4 G1.av c) ø (JLl H6 ø ø ø fun m7=>?_))))))
    obtain⟨d1,k2,h⟩:=Hd h
    refine JLh (I64 d1) (cB k2 ø ø ø) ø (JLm (I64 d1) ø (G7 (k1 (Gi ?_))))
    obtain⟨k3,e4,h⟩:=aF h
    refine H7 (fun v (a:Int×(List Int)×(List Int))=>loop k3 v a=some r) (fun v a=>(Md c g i b a)) (fun v a=>[(Mb counts_q counts),(Ma c),(Mf a),(Me a)]) (fun v=>v) F (d1,b.2.2.1,(b.2.2.2.set b.2.1.toNat (-1))) h ⟨(.sm ø ø),⟨⟨_,rfl,.vec⟩,⟨_,rfl,.same⟩,⟨_,rfl,.vec⟩,⟨_,rfl,.vec⟩,þ⟩,rfl⟩ ?_
    clear h
    intro v a e5 m8 k4
    obtain⟨k5,m2,hm_100,e6,h⟩:=Yu e5
    replace h:=qA e4 h
    refine Js fun e7=>Jr fun e8=>(JLm (I64 a.1) ø (JLm (I64 b.2.1) ø (JLh (BL (decide (b.2.1 < a.1))) (Ya ø ø ø) ø (G7 (e8 (JCc ø h (fun h hb=>?_) (fun h hb=>?_)))))))
    ·
     refine Gn (e7 ?_)
     obtain⟨e9,d2,h⟩:=bE h
     refine Rh (fun s:(List Int)×(List Int)=>e9 s=some r) (fun s=>(Md c g i b a)) (fun s=>[(Mb counts_q counts),(Ma c),(1068,.vec 3 1 0 (s.1.map I64)),(1069,.vec 3 1 0 (s.2.map I64))]) (fun Kj103 ej103=>?_) ?_
     ·
      refine Gi (Js fun f0=>Zh (l':=(Md c g i b a)) (L':=[(Mb counts_q counts),(Ma c),(Mf a),(Me a)]) ⟨(.sm ø ø),⟨⟨_,rfl,.vec⟩,⟨_,rfl,.same⟩,⟨_,rfl,.vec⟩,⟨_,rfl,.vec⟩,þ⟩,rfl⟩ ?_)
      obtain⟨m9,k,f1,f2,h⟩:=Q8 h
      obtain⟨n0,l,f3,f4,h⟩:=Q8 h
      obtain⟨o,f5,h⟩:=Ge h
      obtain⟨p,f6,h⟩:=Ge h
      obtain⟨a1,b0,h⟩:=Ge h
      obtain⟨a2,b1,h⟩:=Ge h
      refine JC_d0 J9 (by kernel_rfl) (Dq (OW 1065 4 G1.av c) (G3 ø ø) ø (Dq (I64 a.1) (G3 ø ø) ø (Dq (Ed k) (Gs (f:=G1.av) (xs:=c) (y:=k) ø ø ø H6 f2 f1) ø (Dq (Ed k) (Gb Q0 ø ø ø) ø (Dq (Ed k) (Gb Jm ø ø ø) ø (Dq (I64 k.G5.Load) (Gj Ga ø ø ø) ø (Dq (OW 1065 4 G1.av c) (G3 ø ø) ø (Dq (I64 b.2.1) (G3 ø ø) ø (Dq (Ed l) (Gs (f:=G1.av) (xs:=c) (y:=l) ø ø ø H6 f4 f3) ø (Dq (Ed l) (Gb Q0 ø ø ø) ø (Dq (Ed l) (Gb Jm ø ø ø) ø (Dq (I64 l.G5.Load) (Gj Ga ø ø ø) ø (Dq (BL (decide (l.G5.Load < k.G5.Load))) (Ya ø ø ø) ø ?_)))))))))))))
      refine Dq (BL (decide (l.G5.Load < k.G5.Load))) (G3 ø ø) ø (Do (OW 1065 4 G1.av c) [] ø .sct þ (fun hc=>G3 ø ø) ø (Do (I64 a.1) [] ø .sct þ (fun hc=>G3 ø ø) ø (Do (Ed o) [76,77] ø .sct ⟨Ua,Ua,þ⟩ (fun hc=>(match Qk (Gw hc f5) with | ⟨_,hm_,hy_⟩=>Gs (f:=G1.av) (xs:=c) (y:=o) ø ø ø H6 hy_ hm_)) ø (Do (Ed o) [78] ø .sct ⟨Ua,þ⟩ (fun hc=>Gb Q0 ø ø ø) ø (Do (.dptr ((G1.cs o).drop 1)) [79] ø .sct ⟨Ua,þ⟩ (fun hc=>Gb Jv ø ø ø) ø (Do (I64 o.G5.Discharge) [80] ø .sct ⟨Ua,þ⟩ (fun hc=>Gj Ga ø ø ø) ø (Do (OW 1065 4 G1.av c) [] ø .sct þ (fun hc=>G3 ø ø) ø (Do (I64 b.2.1) [] ø .sct þ (fun hc=>G3 ø ø) ø (Do (Ed p) [82,83] ø .sct ⟨Ua,Ua,þ⟩ (fun hc=>(match Qk (Gw hc f6) with | ⟨_,hm_,hy_⟩=>Gs (f:=G1.av) (xs:=c) (y:=p) ø ø ø H6 hy_ hm_)) ø (Do (Ed p) [84] ø .sct ⟨Ua,þ⟩ (fun hc=>Gb Q0 ø ø ø) ø (Do (.dptr ((G1.cs p).drop 1)) [85] ø .sct ⟨Ua,þ⟩ (fun hc=>Gb Jv ø ø ø) ø (Do (I64 p.G5.Discharge) [86] ø .sct ⟨Ua,þ⟩ (fun hc=>Gj Ga ø ø ø) ø (Do (BL (decide (p.G5.Discharge < o.G5.Discharge))) [81,87] ø .sct ⟨Ua,Ua,þ⟩ (fun hc=>Ya ø ø ø) ø ?_)))))))))))))
      refine Dq (BL ((decide (l.G5.Load < k.G5.Load))&&(decide (p.G5.Discharge < o.G5.Discharge)))) (Jf ø ø ø ø) ø (Dq (BL ((decide (l.G5.Load < k.G5.Load))&&(decide (p.G5.Discharge < o.G5.Discharge)))) (G3 ø ø) ø (Do (.vec 1068 0 1 ((List.replicate g (0:Int)).length)) [] ø .sct þ (fun hc=>G3 ø ø) ø (Do (I64 a.1) [] ø .sct þ (fun hc=>G3 ø ø) ø (Do (.vptr 1068 0 a.1.toNat 0) [91,92] ø .sct ⟨Ua,Ua,þ⟩ (fun hc=>R2 (f:=I64) (xs:=a.2.1) (y:=a1) ø ø ø ø Gr (Y0 (Gw hc b0)) (eG (Gw hc b0))) ø (Do (I64 a1) [93] ø .sct ⟨Ua,þ⟩ (fun hc=>Zs (f:=I64) (xs:=a.2.1) (y:=a1) Ga ø ø ø (Y0 (Gw hc b0)) ø ø) ø (Do (.vec 1068 0 1 ((List.replicate g (0:Int)).length)) [] ø .sct þ (fun hc=>G3 ø ø) ø (Do (I64 b.2.1) [] ø .sct þ (fun hc=>G3 ø ø) ø (Do (.vptr 1068 0 b.2.1.toNat 0) [95,96] ø .sct ⟨Ua,Ua,þ⟩ (fun hc=>R2 (f:=I64) (xs:=a.2.1) (y:=a2) ø ø ø ø Gr (Y0 (Gw hc b1)) (eG (Gw hc b1))) ø (Do (I64 a2) [97] ø .sct ⟨Ua,þ⟩ (fun hc=>Zs (f:=I64) (xs:=a.2.1) (y:=a2) Ga ø ø ø (Y0 (Gw hc b1)) ø ø) ø (Do (BL (decide (a2≤a1))) [94,98] ø .sct ⟨Ua,Ua,þ⟩ (fun hc=>dF ø ø ø) ø (Dq (BL (((decide (l.G5.Load < k.G5.Load))&&(decide (p.G5.Discharge < o.G5.Discharge)))&&(decide (a2≤a1)))) (Jf ø ø ø ø) ø (Dnil ?_))))))))))))
      refine f0 (JCc ø h (fun h hb=>?_) (fun h hb=>?_))
      ·
       refine G2 (JLm (.vec 1068 0 1 ((List.replicate g (0:Int)).length)) ø (JLm (I64 b.2.1) ø (JLm (.vec 1069 0 1 ((List.replicate i (0:Int)).length)) ø (JLm (I64 b.2.1) ø (JLm (.vec 1068 0 1 ((List.replicate g (0:Int)).length)) ø (JLm (I64 a.1) ø ?_))))))
       obtain⟨a3,d3,b8,h⟩:=Yr h
       refine JLh (.vptr 1068 0 a.1.toNat 0) (R2 (f:=I64) (xs:=a.2.1) (y:=a3) ø ø ø ø Gr b8 d3) ø (JLh (I64 a3) (Zs (f:=I64) (xs:=a.2.1) (y:=a3) Ga ø ø ø b8 ø ø) ø (JLm (I64 a.1) ø ?_))
       obtain⟨k6,d4,b9,h⟩:=Yr h
       refine JLh (.vptr 1068 0 b.2.1.toNat 0) (R2 (f:=I64) (xs:=a.2.1) (y:=k6) ø ø ø ø Gr b9 d4) ø (J7 (u:=.junk) (bR (f:=I64) (xs:=a.2.1) (z:=a3) Zy ø ø ø ø (Nt b9).1 ø ø ø ø) ?_)
       obtain⟨k7,d5,c0,h⟩:=Yr h
       refine JLh (.vptr 1069 0 b.2.1.toNat 0) (R2 (f:=I64) (xs:=a.2.2) (y:=k7) ø ø ø ø Gr c0 d5) ø (J7 (u:=.junk) (bR (f:=I64) (xs:=a.2.2) (z:=a.1) Zy ø ø ø ø (Nt c0).1 ø ø ø ø) (G7 (ej103 _ _ ((a.2.1.set b.2.1.toNat a3),(a.2.2.set b.2.1.toNat a.1)) h ⟨(.sm ø ø),⟨⟨_,rfl,.vec⟩,⟨_,rfl,.same⟩,⟨_,rfl,.vec⟩,⟨_,rfl,.vec⟩,þ⟩,rfl⟩)))
      ·
       refine Gn (ej103 _ _ (a.2.1,a.2.2) h ⟨(.sm ø ø),⟨⟨_,rfl,.vec⟩,⟨_,rfl,.same⟩,⟨_,rfl,.vec⟩,⟨_,rfl,.vec⟩,þ⟩,rfl⟩)
     ·intro s h
      replace h:=app1 d2 h
      refine G2 (JLm (I64 a.1) ø ?_)
      obtain⟨b5,f7,h⟩:=Hd h
      refine JLh (I64 b5) (cB f7 ø ø ø) ø (JLm (I64 b5) ø (G7 (k4 _ _ k5 (b5,s.1,s.2) (app1 e6 h) (by omega) ⟨(.sm ø ø),⟨⟨_,rfl,.vec⟩,⟨_,rfl,.same⟩,⟨_,rfl,.vec⟩,⟨_,rfl,.vec⟩,þ⟩,rfl⟩)))
    ·
     refine H5 (k0 (Js fun f8=>Zh (l':=(Mc c g i b)) (L':=[(Mb counts_q counts),(Ma c),(Mf a),(Me a)]) ⟨(.sm ø ø),⟨⟨_,rfl,.vec⟩,⟨_,rfl,.same⟩,⟨_,rfl,.vec⟩,⟨_,rfl,.vec⟩,þ⟩,rfl⟩ ?_))
     obtain⟨b6,d6,c1,h⟩:=Yr h
     obtain⟨n1,b2,f9,g0,h⟩:=Q8 h
     obtain⟨d7,g1,h⟩:=Ge h
     obtain⟨m,g2,h⟩:=Hd h
     obtain⟨k8,d8,c2,h⟩:=Yr h
     refine Jo [11] (.replicate 12 0) (.replicate 12 0) [[(Mb counts_q counts),(Ma c),(Mf a),(Me a)],((1068,.vec 3 1 0 ((a.2.1.set b.2.1.toNat m).map I64))::[(Mb counts_q counts),(Ma c),(Mf a),(Me a)])] J9 (by kernel_rfl) rfl rfl ?_
     refine G9 (u:=.vec 1068 0 1 ((List.replicate g (0:Int)).length)) ø ø ⟨Gg (G3 ø ø) ø,þ⟩ (G9 (u:=I64 b.2.1) ø ø ⟨Gg (G3 ø ø) ø,þ⟩ (G9 (u:=.vptr 1068 0 b.2.1.toNat 0) ø ø ⟨Gg (R2 (f:=I64) (xs:=a.2.1) (y:=b6) ø ø ø ø Gr c1 d6) ø,þ⟩ (G9 (u:=I64 b6) ø ø ⟨Gg (Zs (f:=I64) (xs:=a.2.1) (y:=b6) Ga ø ø ø c1 ø ø) ø,þ⟩ (G9 (u:=OW 1065 4 G1.av c) ø ø ⟨Gg (G3 ø ø) ø,þ⟩ (G9 (u:=I64 b.2.1) ø ø ⟨Gg (G3 ø ø) ø,þ⟩ (G9 (u:=Ed b2) ø ø ⟨Gg (Gs (f:=G1.av) (xs:=c) (y:=b2) ø ø ø H6 g0 f9) ø,þ⟩ (G9 (u:=.agg (G1.cs b2)) ø ø ⟨Gg (Gk Qw ø ø ø) ø,þ⟩ (G9 (u:=I64 d7) ø ø ⟨Gg (Gq ø (qW b2 d7 g1) HM ⟨ø,ø,þ⟩) ø,þ⟩ (G9 (u:=I64 m) ø ø ⟨Gg (Hf g2 ø ø ø) ø,þ⟩ (G9 (u:=.vptr 1068 0 b.2.1.toNat 0) ø ø ⟨Gg (R2 (f:=I64) (xs:=a.2.1) (y:=k8) ø ø ø ø Gr c2 d8) ø,þ⟩ ?_))))))))))
     refine G70 (u:=.junk) ø ø ø ø (Gg (bR (f:=I64) (xs:=a.2.1) (z:=m) Zy ø ø ø ø (Nt c2).1 ø ø ø ø) ø) (Ri (f8 (Js fun g3=>Zh (l':=(Mc c g i b)) (L':=[(Mb counts_q counts),(Ma c),(1068,.vec 3 1 0 ((a.2.1.set b.2.1.toNat m).map I64)),(Me a)]) ⟨(.sm ø ø),⟨⟨_,rfl,.vec⟩,⟨_,rfl,.same⟩,⟨_,rfl,.vec⟩,⟨_,rfl,.vec⟩,þ⟩,rfl⟩ ?_)))
     obtain⟨a4,b3,h⟩:=Ge h
     obtain⟨a5,b4,h⟩:=Ge h
     refine JC_d0 J9 (by kernel_rfl) (Dq (I64 b.1) (G3 ø ø) ø (Dq (BL (decide (b.1 < 0))) (Ht ø ø ø) ø (Dq (BL (decide (b.1 < 0))) (G3 ø ø) ø (Do (.vec 1068 0 1 ((List.replicate g (0:Int)).length)) [] ø .scf þ (fun hc=>G3 ø ø) ø (Do (I64 b.2.1) [] ø .scf þ (fun hc=>G3 ø ø) ø (Do (.vptr 1068 0 b.2.1.toNat 0) [126,127] ø .scf ⟨Ua,Ua,þ⟩ (fun hc=>R2 (f:=I64) (xs:=(a.2.1.set b.2.1.toNat m)) (y:=a4) ø ø ø ø Gr (Y0 (Gw hc b3)) (eG (Gw hc b3))) ø (Do (I64 a4) [128] ø .scf ⟨Ua,þ⟩ (fun hc=>Zs (f:=I64) (xs:=(a.2.1.set b.2.1.toNat m)) (y:=a4) Ga ø ø ø (Y0 (Gw hc b3)) ø ø) ø (Do (.vec 1068 0 1 ((List.replicate g (0:Int)).length)) [] ø .scf þ (fun hc=>G3 ø ø) ø (Do (I64 b.1) [] ø .scf þ (fun hc=>G3 ø ø) ø (Do (.vptr 1068 0 b.1.toNat 0) [130,131] ø .scf ⟨Ua,Ua,þ⟩ (fun hc=>R2 (f:=I64) (xs:=(a.2.1.set b.2.1.toNat m)) (y:=a5) ø ø ø ø Gr (Y0 (Gw hc b4)) (eG (Gw hc b4))) ø (Do (I64 a5) [132] ø .scf ⟨Ua,þ⟩ (fun hc=>Zs (f:=I64) (xs:=(a.2.1.set b.2.1.toNat m)) (y:=a5) Ga ø ø ø (Y0 (Gw hc b4)) ø ø) ø (Do (BL (decide (a5≤a4))) [129,133] ø .scf ⟨Ua,Ua,þ⟩ (fun hc=>dF ø ø ø) ø (Dq (BL ((decide (b.1 < 0))||(decide (a5≤a4)))) (aJ ø ø ø ø) ø (Dnil ?_))))))))))))))
     refine g3 (JCc ø h (fun h hb=>?_) (fun h hb=>?_))
     ·
      refine G2 (JLm (I64 b.2.1) ø (JLm (I64 b.2.1) ø (G7 (ej36 _ _ (b.2.1,(a.2.1.set b.2.1.toNat m),a.2.2) h ⟨(.sm ø ø),⟨⟨_,rfl,.vec⟩,⟨_,rfl,.same⟩,⟨_,rfl,.vec⟩,⟨_,rfl,.vec⟩,þ⟩,rfl⟩))))
     ·
      refine Gn (ej36 _ _ (b.1,(a.2.1.set b.2.1.toNat m),a.2.2) h ⟨(.sm ø ø),⟨⟨_,rfl,.vec⟩,⟨_,rfl,.same⟩,⟨_,rfl,.vec⟩,⟨_,rfl,.vec⟩,þ⟩,rfl⟩)
   ·intro t h
    replace h:=app1 e2 h
    refine G2 (JLm (I64 b.2.1) ø ?_)
    obtain⟨b7,g4,h⟩:=Hd h
    refine JLh (I64 b7) (cB g4 ø ø ø) ø (JLm (I64 b7) ø (G7 (l9 _ _ m0 (t.1,b7,t.2.1,t.2.2) (app1 j5 h) (by omega) ⟨(.sm ø ø),⟨⟨_,rfl,.vec⟩,⟨_,rfl,.same⟩,⟨_,rfl,.vec⟩,⟨_,rfl,.vec⟩,þ⟩,rfl⟩)))
  ·
   refine H5 (j0 (Jr fun g5=>(JLh (OW 1067 4 G1.av ([]:List G1)) (eP 1067 155 4 ø ø ø) ø (G7 (g5 (Js fun g6=>Jr fun g7=>(JLm (I64 b.1) ø (JLm (I64 b.1) ø (G7 (g7 (Gi ?_)))))))))))
   obtain⟨k9,g8,h⟩:=aF h
   refine H7 (fun x (d:(List G1)×Int)=>loop k9 x d=some r) (fun x d=>[(5,OW 1065 4 G1.av c),(9,.vec 1069 0 1 ((List.replicate i (0:Int)).length)),(13,OW 1067 4 G1.av d.1),(14,I64 d.2)]) (fun x d=>[(Mb counts_q counts),(Ma c),(1068,.vec 3 1 0 (b.2.2.1.map I64)),(1069,.vec 3 1 0 (b.2.2.2.map I64)),(1067,.spare 155 4 d.1.length d.1.length)]) (fun x=>x) F ([],b.1) h ⟨(.sm ø ø),⟨⟨_,rfl,.vec⟩,⟨_,rfl,.same⟩,⟨_,rfl,.vec⟩,⟨_,rfl,.vec⟩,⟨_,rfl,.same⟩,þ⟩,rfl⟩ ?_
   clear h
   intro x d g9 n2 l0
   obtain⟨l1,m3,hm_142,h0,h⟩:=Yu g9
   replace h:=qA g8 h
   refine Js fun h1=>Jr fun h2=>(JLm (I64 d.2) ø (JLh (BL (decide (0≤d.2))) (dF ø ø ø) ø (G7 (h2 (JCc ø h (fun h hb=>?_) (fun h hb=>?_))))))
   ·
    refine Gn (h1 (Js fun h3=>Gi (G2 (JLm (OW 1067 4 G1.av d.1) ø (JLm (OW 1065 4 G1.av c) ø (JLm (I64 d.2) ø ?_))))))
    obtain⟨n3,q,h4,h5,h⟩:=Q8 h
    refine JLh (Ed q) (Gs (f:=G1.av) (xs:=c) (y:=q) ø ø ø H6 h5 h4) ø (JLh (.agg (G1.cs q)) (Gk Qw ø ø ø) ø (JLh (E4 [q]) (Hn (xs:=[.agg (G1.cs q)]) ø ⟨ø,ø,þ⟩ H6 R7 ø ø ø ø) ø ?_))
    obtain⟨h6,h⟩:=J2 h
    refine JLh (OW 1067 4 G1.av (d.1++[q])) (R3 (f:=G1.av) (xs:=d.1) (ys:=[q]) ø ø ø ø H6 fK h6 (fun _=>ø) (.inl ø) ø) ø (JLm (OW 1067 4 G1.av (d.1++[q])) ø (G7 (h3 (G2 (JLm (.vec 1069 0 1 ((List.replicate i (0:Int)).length)) ø (JLm (I64 d.2) ø ?_))))))
    obtain⟨a6,d9,c3,h⟩:=Yr h
    refine JLh (.vptr 1069 0 d.2.toNat 0) (R2 (f:=I64) (xs:=b.2.2.2) (y:=a6) ø ø ø ø Gr c3 d9) ø (JLh (I64 a6) (Zs (f:=I64) (xs:=b.2.2.2) (y:=a6) Ga ø ø ø c3 ø ø) ø (JLm (I64 a6) ø (G7 (l0 _ _ l1 ((d.1++[q]),a6) (app1 h0 h) (by omega) ⟨(.sm ø ø),⟨⟨_,rfl,.vec⟩,⟨_,rfl,.same⟩,⟨_,rfl,.vec⟩,⟨_,rfl,.vec⟩,⟨_,rfl,.same⟩,þ⟩,rfl⟩))))
   ·
    refine H5 (g6 (Jr fun h7=>(JLm (OW 1067 4 G1.av d.1) ø (JLm (OW 1067 4 G1.av d.1) ø (G7 (h7 (Gt ?_)))))))
    obtain rfl:=Nv h
    exact⟨[E4 d.1],[(Mb counts_q counts)],⟨⟨_,ø,.vec⟩,þ⟩,ø,⟨⟨_,ø,.conv (.list ø)⟩,þ⟩,ø,ø⟩

def Qm (F:Nat) (s:List G1) (del:G1→Option Bool):Option (List G1):=
 bnd (Qp s del) fun f=>
 bif decide (f=(-1)) then
 (some s)
 else
 (chk (f+1) fun l=>
  loop (fun g (a:Int×Int×(List G1))=>
   bif decide (a.2.1 < (a.2.2.length:Int)) then
   (jp (fun c=>
     Jx a.2.2 a.2.1 fun d=>
     bnd (del d) fun h=>
     bif (!h) then
     (Jx a.2.2 a.1 fun m=>
      chk (a.1+1) fun i=>
      c (i,(a.2.2.set a.1.toNat d)))
     else
     (c (a.1,a.2.2))) fun(e:Int×(List G1))=>
    chk (a.2.1+1) fun j=>
    g (e.1,j,e.2))
   else
   (bnd (cN a.1 a.2.2.length) fun b=>
    bnd (cN a.1 (blank a.2.2 b (a.2.2.length - b) (G1.mk (G5.mk 0 0) 0 0)).length) fun k=>
    some ((blank a.2.2 b (a.2.2.length - b) (G1.mk (G5.mk 0 0) 0 0)).take k))) F (f,l,s))
abbrev Mg:Nat×Jn:=(1075,.vec 155 4 (([]:List G1).length) (([]:List G1).map G1.av))
theorem eL (F:Nat) (s:List G1) (s_q:Nat) (del:G1→Option Bool) (del_f:FuncId) (del_c:List AV) (del_B:H8 Ej del_f=true) (del_d:Yn (fun _=>false) del_c=true) (del_w:∀ a0 q,del a0=some q→Pure Ej del_f ([.agg (G1.cs a0)]++del_c) (·=BL q)) (r:(List G1)) (h:Qm F s del=some r):R5 Ej 79 [.vec 1060 s_q 4 s.length,.fn del_f del_c] [(1060,.vec 155 4 s_q (s.map G1.av))] (fun av L'=>∃ p:Nat,av=.vec 1060 p 4 r.length∧L'=[(1060,.vec 155 4 p (r.map G1.av))]):=by
 unfold Qm at h
 refine dA [1060] [.tmp 4] Tryz.func79 ø ø (YF ø) (Jr fun b8=>(JLh (.vec 1075 (([]:List G1).length) 4 (([]:List G1).length)) (ZR 1075 155 4 ø ø ø) ø (G7 (b8 (Jr fun b9=>(JLm (.vec 1060 s_q 4 s.length) ø (JLm (.fn del_f del_c) ø ?_)))))))
 obtain⟨i,c0,h⟩:=Ge h
 refine JLh (I64 i) (H4c (args:=[E4 s,.fn del_f del_c]) ø (dE s del del_f del_c del_B del_d del_w i c0) HK ⟨.vec ø,.data ø del_d,þ⟩ ø) ø (JLm (I64 i) ø (G7 (b9 (Js fun c1=>Jr fun c2=>(JLm (I64 i) ø (JLh (BL (decide (i=(-1)))) (Rk ø ø ø) ø (G7 (c2 (JCc ø h (fun h hb=>?_) (fun h hb=>?_))))))))))
 ·
  refine Jr fun c3=>(JLm (.vec 1060 s_q 4 s.length) ø (JLm (.vec 1060 s_q 4 s.length) ø (G7 (c3 (QT 4 ø ø (fun hn_=>Gt ?_))))))
  obtain rfl:=Nv h
  exact⟨[.vec 1060 s_q 4 s.length],[(Mb s_q s)],⟨⟨_,ø,.vec⟩,þ⟩,ø,⟨⟨_,ø,.conv (.same ø)⟩,þ⟩,s_q,congrArg (fun n_:Nat=>(.vec 1060 s_q 4 n_:AV)) (hn_.trans (P9 _)),ø⟩
 ·
  refine Gn (c1 (Js fun c4=>Jr fun c5=>(JLm (I64 i) ø ?_)))
  obtain⟨v9,c6,h⟩:=Hd h
  refine JLh (I64 v9) (Hf c6 ø ø ø) ø (JLm (I64 v9) ø (G7 (c5 (Gi ?_))))
  obtain⟨c7,a2,h⟩:=aF h
  refine H7 (fun g (a:Int×Int×(List G1))=>loop c7 g a=some r) (fun g a=>[(0,.vec 1060 s_q 4 s.length),(1,.fn del_f del_c),(5,I64 a.1),(6,I64 a.2.1)]) (fun g a=>[(1060,.vec 155 4 s_q (a.2.2.map G1.av)),Mg]) (fun g=>g) F (i,v9,s) h ⟨⟨.same ø,.same (Ye _ _ del_d),.same ø,.same ø,þ⟩,⟨⟨_,ø,.vec⟩,⟨_,ø,.vec⟩,þ⟩,ø⟩ ?_
  clear h
  intro g a a3 d3 c8
  obtain⟨c9,d1,hm_48,a4,h⟩:=Yu a3
  replace h:=qA a2 h
  refine Js fun a5=>Jr fun a6=>(JLm (I64 a.2.1) ø (JLm (.vec 1060 s_q 4 s.length) ø (yV (f:=G1.av) (xs:=a.2.2) H6 ø ø ø (fun d2=>?_) ø ø ø)))
  refine JLh (BL (decide (a.2.1 < (a.2.2.length:Int)))) (Ht ø ø ø) ø (G7 (a6 (JCc ø h (fun h hb=>?_) (fun h hb=>?_))))
  ·
   refine Gn (a5 ?_)
   obtain⟨a7,v,h⟩:=bE h
   refine Rh (fun e:Int×(List G1)=>a7 e=some r) (fun e=>[(0,.vec 1060 s_q 4 s.length),(1,.fn del_f del_c),(5,I64 e.1),(6,I64 a.2.1)]) (fun e=>[(1060,.vec 155 4 s_q (e.2.map G1.av)),Mg]) (fun Kj51 ej51=>?_) ?_
   ·
    refine Gi (Jr fun a8=>(JLm (.vec 1060 s_q 4 s.length) ø (JLm (I64 a.2.1) ø ?_)))
    obtain⟨c,w,k,h⟩:=Yr h
    refine JLh (.vptr 1060 s_q a.2.1.toNat 0) (R2 (f:=G1.av) (xs:=a.2.2) (y:=c) ø ø ø ø H6 k w) ø (JLh (.agg (G1.cs c)) (JY (f:=G1.av) (xs:=a.2.2) (y:=c) Qw ø ø ø k ø ø) ø (JLh (.ptr 1076 0) (Q3 1076 4 R7 ø ø) ø (J7 (u:=.junk) (Hw (u:=.agg (G1.cs c)) (ds:=[I64 c.G5.Load,I64 c.G5.Discharge,I64 c.Whole,I64 c.Half]) bJ ø ø ø ø ø ø ø ø) (G7 (a8 ?_)))))
    refine H1 [(0,.vec 1060 s_q 4 s.length),(1,.fn del_f del_c),(5,I64 a.1),(6,I64 a.2.1),(7,Ed c)] [(1060,.vec 155 4 s_q (a.2.2.map G1.av)),Mg] 1076 rfl rfl rfl ⟨⟨_,rfl,.vec⟩,⟨_,rfl,.vec⟩,þ⟩ rfl (by exact⟨.conv (.same rfl),.conv (.same (Ye _ _ del_d)),.conv (.same rfl),.conv (.same rfl),.ptr,þ⟩) (Jr fun a9=>(JLm (.fn del_f del_c) ø (JLh (.agg (G1.cs c)) (Gk Qw ø ø ø) ø ?_)))
    obtain⟨l,b0,h⟩:=Ge h
    refine JLh (BL l) (rD (args:=[.agg (G1.cs c)]) (caps:=del_c) ø ø (del_w c _ b0) del_B ⟨ø,ø,þ⟩ del_d) ø (JLh (BL (!l)) (Ym (b:=l) ø ø) ø (G7 (a9 (JCc ø h (fun h hb=>?_) (fun h hb=>?_)))))
    ·
     refine Jr fun b1=>(JLm (.vec 1060 s_q 4 s.length) ø (JLm (I64 a.1) ø (JLh (.agg (G1.cs c)) (Gk Qw ø ø ø) ø ?_)))
     obtain⟨d0,x,m,h⟩:=Yr h
     refine JLh (.vptr 1060 s_q a.1.toNat 0) (R2 (f:=G1.av) (xs:=a.2.2) (y:=d0) ø ø ø ø H6 m x) ø (J7 (u:=.junk) (bR (f:=G1.av) (xs:=a.2.2) (z:=c) bJ ø ø ø ø (Nt m).1 ø ø ø ø) (G7 (b1 (G2 (JLm (I64 a.1) ø ?_)))))
     obtain⟨o,b2,h⟩:=Hd h
     refine JLh (I64 o) (Hf b2 ø ø ø) ø (JLm (I64 o) ø (G7 (ej51 _ _ (o,(a.2.2.set a.1.toNat c)) h ⟨⟨.same ø,.same (Ye _ _ del_d),.same ø,.same ø,þ⟩,⟨⟨_,ø,.vec⟩,⟨_,ø,.vec⟩,þ⟩,ø⟩)))
    ·
     refine Gn (ej51 _ _ (a.1,a.2.2) h ⟨⟨.same ø,.same (Ye _ _ del_d),.same ø,.same ø,þ⟩,⟨⟨_,ø,.vec⟩,⟨_,ø,.vec⟩,þ⟩,ø⟩)
   ·intro e h
    replace h:=app1 v h
    refine G2 (JLm (I64 a.2.1) ø ?_)
    obtain⟨t,b3,h⟩:=Hd h
    refine JLh (I64 t) (Hf b3 ø ø ø) ø (JLm (I64 t) ø (G7 (c8 _ _ c9 (e.1,t,e.2) (app1 a4 h) (by omega) ⟨⟨.same rfl,.same (Ye _ _ del_d),.same rfl,.same rfl,þ⟩,⟨⟨_,rfl,.vec⟩,⟨_,rfl,.vec⟩,þ⟩,rfl⟩)))
  ·
   refine H5 (c4 (Jr fun b4=>(JLm (.vec 1060 s_q 4 s.length) ø (JLm (I64 a.1) ø ?_))))
   obtain⟨d,b5,h⟩:=Ge h
   refine JLh (.vsl 1060 s_q 4 d (a.2.2.length - d)) (GR (f:=G1.av) (xs:=a.2.2) ø ø ø ø H6 (Rw b5)) ø (J7 (u:=.tup []) (Hec (f:=G1.av) (xs:=a.2.2) (off:=d) (n:=(a.2.2.length - d)) (G1.mk (G5.mk 0 0) 0 0) [E0,E0,E0,E0] ø H6 (.inr ø) ø G7b ø ø ø (zzQ ø)) (G7 (b4 (Jr fun b6=>(JLm (.vec 1060 s_q 4 s.length) ø (JLm (I64 a.1) ø ?_))))))
   obtain⟨j,b7,h⟩:=Ge h
   refine JLh (.vec 1060 (s_q+1) 4 (((blank a.2.2 d (a.2.2.length - d) (G1.mk (G5.mk 0 0) 0 0)).take j).length)) (Hde (f:=G1.av) (xs:=(blank a.2.2 d (a.2.2.length - d) (G1.mk (G5.mk 0 0) 0 0))) ø ø ø ø H6 (Rw b7)) ø (JLm (.vec 1060 (s_q+1) 4 (((blank a.2.2 d (a.2.2.length - d) (G1.mk (G5.mk 0 0) 0 0)).take j).length)) ø (G7 (b6 (QT 4 ø ø (fun hn_=>Gt ?_)))))
   obtain rfl:=Nv h
   exact⟨[.vec 1060 (s_q+1) 4 (((blank a.2.2 d (a.2.2.length - d) (G1.mk (G5.mk 0 0) 0 0)).take j).length)],[(1060,.vec 155 4 (s_q+1) (((blank a.2.2 d (a.2.2.length - d) (G1.mk (G5.mk 0 0) 0 0)).take j).map G1.av))],⟨⟨_,ø,.vec⟩,þ⟩,ø,⟨⟨_,ø,.conv (.same ø)⟩,þ⟩,(s_q+1),congrArg (fun n_:Nat=>(.vec 1060 (s_q+1) 4 n_:AV)) (hn_.trans (P9 _)),ø⟩

abbrev bkG (e:Option (Nat×Nat)×List G5):AV:=.blk e.1 139 2 (E2 e.2)
theorem H97 {es:List (Option (Nat×Nat)×List G5)} {o:Option (Nat×Nat)} {m:List G5} (hn:(mI (es.map Prod.fst)).Nodup) (ho:∀ b c,o=some (b,c)→b ∉ mI (es.map (·.1))):(mI ((es++[(o,m)]).map Prod.fst)).Nodup:=by
 rw [List.map_append]
 unfold mI at hn ho ⊢
 rw [List.filterMap_append]
 rcases o with _ | ⟨b,c⟩
 ·simpa using hn
 ·refine List.nodup_append.2 ⟨hn,by simp,fun x hx y hy=>?_⟩
  simp at hy
  subst hy
  exact fun e=>ho _ c ø (e ▸ hx)
def bI (F:Nat) (s:H2) (bx:List Box):Option ((List (List G5))×Int×Int):=
 bnd (aH s bx) fun m=>
 bif (!m) then
 (some ([],0,2))
 else
 (bnd (R8 bx) fun n=>
  loop (fun g (a:(List (List G5))×Int×(List G1))=>
   need (decide (20≤9223372036854775807)) <|
   upto (fun j (c:(List (List G1))) h=>
    bnd (cY F a.2.2 (j:Int)) fun d=>
    need (decide ((c.length+[d].length)*24≤140737488355328∧c.length+[d].length≤maxLen)) <|
    h (c++[d]))
   (fun(c:(List (List G1)))=>
    bnd (R1 c (fun z0=>dV F z0 s)) fun e=>
    bif decide (e.2=0) then
    (some (a.1,a.2.1,0))
    else
    (each (fun f o (b:(List G5)) i=>
      need (decide ((b.length+[f.G5].length)*16≤140737488355328∧b.length+[f.G5].length≤maxLen)) <|
      i (b++[f.G5]))
     (fun(b:(List G5))=>
      need (decide ((a.1.length+[b].length)*24≤140737488355328∧a.1.length+[b].length≤maxLen)) <|
      chk (a.2.1+e.2) fun k=>
      bnd (Qm F a.2.2 (fun z0=>dU z0 b)) fun l=>
      g ((a.1++[b]),k,l)) e.1 0 [])) (20:Int).toNat 0 []) F ([],0,n))
theorem uO (F:Nat) (s:H2) (bx:List Box) (r:(List (List G5))×Int×Int) (h:bI F s bx=some r):Pure Ej 28 [.agg (H2.cs s),E3 bx] (·=.tup [.frz 139 2 (LS 1 (E2) r.1),I64 r.2.1,I64 r.2.2]):=by
 unfold bI at h
 refine Gy [.tmp 4,.tmp 5,.tmp 6] Tryz.func28 ø ø (Jr fun e8=>(JLh (.ptr 1013 0) (Qr (cs:=(H2.cs s)) 1013 ø ø ø ø ø) ø (JLh (LS 1 (E2) ([]:List (List G5))) (Qu 1 ø ø) ø (JLm (I64 0) ø (JLm (I64 0) ø (G7 (e8 (H1 [(1,E3 bx),(2,Ec s)] [] 1013 rfl rfl rfl þ rfl (by exact⟨.conv (.same rfl),.ptr,þ⟩) (Js fun e9=>Jr fun f0=>(JLh (.agg (H2.cs s)) (Gk Qa ø ø ø) ø (JLm (E3 bx) ø ?_)))))))))))
 obtain⟨r4,f1,h⟩:=Ge h
 refine JLh (BL r4) (Gq ø (lR s bx r4 f1) wK ⟨ø,ø,ø,ø,þ⟩) ø (JLh (BL (!r4)) (Ym (b:=r4) ø ø) ø (G7 (f0 (JCc ø h (fun h hb=>?_) (fun h hb=>?_)))))
 ·
  refine Jr fun f2=>(JLh (.frz 139 2 (.list 1 [])) (He4 139 2 ø ø) ø (JLm (I64 0) ø (JLm (I64 2) ø (G7 (f2 (Gt (⟨[.frz 139 2 (.list 1 []),I64 0,I64 2],[],þ,ø,⟨⟨_,ø,.conv (.same ø)⟩,⟨_,ø,.conv (.same ø)⟩,⟨_,ø,.conv (.same ø)⟩,þ⟩,ø,congrArg (fun r:(List (List G5))×Int×Int=>(.tup [.frz 139 2 (LS 1 (E2) r.1),I64 r.2.1,I64 r.2.2]:AV)) (Nv h)⟩)))))))
 ·
  refine Gn (e9 (Jr fun f3=>(JLh (OW 1014 1 bkG ([]:List (Option (Nat×Nat)×List G5))) (eP 1014 137 1 ø ø ø) ø (G7 (f3 (Jr fun f4=>(JLm (E3 bx) ø ?_)))))))
  obtain⟨r8,f5,h⟩:=Ge h
  refine hU ø ø ø (zH (args:=[E3 bx]) (L0:=[]) (u:=fun p=>.vec 1060 p 4 r8.length) (Lr:=fun p=>[(1060,.vec 155 4 p (r8.map G1.av))]) ø (GK.down bx r8 f5) rQ ⟨.inl ø,ø,þ⟩ þ ø (fun _=>ø)) ?_
  rintro u_ L_ ⟨v9,rfl,rfl⟩
  refine JLm (I64 0) ø (JLm (.vec 1060 v9 4 r8.length) ø (G7 (f4 (Gi ?_))))
  obtain⟨b0,b2,h⟩:=aF h
  refine H7 (fun v (n:((List (Option (Nat×Nat)×List G5))×Int×(List G1))×Nat)=>loop b0 v (n.1.1.map Prod.snd,n.1.2)=some r∧(mI (n.1.1.map Prod.fst)).Nodup) (fun v n=>(fun(c:(List (Option (Nat×Nat)×List G5))×Int×(List G1)) (gv10:Nat)=>[(2,Ec s),(7,OW 1014 1 bkG c.1),(8,I64 c.2.1),(9,.vec 1060 gv10 4 c.2.2.length)]) n.1 n.2) (fun v n=>(fun(c:(List (Option (Nat×Nat)×List G5))×Int×(List G1)) (gv10:Nat)=>[(1014,.spare 137 1 c.1.length c.1.length),(1060,.vec 155 4 gv10 (c.2.2.map G1.av))]) n.1 n.2) (fun v=>v) F (([],0,r8),v9) ⟨h,List.nodup_nil⟩ ⟨(.sm ø ø),⟨⟨_,rfl,.same⟩,⟨_,rfl,.vec⟩,þ⟩,rfl⟩ ?_
  clear h
  rintro v ⟨c,gv10⟩ ⟨a0,hnd⟩ g6 f7
  replace a0:loop b0 v (c.1.map Prod.snd,c.2)=some r:=a0
  change (mI (c.1.map Prod.fst)).Nodup at hnd
  change JC _ _ _ _ [(2,Ec s),(7,OW 1014 1 bkG c.1),(8,I64 c.2.1),(9,.vec 1060 gv10 4 c.2.2.length)] [(1014,.spare 137 1 c.1.length c.1.length),(1060,.vec 155 4 gv10 (c.2.2.map G1.av))]
  obtain⟨f8,g3,hm_10,b3,h⟩:=Yu a0
  replace h:=qA b2 h
  refine Gi (Jr fun b4=>(JLh (OW 1015 1 (E4) ([]:List (List G1))) (eP 1015 146 1 ø ø ø) ø (G7 (b4 (Js fun b5=>Jr fun b6=>(JLm (I64 0) ø (G7 (b6 (Gi ?_)))))))))
  obtain⟨b7,h⟩:=J2 h
  obtain⟨f9,b8,b9,a8,h⟩:=gT h
  refine H7 (fun k (l:(List (List G1)))=>upto f9 b8 ((20:Int).toNat - k) k l=some r) (fun k l=>[(2,Ec s),(7,OW 1014 1 bkG c.1),(8,I64 c.2.1),(9,.vec 1060 gv10 4 c.2.2.length),(10,OW 1015 1 (E4) l),(23,Ei k)]) (fun k l=>[(1014,.spare 137 1 c.1.length c.1.length),(1060,.vec 155 4 gv10 (c.2.2.map G1.av)),(1015,.spare 146 1 l.length l.length)]) (fun k=>(20:Int).toNat - k) 0 [] h ⟨(.sm ø ø),⟨⟨_,rfl,.same⟩,⟨_,rfl,.vec⟩,⟨_,rfl,.same⟩,þ⟩,rfl⟩ ?_
  clear h
  intro k l a2 g7 g0
  refine Jr fun c0=>(JLh (BL (decide ((k:Int) < 20))) (Ht ø ø ø) ø (G7 (c0 (Js fun c1=>Gm ø (fun hb=>?_) (fun hb=>?_)))))
  ·
   have a3:=eJ hb
   obtain⟨g4,c2,h⟩:=eH a2 a3
   replace h:=vM b9 h
   refine Gn (c1 (Js fun c3=>Gi (Jr fun c4=>(JLm (Ei k) ø (JLm (Ei k) ø (G7 (c4 (G2 (JLm (OW 1015 1 (E4) l) ø (JLm (.vec 1060 gv10 4 c.2.2.length) ø (JLm (Ei k) ø ?_)))))))))))
   obtain⟨t,c5,h⟩:=Ge h
   refine JLh (E4 t) (G74 (args:=[.vec 1060 gv10 4 c.2.2.length,Ei k]) (L0:=[(1060,.vec 155 4 gv10 (c.2.2.map G1.av))]) (Lr:=[(1060,.vec 155 4 gv10 (c.2.2.map G1.av))]) ø (qJ F c.2.2 gv10 (k:Int) t c5) H00 ⟨.inl ø,ø,.inl ø,ø,þ⟩ ⟨ø,þ⟩ ø ø ø) ø (JLh (LS 1 (E4) [t]) (Hn (xs:=[E4 t]) ø ⟨ø,ø,þ⟩ mE G47 ø ø ø ø) ø ?_)
   obtain⟨c6,h⟩:=J2 h
   refine JLh (OW 1015 1 (E4) (l++[t])) (R3 (f:=(E4)) (xs:=l) (ys:=[t]) ø ø ø ø mE G85 c6 (fun _=>ø) (.inl ø) ø) ø (JLm (OW 1015 1 (E4) (l++[t])) ø (G7 (c3 (G2 (JLh (I64 ((k+1:Nat):Int)) (Hf (Hq a3 (cI b7)) ø ø ø) ø (JLm (I64 ((k+1:Nat):Int)) ø (G7 (g0 _ _ (k+1) (l++[t]) (app1 c2 h) (by omega) ⟨(.sm ø ø),⟨⟨_,rfl,.same⟩,⟨_,rfl,.vec⟩,⟨_,rfl,.same⟩,þ⟩,rfl⟩))))))))
  ·
   have h:=app1 a8 (eI a2 (Z2 hb))
   refine H5 (b5 (Jr fun c7=>(JLm (OW 1015 1 (E4) l) ø (JLh (.fn 77 [.dptr (H2.cs s)]) (oM (cs:=[.dptr (H2.cs s)]) ø ø) ø ?_))))
   obtain⟨i,c8,h⟩:=Ge h
   refine JLh (.tup [E4 i.1,I64 i.2]) (Gq ø (lF l (fun z0=>dV F z0 s) 77 [.dptr (H2.cs s)] Gfe ø (fun z0 q hq=>GP F z0 s q hq) i c8) Gff ⟨ø,ø,ø,ø,þ⟩) ø (JLm (.tup [E4 i.1,I64 i.2]) ø (JLh (E4 i.1) (Hu ø ø ø) ø (JLh (I64 i.2) (Hu ø ø ø) ø (JLm (E4 i.1) ø (JLm (I64 i.2) ø (G7 (c7 (Js fun c9=>Jr fun d0=>(JLm (I64 i.2) ø (JLh (BL (decide (i.2=0))) (Rk ø ø ø) ø (G7 (d0 (JCc ø h (fun h hb=>?_) (fun h hb=>?_))))))))))))))
   ·
    refine J32 7 [(8,I64 c.2.1)] [] 1014 ø (g:=E2) ø ø þ ø ⟨.same ø,þ⟩ hnd (fun _=>ø) (Jr fun d1=>(JLm (.frz 139 2 (.list 1 (c.1.map fun e=>E2 e.2))) ø (JLm (I64 c.2.1) ø (JLm (.frz 139 2 (.list 1 (c.1.map fun e=>E2 e.2))) ø (JLm (I64 c.2.1) ø (JLm (I64 0) ø (G7 (d1 (Gt ?_)))))))))
    rw [show (c.1.map fun e=>E2 e.2)=(c.1.map Prod.snd).map (E2) by rw [List.map_map]; rfl]
    exact⟨[.frz 139 2 (LS 1 (E2) (c.1.map Prod.snd)),I64 c.2.1,I64 0],[],þ,ø,⟨⟨_,ø,.conv (.same ø)⟩,⟨_,ø,.conv (.same ø)⟩,⟨_,ø,.conv (.same ø)⟩,þ⟩,ø,congrArg (fun r:(List (List G5))×Int×Int=>(.tup [.frz 139 2 (LS 1 (E2) r.1),I64 r.2.1,I64 r.2.2]:AV)) (Nv h)⟩
   ·
    refine Gn (c9 (Jr fun d2=>(JLh (.ptr 1016 0) (Y4 1016 [.sc (.slice none 0 0)] [.slice none 0 0] G7c ⟨.inl ø,þ⟩ ø ø) ø (xB 1016 0 1018 139 2 ø ø ø (cs':=[OW 1018 2 G5.av ([]:List G5)]) ø (G7 (d2 (Js fun d3=>Jr fun d4=>(JLm (E4 i.1) ø (JLl H6 ø ø ø fun d5=>(JLm (I64 0) ø (G7 (d4 (Gi ?_)))))))))))))
    obtain⟨g1,d6,d7,a9,h⟩:=Jg h
    refine H7 (fun m (d:(List G5))=>each g1 d6 (List.drop m i.1) m d=some r) (fun m d=>[(2,Ec s),(7,OW 1014 1 bkG c.1),(8,I64 c.2.1),(9,.vec 1060 gv10 4 c.2.2.length),(13,I64 i.2),(14,.ptr 1016 0),(43,E4 i.1),(44,Ei i.1.length),(45,Ei m)]) (fun m d=>[(1014,.spare 137 1 c.1.length c.1.length),(1060,.vec 155 4 gv10 (c.2.2.map G1.av)),(1018,.spare 139 2 d.length d.length),(1016,.box 137 [OW 1018 2 G5.av d])]) (fun m=>i.1.length - m) 0 [] h ⟨(.sm ø ø),⟨⟨_,rfl,.same⟩,⟨_,rfl,.vec⟩,⟨_,rfl,.same⟩,fbQ ø ⟨.same rfl,þ⟩,þ⟩,rfl⟩ ?_
    clear h
    intro m d a4 g8 g2
    refine Jr fun d8=>(JLh (BL (decide ((m:Int) < (i.1.length:Int)))) (Ht ø ø ø) ø (G7 (d8 (Js fun d9=>Gm ø (fun hb=>?_) (fun hb=>?_)))))
    ·
     have a5:=Q1 hb
     obtain⟨j,g5,e0,e1,h⟩:=J4 a4 a5
     replace h:=Zt d7 h
     refine Gn (d9 (Js fun e2=>Gi (Jr fun e3=>(JLh (Ed j) (Gs (f:=G1.av) (xs:=i.1) (y:=j) ø ø ø H6 e0 ø) ø (JLh (.agg (G1.cs j)) (Gk Qw ø ø ø) ø (JLh (.ptr 1017 0) (Q3 1017 4 R7 ø ø) ø (J7 (u:=.junk) (Hw (u:=.agg (G1.cs j)) (ds:=[I64 j.G5.Load,I64 j.G5.Discharge,I64 j.Whole,I64 j.Half]) bJ ø ø ø ø ø ø ø ø) (G7 (e3 ?_)))))))))
     refine fzQ [(2,Ec s),(7,OW 1014 1 bkG c.1),(8,I64 c.2.1),(9,.vec 1060 gv10 4 c.2.2.length),(13,I64 i.2),(14,.ptr 1016 0),(16,Ed j),(43,E4 i.1),(44,Ei i.1.length),(45,Ei m)] [(1014,.spare 137 1 c.1.length c.1.length),(1060,.vec 155 4 gv10 (c.2.2.map G1.av)),(1018,.spare 139 2 d.length d.length),(1016,.box 137 [OW 1018 2 G5.av d])] 1017 rfl rfl rfl ⟨⟨_,rfl,.same⟩,⟨_,rfl,.vec⟩,⟨_,rfl,.same⟩,⟨_,rfl,.boxEq rfl rfl⟩,þ⟩ rfl (G2 ?_)
     refine JLh (OW 1018 2 G5.av d) (bY bK ø ø ø ø) ø (JLh (Ed j) (Gb Q0 ø ø ø) ø (JLh (.agg [I64 j.G5.Load,I64 j.G5.Discharge]) (Gk Hm ø ø ø) ø (JLh (E2 [j.G5]) (Hn (xs:=[.agg [I64 j.G5.Load,I64 j.G5.Discharge]]) ø ⟨ø,ø,þ⟩ Hx Z1 ø ø ø ø) ø ?_)))
     obtain⟨e4,h⟩:=J2 h
     refine JLh (OW 1018 2 G5.av (d++[j.G5])) (R3 (f:=G5.av) (xs:=d) (ys:=[j.G5]) ø ø ø ø Hx HC e4 (fun _=>ø) (.inl ø) ø) ø (J7 (u:=.junk) (Hw (u:=OW 1018 2 G5.av (d++[j.G5])) (ds:=[OW 1018 2 G5.av (d++[j.G5])]) G84 ø ø ø ø ø ø ø ø) (G7 (e2 (G2 (JLh (I64 ((m+1:Nat):Int)) (Hf (Hq a5 d5) ø ø ø) ø (JLm (I64 ((m+1:Nat):Int)) ø (G7 (g2 _ _ (m+1) (d++[j.G5]) (app1 e1 h) (by omega) ⟨(.sm ø ø),⟨⟨_,rfl,.same⟩,⟨_,rfl,.vec⟩,⟨_,rfl,.same⟩,fbQ ø ⟨.same rfl,þ⟩,þ⟩,rfl⟩))))))))
    ·
     have h:=app1 a9 (J5 a4 (Hg hb))
     refine H5 (d3 (Jr fun e5=>(JLm (OW 1014 1 bkG c.1) ø (JLh (OW 1018 2 G5.av d) (bY bK ø ø ø ø) ø (J2f 56 [(2,Ec s),(7,OW 1014 1 bkG c.1),(8,I64 c.2.1),(9,.vec 1060 gv10 4 c.2.2.length),(13,I64 i.2),(14,.ptr 1016 0),(55,OW 1014 1 bkG c.1)] [(1014,.spare 137 1 c.1.length c.1.length),(1060,.vec 155 4 gv10 (c.2.2.map G1.av)),(1016,.box 137 [E2 d])] (mI (c.1.map (·.1))) 1018 rfl rfl rfl ⟨⟨_,rfl,.same⟩,⟨_,rfl,.vec⟩,⟨_,rfl,.box1 (.list rfl)⟩,þ⟩ rfl (.sm ø ø) (fun a w β _ hf=>H96 (tt:=7) (g:=E2) hf rfl) (fun o ho=>JLh (LS 1 bkG [(o,d)]) (Hn (xs:=[bkG (o,d)]) ø ⟨ø,ø,þ⟩ Rj rI ø ø ø ø) ø ?_))))))
     obtain⟨a6,h⟩:=J2 h
     refine JLh (OW 1014 1 bkG (c.1++[(o,d)])) (R3 (f:=bkG) (xs:=c.1) (ys:=[(o,d)]) rfl rfl rfl rfl Rj HD (by rw [P9] at a6; exact a6) (fun _=>rfl) (.inl rfl) rfl) ø (JLm (I64 c.2.1) ø (JLm (I64 i.2) ø ?_))
     obtain⟨x,e6,h⟩:=Hd h
     refine JLh (I64 x) (Hf e6 ø ø ø) ø (JLm (OW 1014 1 bkG (c.1++[(o,d)])) ø (JLm (I64 x) ø (G7 (e5 (Zh (l':=[(2,Ec s),(7,OW 1014 1 bkG (c.1++[(o,d)])),(8,I64 x),(9,.vec 1060 gv10 4 c.2.2.length),(14,.ptr 1016 0)]) (L':=[(1014,.spare 137 1 (c.1++[(o,d)]).length (c.1++[(o,d)]).length),(1060,.vec 155 4 gv10 (c.2.2.map G1.av)),(1016,.box 137 [E2 d])]) ⟨(.sm ø ø),⟨⟨_,rfl,.same⟩,⟨_,rfl,.vec⟩,fbQ ø ⟨.same rfl,þ⟩,þ⟩,rfl⟩ ?_)))))
     refine fzQ [(2,Ec s),(7,OW 1014 1 bkG (c.1++[(o,d)])),(8,I64 x),(9,.vec 1060 gv10 4 c.2.2.length),(14,.dptr [E2 d])] [(1014,.spare 137 1 (c.1++[(o,d)]).length (c.1++[(o,d)]).length),(1060,.vec 155 4 gv10 (c.2.2.map G1.av))] 1016 rfl rfl rfl ⟨⟨_,rfl,.same⟩,⟨_,rfl,.vec⟩,þ⟩ rfl (G2 (JLm (.vec 1060 gv10 4 c.2.2.length) ø (JLh (.fn 80 [.dptr [E2 d]]) (oM (cs:=[.dptr [E2 d]]) ø ø) ø ?_)))
     obtain⟨z,e7,h⟩:=Ge h
     refine hU ø ø ø (zH (args:=[.vec 1060 gv10 4 c.2.2.length,.fn 80 [.dptr [E2 d]]]) (L0:=[(1060,.vec 155 4 gv10 (c.2.2.map G1.av))]) (u:=fun p=>.vec 1060 p 4 z.length) (Lr:=fun p=>[(1060,.vec 155 4 p (z.map G1.av))]) ø (eL F c.2.2 gv10 (fun z0=>dU z0 d) 80 [.dptr [E2 d]] Gfc ø (fun z0 q hq=>GN z0 d q hq) z e7) Gfd ⟨.inl ø,ø,.inl ø,ø,þ⟩ ⟨ø,þ⟩ ø (fun _=>ø)) ?_
     rintro u_ L_ ⟨b1,rfl,rfl⟩
     refine JLm (.vec 1060 b1 4 z.length) ø (G7 (f7 _ _ f8 ((c.1++[(o,d)],x,z),b1) ⟨by simp only [List.map_append]; exact app1 b3 h,?_⟩ (by omega) ⟨(.sm ø ø),⟨⟨_,rfl,.same⟩,⟨_,rfl,.vec⟩,þ⟩,rfl⟩))
     exact H97 hnd ho

theorem ZH (F:Nat) (s:H2) (bx:List Box) (r:(List (List G5))×Int×Int) (h:bI F s bx=some r):Pure Ej 28 [.agg (H2.cs s),E3 bx] (·=.tup [LS 1 (E2) r.1,I64 r.2.1,I64 r.2.2]):=
 (uO F s bx r h).tupFrz
def J0 (n:Int) (low:Int) (high:Int):Option Bool:=
 some ((decide (low≤n))&&(decide (n≤high)))
theorem Jb (n:Int) (low:Int) (high:Int) (r:Bool) (h:J0 n low high=some r):Pure Ej 107 [I64 n,I64 low,I64 high] (·=BL r):=by
 unfold J0 at h
 refine Gy [.tmp 6] Tryz.func107 ø ø (Jr fun a=>(JLm (BL false) ø (G7 (a (Jr fun b=>(JLm (I64 n) ø (JLm (I64 low) ø (JLh (BL (decide (low≤n))) (dF ø ø ø) ø (JLm (BL (decide (low≤n))) ø (JLo (I64 n) [] ø .sct þ (fun hc=>G3 ø ø) ø (JLo (I64 high) [] ø .sct þ (fun hc=>G3 ø ø) ø (JLo (BL (decide (n≤high))) [11,12] ø .sct ⟨Ua,Ua,þ⟩ (fun hc=>oO ø ø ø) ø (JLh (BL ((decide (low≤n))&&(decide (n≤high)))) (Jf ø ø ø ø) ø (JLm (BL ((decide (low≤n))&&(decide (n≤high)))) ø (G7 (b (Gt (fin1 BL h))))))))))))))))))

def Z6 (c:Gc):Option Bool:=
 each (fun d a (l:Unit) k=>
  bif ((decide (d < 0))||(decide (c.Tiers≤d))) then
  (some false)
  else
  (bnd (bif decide (0 < (a:Int)) then chk ((a:Int) - 1) some else some 0) fun m=>
   bnd (bif decide (0 < (a:Int)) then Jx c.Plugs m some else some default) fun n=>
   bif ((decide (0 < (a:Int)))&&(decide (d≤n))) then
   (some false)
   else
   (k ())))
 (fun(l:Unit)=>
  bnd (J0 c.X (-500000) 500000) fun e=>
  bnd (bif e then J0 c.Y (-500000) 500000 else some default) fun h=>
  bnd (bif (e&&h) then J0 c.Z (-500000) 500000 else some default) fun o=>
  bnd (J0 c.Kilos20 0 500000000) fun f=>
  bnd (bif f then J0 c.Kilos40 0 500000000 else some default) fun i=>
  bnd (bif (f&&i) then J0 c.Lash 0 1000000000000 else some default) fun p=>
  bnd (J0 c.Bay 0 39) fun b=>
  bnd (bif b then J0 c.Row 0 30 else some default) fun g=>
  bnd (bif (b&&g) then J0 c.Tiers 1 10 else some default) fun j=>
  bnd (bif ((b&&g)&&j) then J0 c.Height 0 40000 else some default) fun q=>
  some (((((b&&g)&&j)&&q)&&((f&&i)&&p))&&((e&&h)&&o))) c.Plugs 0 ()
theorem oU (c:Gc) (r:Bool) (h:Z6 c=some r):Pure Ej 108 [.agg (Gc.cs c)] (·=BL r):=by
 unfold Z6 at h
 refine Gy [.tmp 2] Tryz.func108 ø ø (Jr fun c3=>(JLh (.ptr 1102 0) (Qr (cs:=(Gc.cs c)) 1102 ø ø ø ø ø) ø (JLm (BL false) ø (G7 (c3 (H1 [(1,Ee c)] [] 1102 rfl rfl rfl þ rfl (by exact⟨.ptr,þ⟩) (Js fun c4=>Jr fun c5=>(JLm (I64 0) ø (G7 (c5 (Gi ?_)))))))))))
 obtain⟨c6,w,x,v,h⟩:=Jg h
 refine H7 (fun a (s:Unit)=>each c6 w (List.drop a c.Plugs) a s=some r) (fun a s=>[(1,Ee c),(3,Ei a)]) (fun a s=>[]) (fun a=>c.Plugs.length - a) 0 () h ⟨(.sm ø ø),þ,ø⟩ ?_
 clear h
 intro a s t d1 c7
 refine Js fun z=>Jr fun a0=>(JLm (Ei a) ø (JLh (.dptr ((Gc.cs c).drop 8)) (Gb Rf ø ø ø) ø (JLh (E1 c.Plugs) (Gj Hv ø ø ø) ø (JLl Gr ø ø ø fun c8=>(JLh (BL (decide ((a:Int) < (c.Plugs.length:Int)))) (Ht ø ø ø) ø (G7 (a0 (Gm ø (fun hb=>?_) (fun hb=>?_)))))))))
 ·
  have u:=Q1 hb
  obtain⟨b,d0,q,a1,h⟩:=J4 t u
  replace h:=Zt x h
  refine Gn (z (Js fun a2=>Gi (Js fun a3=>Js fun a4=>?_)))
  refine JC_d0 J9 (by kernel_rfl) (Dq (.dptr ((Gc.cs c).drop 8)) (Gb Rf ø ø ø) ø (Dq (E1 c.Plugs) (Gj Hv ø ø ø) ø (Dq (Ei a) (G3 ø ø) ø (Dq (.dptr [I64 b]) (Gs (f:=I64) (xs:=c.Plugs) (y:=b) ø ø ø Gr q ø) ø (Dq (I64 b) (Gj Ga ø ø ø) ø (Dq (BL (decide (b < 0))) (Ht ø ø ø) ø (Dq (BL (decide (b < 0))) (G3 ø ø) ø (Do (.dptr ((Gc.cs c).drop 8)) [] ø .scf þ (fun hc=>Gb Rf ø ø ø) ø (Do (E1 c.Plugs) [20] ø .scf ⟨Ua,þ⟩ (fun hc=>Gj Hv ø ø ø) ø (Do (Ei a) [] ø .scf þ (fun hc=>G3 ø ø) ø (Do (.dptr [I64 b]) [21,22] ø .scf ⟨Ua,Ua,þ⟩ (fun hc=>Gs (f:=I64) (xs:=c.Plugs) (y:=b) ø ø ø Gr q ø) ø (Do (I64 b) [23] ø .scf ⟨Ua,þ⟩ (fun hc=>Gj Ga ø ø ø) ø (Do (.dptr ((Gc.cs c).drop 3)) [] ø .scf þ (fun hc=>Gb Zj ø ø ø) ø ?_)))))))))))))
  refine Do (I64 c.Tiers) [25] ø .scf ⟨Ua,þ⟩ (fun hc=>Gj Ga ø ø ø) ø (Do (BL (decide (c.Tiers≤b))) [24,26] ø .scf ⟨Ua,Ua,þ⟩ (fun hc=>dF ø ø ø) ø (Dq (BL ((decide (b < 0))||(decide (c.Tiers≤b)))) (aJ ø ø ø ø) ø (Dnil (a4 (JCc ø h (fun h hb=>?_) (fun h hb=>?_))))))
  ·
   refine Jr fun a5=>(JLm (BL false) ø (G7 (a5 (Gt (fin1 BL h)))))
  ·
   refine Gn (a3 (Js fun a6=>?_))
   obtain⟨c9,a7,h⟩:=Ge h
   obtain⟨p,a8,h⟩:=Ge h
   refine JC_d0 J9 (by kernel_rfl) (Dq (Ei a) (G3 ø ø) ø (Dq (BL (decide (0 < (a:Int)))) (Ya ø ø ø) ø (Dq (BL (decide (0 < (a:Int)))) (G3 ø ø) ø (Do (.dptr ((Gc.cs c).drop 8)) [] ø .sct þ (fun hc=>Gb Rf ø ø ø) ø (Do (E1 c.Plugs) [32] ø .sct ⟨Ua,þ⟩ (fun hc=>Gj Hv ø ø ø) ø (Do (Ei a) [] ø .sct þ (fun hc=>G3 ø ø) ø (Do (I64 c9) [34] ø .sct ⟨Ua,þ⟩ (fun hc=>cB (bS (Gw hc a7)) ø ø ø) ø (Do (.dptr [I64 p]) [33,35] ø .sct ⟨Ua,Ua,þ⟩ (fun hc=>(match Qk (Gw hc a8) with | ⟨_,hm_,hy_⟩=>Gs (f:=I64) (xs:=c.Plugs) (y:=p) ø ø ø Gr hy_ hm_)) ø (Do (I64 p) [36] ø .sct ⟨Ua,þ⟩ (fun hc=>Gj Ga ø ø ø) ø (Do (.dptr ((Gc.cs c).drop 8)) [] ø .sct þ (fun hc=>Gb Rf ø ø ø) ø (Do (E1 c.Plugs) [38] ø .sct ⟨Ua,þ⟩ (fun hc=>Gj Hv ø ø ø) ø (Do (Ei a) [] ø .sct þ (fun hc=>G3 ø ø) ø (Do (.dptr [I64 b]) [39,40] ø .sct ⟨Ua,Ua,þ⟩ (fun hc=>Gs (f:=I64) (xs:=c.Plugs) (y:=b) ø ø ø Gr q ø) ø ?_)))))))))))))
   refine Do (I64 b) [41] ø .sct ⟨Ua,þ⟩ (fun hc=>Gj Ga ø ø ø) ø (Do (BL (decide (b≤p))) [37,42] ø .sct ⟨Ua,Ua,þ⟩ (fun hc=>dF ø ø ø) ø (Dq (BL ((decide (0 < (a:Int)))&&(decide (b≤p)))) (Jf ø ø ø ø) ø (Dnil (a6 (JCc ø h (fun h hb=>?_) (fun h hb=>?_))))))
   ·
    refine Jr fun a9=>(JLm (BL false) ø (G7 (a9 (Gt (fin1 BL h)))))
   ·
    refine Gn (a2 (G2 (JLm (Ei a) ø (JLh (I64 ((a+1:Nat):Int)) (Hf (Hq u c8) ø ø ø) ø (JLm (I64 ((a+1:Nat):Int)) ø (G7 (c7 _ _ (a+1) () (app1 a1 h) (by omega) ⟨(.sm ø ø),þ,rfl⟩)))))))
 ·
  have h:=app1 v (J5 t (Hg hb))
  refine H5 (c4 (Jr fun b0=>(JLh (.dptr [I64 c.X,I64 c.Y,I64 c.Z]) (Gb kN ø ø ø) ø (JLh (I64 c.X) (Gj Ga ø ø ø) ø ?_))))
  obtain⟨j,b1,h⟩:=Ge h
  refine JLh (BL j) (Gq ø (Jb c.X (-500000) 500000 j b1) Z3 ⟨ø,ø,ø,ø,ø,ø,þ⟩) ø (JLm (BL j) ø (JLo (.dptr [I64 c.Y,I64 c.Z]) [] ø .sct þ (fun hc=>Gb jI ø ø ø) ø (JLo (I64 c.Y) [49] ø .sct ⟨Ua,þ⟩ (fun hc=>Gj Ga ø ø ø) ø ?_)))
  obtain⟨l,b2,h⟩:=Ge h
  refine JLo (BL l) [50] ø .sct ⟨Ua,þ⟩ (fun hc=>Gq (args:=[I64 c.Y,I64 (-500000),I64 500000]) ø (Jb c.Y (-500000) 500000 l (Gw hc b2)) Z3 ⟨ø,ø,ø,ø,ø,ø,þ⟩) ø (JLh (BL (j&&l)) (Jf ø ø ø ø) ø (JLm (BL (j&&l)) ø (JLo (.dptr [I64 c.Z]) [] ø .sct þ (fun hc=>Gb jH ø ø ø) ø (JLo (I64 c.Z) [54] ø .sct ⟨Ua,þ⟩ (fun hc=>Gj Ga ø ø ø) ø ?_))))
  obtain⟨o,b3,h⟩:=Ge h
  refine JLo (BL o) [55] ø .sct ⟨Ua,þ⟩ (fun hc=>Gq (args:=[I64 c.Z,I64 (-500000),I64 500000]) ø (Jb c.Z (-500000) 500000 o (Gw hc b3)) Z3 ⟨ø,ø,ø,ø,ø,ø,þ⟩) ø (JLh (BL ((j&&l)&&o)) (Jf ø ø ø ø) ø (JLm (BL ((j&&l)&&o)) ø (G7 (b0 (Jr fun b4=>(JLh (.dptr ((Gc.cs c).drop 5)) (Gb kQ ø ø ø) ø (JLh (I64 c.Kilos20) (Gj Ga ø ø ø) ø ?_)))))))
  obtain⟨e,b5,h⟩:=Ge h
  refine JLh (BL e) (Gq ø (Jb c.Kilos20 0 500000000 e b5) Z3 ⟨ø,ø,ø,ø,ø,ø,þ⟩) ø (JLm (BL e) ø (JLo (.dptr ((Gc.cs c).drop 6)) [] ø .sct þ (fun hc=>Gb kP ø ø ø) ø (JLo (I64 c.Kilos40) [62] ø .sct ⟨Ua,þ⟩ (fun hc=>Gj Ga ø ø ø) ø ?_)))
  obtain⟨i,b6,h⟩:=Ge h
  refine JLo (BL i) [63] ø .sct ⟨Ua,þ⟩ (fun hc=>Gq (args:=[I64 c.Kilos40,I64 0,I64 500000000]) ø (Jb c.Kilos40 0 500000000 i (Gw hc b6)) Z3 ⟨ø,ø,ø,ø,ø,ø,þ⟩) ø (JLh (BL (e&&i)) (Jf ø ø ø ø) ø (JLm (BL (e&&i)) ø (JLo (.dptr ((Gc.cs c).drop 7)) [] ø .sct þ (fun hc=>Gb kO ø ø ø) ø (JLo (I64 c.Lash) [67] ø .sct ⟨Ua,þ⟩ (fun hc=>Gj Ga ø ø ø) ø ?_))))
  obtain⟨m,b7,h⟩:=Ge h
  refine JLo (BL m) [68] ø .sct ⟨Ua,þ⟩ (fun hc=>Gq (args:=[I64 c.Lash,I64 0,I64 1000000000000]) ø (Jb c.Lash 0 1000000000000 m (Gw hc b7)) Z3 ⟨ø,ø,ø,ø,ø,ø,þ⟩) ø (JLh (BL ((e&&i)&&m)) (Jf ø ø ø ø) ø (JLm (BL ((e&&i)&&m)) ø (G7 (b4 (Jr fun b8=>(JLh (Ee c) (Gb cT ø ø ø) ø (JLh (I64 c.Bay) (Gj Ga ø ø ø) ø ?_)))))))
  obtain⟨d,b9,h⟩:=Ge h
  refine JLh (BL d) (Gq ø (Jb c.Bay 0 39 d b9) Z3 ⟨ø,ø,ø,ø,ø,ø,þ⟩) ø (JLm (BL d) ø (JLo (.dptr ((Gc.cs c).drop 1)) [] ø .sct þ (fun hc=>Gb cS ø ø ø) ø (JLo (I64 c.Row) [75] ø .sct ⟨Ua,þ⟩ (fun hc=>Gj Ga ø ø ø) ø ?_)))
  obtain⟨g,c0,h⟩:=Ge h
  refine JLo (BL g) [76] ø .sct ⟨Ua,þ⟩ (fun hc=>Gq (args:=[I64 c.Row,I64 0,I64 30]) ø (Jb c.Row 0 30 g (Gw hc c0)) Z3 ⟨ø,ø,ø,ø,ø,ø,þ⟩) ø (JLh (BL (d&&g)) (Jf ø ø ø ø) ø (JLm (BL (d&&g)) ø (JLo (.dptr ((Gc.cs c).drop 3)) [] ø .sct þ (fun hc=>Gb Zj ø ø ø) ø (JLo (I64 c.Tiers) [80] ø .sct ⟨Ua,þ⟩ (fun hc=>Gj Ga ø ø ø) ø ?_))))
  obtain⟨k,c1,h⟩:=Ge h
  refine JLo (BL k) [81] ø .sct ⟨Ua,þ⟩ (fun hc=>Gq (args:=[I64 c.Tiers,I64 1,I64 10]) ø (Jb c.Tiers 1 10 k (Gw hc c1)) Z3 ⟨ø,ø,ø,ø,ø,ø,þ⟩) ø (JLh (BL ((d&&g)&&k)) (Jf ø ø ø ø) ø (JLm (BL ((d&&g)&&k)) ø (JLo (.dptr ((Gc.cs c).drop 4)) [] ø .sct þ (fun hc=>Gb kR ø ø ø) ø (JLo (I64 c.Height) [85] ø .sct ⟨Ua,þ⟩ (fun hc=>Gj Ga ø ø ø) ø ?_))))
  obtain⟨n,c2,h⟩:=Ge h
  refine JLo (BL n) [86] ø .sct ⟨Ua,þ⟩ (fun hc=>Gq (args:=[I64 c.Height,I64 0,I64 40000]) ø (Jb c.Height 0 40000 n (Gw hc c2)) Z3 ⟨ø,ø,ø,ø,ø,ø,þ⟩) ø (JLh (BL (((d&&g)&&k)&&n)) (Jf ø ø ø ø) ø (JLm (BL (((d&&g)&&k)&&n)) ø (JLo (BL ((e&&i)&&m)) [] ø .sct þ (fun hc=>G3 ø ø) ø (JLh (BL ((((d&&g)&&k)&&n)&&((e&&i)&&m))) (Jf ø ø ø ø) ø (JLm (BL ((((d&&g)&&k)&&n)&&((e&&i)&&m))) ø (JLo (BL ((j&&l)&&o)) [] ø .sct þ (fun hc=>G3 ø ø) ø (JLh (BL (((((d&&g)&&k)&&n)&&((e&&i)&&m))&&((j&&l)&&o))) (Jf ø ø ø ø) ø (JLm (BL (((((d&&g)&&k)&&n)&&((e&&i)&&m))&&((j&&l)&&o))) ø (G7 (b8 (Gt (fin1 BL h))))))))))))

def R9 (rows:List Int) (row:Int):Option Bool:=
 each (fun b d (c:Unit) a=>
  bif decide (b=row) then
  (some true)
  else
  (a ()))
 (fun(c:Unit)=>
  some false) rows 0 ()
theorem oT (rows:List Int) (row:Int) (r:Bool) (h:R9 rows row=some r):Pure Ej 109 [E1 rows,I64 row] (·=BL r):=by
 unfold R9 at h
 refine Gy [.tmp 4] Tryz.func109 ø ø (Jr fun t=>(JLm (BL false) ø (G7 (t (Js fun u=>Jr fun v=>(JLm (I64 0) ø (G7 (v (Gi ?_)))))))))
 obtain⟨w,i,j,g,h⟩:=Jg h
 refine H7 (fun a (b:Unit)=>each w i (List.drop a rows) a b=some r) (fun a b=>[(0,E1 rows),(1,I64 row),(5,Ei a)]) (fun a b=>[]) (fun a=>rows.length - a) 0 () h ⟨(.sm ø ø),þ,ø⟩ ?_
 clear h
 intro a b d a1 x
 refine Js fun k=>Jr fun l=>(JLm (Ei a) ø (JLm (E1 rows) ø (JLl Gr ø ø ø fun z=>(JLh (BL (decide ((a:Int) < (rows.length:Int)))) (Ht ø ø ø) ø (G7 (l (Gm ø (fun hb=>?_) (fun hb=>?_))))))))
 ·
  have e:=Q1 hb
  obtain⟨c,a0,m,n,h⟩:=J4 d e
  replace h:=Zt j h
  refine Gn (k (Js fun o=>Gi (Jr fun p=>(JLm (E1 rows) ø (JLm (Ei a) ø (JLh (.dptr [I64 c]) (Gs (f:=I64) (xs:=rows) (y:=c) ø ø ø Gr m ø) ø (JLh (I64 c) (Gj Ga ø ø ø) ø (JLm (I64 row) ø (JLh (BL (decide (c=row))) (Rk ø ø ø) ø (G7 (p (JCc ø h (fun h hb=>?_) (fun h hb=>?_)))))))))))))
  ·
   refine Jr fun q=>(JLm (BL true) ø (G7 (q (Gt (fin1 BL h)))))
  ·
   refine Gn (o (G2 (JLm (Ei a) ø (JLh (I64 ((a+1:Nat):Int)) (Hf (Hq e z) ø ø ø) ø (JLm (I64 ((a+1:Nat):Int)) ø (G7 (x _ _ (a+1) () (app1 n h) (by omega) ⟨(.sm ø ø),þ,rfl⟩)))))))
 ·
  have h:=app1 g (J5 d (Hg hb))
  refine H5 (u (Jr fun s=>(JLm (BL false) ø (G7 (s (Gt (fin1 BL h)))))))

def Zp (F:Nat) (s:H2):Option Bool:=
 bnd (J0 (s.Columns.length:Int) 1 200) fun r4=>
 bif ((!r4)||(decide (40 < (s.Covers.length:Int)))) then
 (some false)
 else
 (each (fun b p (s8:Unit) q=>
   bnd (Z6 b) fun r=>
   bif (!r) then
   (some false)
   else
   (need (decide ((p:Int)≤9223372036854775807)) <|
    upto (fun d (t:Unit) l=>
     Jx s.Columns (d:Int) fun e=>
     bnd (bif decide (e.Bay=b.Bay) then Jx s.Columns (d:Int) some else some default) fun i=>
     bnd (bif ((decide (e.Bay=b.Bay))&&(decide (i.Row=b.Row))) then Jx s.Columns (d:Int) some else some default) fun u=>
     bif (((decide (e.Bay=b.Bay))&&(decide (i.Row=b.Row)))&&(u.Deck==b.Deck)) then
     (some false)
     else
     (l ()))
    (fun(t:Unit)=>
     q ()) (p:Int).toNat 0 ()))
  (fun(s8:Unit)=>
   each (fun a j (v:Unit) m=>
    bnd (J0 a.Bay 0 39) fun w=>
    bif ((!w)||(decide ((a.Rows.length:Int)=0))) then
    (some false)
    else
    (each (fun f c (x:Unit) n=>
      bnd (J0 f 0 30) fun g=>
      bnd (bif ((!(!g))&&(decide (0 < (c:Int)))) then chk ((c:Int) - 1) some else some 0) fun y=>
      bnd (bif ((!(!g))&&(decide (0 < (c:Int)))) then Jx a.Rows y some else some default) fun z=>
      bif ((!g)||((decide (0 < (c:Int)))&&(decide (f≤z)))) then
      (some false)
      else
      (need (decide ((j:Int)≤9223372036854775807)) <|
       upto (fun k (a0:Unit) o=>
        Jx s.Covers (k:Int) fun h=>
        bnd (bif decide (h.Bay=a.Bay) then Jx s.Covers (k:Int) some else some default) fun a1=>
        bnd (bif decide (h.Bay=a.Bay) then R9 a1.Rows f else some default) fun a2=>
        bif ((decide (h.Bay=a.Bay))&&a2) then
        (some false)
        else
        (o ()))
       (fun(a0:Unit)=>
        n ()) (j:Int).toNat 0 ()))
     (fun(x:Unit)=>
      m ()) a.Rows 0 ()))
   (fun(v:Unit)=>
    some true) s.Covers 0 ()) s.Columns 0 ())
theorem qI (F:Nat) (s:H2) (r:Bool) (h:Zp F s=some r):Pure Ej 47 [.agg (H2.cs s)] (·=BL r):=by
 unfold Zp at h
 refine Gy [.tmp 2] Tryz.func47 ø ø (Jr fun j0=>(JLh (.ptr 1039 0) (Qr (cs:=(H2.cs s)) 1039 ø ø ø ø ø) ø (JLm (BL false) ø (G7 (j0 (H1 [(1,Ec s)] [] 1039 rfl rfl rfl þ rfl (by exact⟨.ptr,þ⟩) (Js fun j1=>Jr fun j2=>(JLh (Ec s) (Gb J1 ø ø ø) ø (JLh (E5 s.Columns) (Gj Jd ø ø ø) ø (JLl Ha ø ø ø fun l0=>?_))))))))))
 obtain⟨r4,j3,h⟩:=Ge h
 refine JLh (BL r4) (Gq ø (Jb (s.Columns.length:Int) 1 200 r4 j3) Z3 ⟨ø,ø,ø,ø,ø,ø,þ⟩) ø (JLh (BL (!r4)) (Ym (b:=r4) ø ø) ø (JLm (BL (!r4)) ø (JLo (.dptr ((H2.cs s).drop 1)) [] ø .scf þ (fun hc=>Gb Qv ø ø ø) ø (JLo (E6 s.Covers) [15] ø .scf ⟨Ua,þ⟩ (fun hc=>Gj Y2 ø ø ø) ø (JLo (Ei s.Covers.length) [16] ø .scf ⟨Ua,þ⟩ (fun hc=>Q4 (f:=Gz.av) (xs:=s.Covers) J6 ø ø) ø (JLo (BL (decide (40 < (s.Covers.length:Int)))) [17] ø .scf ⟨Ua,þ⟩ (fun hc=>Ya ø ø ø) ø (JLh (BL ((!r4)||(decide (40 < (s.Covers.length:Int))))) (aJ ø ø ø ø) ø (G7 (j2 (JCc ø h (fun h hb=>?_) (fun h hb=>?_)))))))))))
 ·
  refine Jr fun j4=>(JLm (BL false) ø (G7 (j4 (Gt (fin1 BL h)))))
 ·
  refine Gn (j1 (Js fun j5=>Jr fun j6=>(JLm (I64 0) ø (G7 (j6 (Gi ?_))))))
  obtain⟨b8,j7,j8,c3,h⟩:=Jg h
  refine H7 (fun k (s8:Unit)=>each b8 j7 (List.drop k s.Columns) k s8=some r) (fun k s8=>[(1,Ec s),(3,Ei k)]) (fun k s8=>[]) (fun k=>s.Columns.length - k) 0 () h ⟨(.sm ø ø),þ,ø⟩ ?_
  clear h
  intro k s8 c1 K8 e8
  refine Js fun j9=>Jr fun c4=>(JLm (Ei k) ø (JLh (Ec s) (Gb J1 ø ø ø) ø (JLh (E5 s.Columns) (Gj Jd ø ø ø) ø (JLl Ha ø ø ø fun c5=>(JLh (BL (decide ((k:Int) < (s.Columns.length:Int)))) (Ht ø ø ø) ø (G7 (c4 (Gm ø (fun hb=>?_) (fun hb=>?_)))))))))
  ·
   have c2:=Q1 hb
   obtain⟨e,l7,x,k0,h⟩:=J4 c1 c2
   replace h:=Zt j8 h
   refine Gn (j9 (Js fun c6=>Gi (Js fun c7=>Jr fun c8=>(JLh (Ec s) (Gb J1 ø ø ø) ø (JLh (E5 s.Columns) (Gj Jd ø ø ø) ø (JLm (Ei k) ø (JLh (Ee e) (Gs (f:=Gc.av) (xs:=s.Columns) (y:=e) ø ø ø Ha x ø) ø (JLh (.agg (Gc.cs e)) (Gk Z4 ø ø ø) ø ?_))))))))
   obtain⟨z,c9,h⟩:=Ge h
   refine JLh (BL z) (Gq ø (oU e z c9) Ga3 ⟨ø,ø,þ⟩) ø (JLh (BL (!z)) (Ym (b:=z) ø ø) ø (G7 (c8 (JCc ø h (fun h hb=>?_) (fun h hb=>?_)))))
   ·
    refine Jr fun d0=>(JLm (BL false) ø (G7 (d0 (Gt (fin1 BL h)))))
   ·
    refine Gn (c7 (Jr fun d1=>(JLm (I64 0) ø (G7 (d1 (Gi ?_))))))
    obtain⟨d2,h⟩:=J2 h
    obtain⟨k1,d3,d4,b5,h⟩:=gT h
    refine H7 (fun g (a0:Unit)=>upto k1 d3 ((k:Int).toNat - g) g a0=some r) (fun g a0=>[(1,Ec s),(3,Ei k),(4,Ei g)]) (fun g a0=>[]) (fun g=>(k:Int).toNat - g) 0 () h ⟨(.sm ø ø),þ,ø⟩ ?_
    clear h
    intro g a0 a5 l8 k2
    refine Js fun d5=>Jr fun d6=>(JLm (Ei g) ø (JLm (Ei k) ø (JLh (BL (decide ((g:Int) < (k:Int)))) (Ht ø ø ø) ø (G7 (d6 (Gm ø (fun hb=>?_) (fun hb=>?_)))))))
    ·
     have a6:=eJ hb
     obtain⟨l3,d7,h⟩:=eH a5 a6
     replace h:=vM d4 h
     refine Gn (d5 (Js fun d8=>Gi (Js fun d9=>?_)))
     obtain⟨l9,l,e0,e1,h⟩:=Q8 h
     obtain⟨n,e2,h⟩:=Ge h
     obtain⟨q,e3,h⟩:=Ge h
     refine JC_d0 J9 (by kernel_rfl) (Dq (Ec s) (Gb J1 ø ø ø) ø (Dq (E5 s.Columns) (Gj Jd ø ø ø) ø (Dq (Ei g) (G3 ø ø) ø (Dq (Ee l) (Gs (f:=Gc.av) (xs:=s.Columns) (y:=l) ø ø ø Ha e1 e0) ø (Dq (Ee l) (Gb cT ø ø ø) ø (Dq (I64 l.Bay) (Gj Ga ø ø ø) ø (Dq (Ec s) (Gb J1 ø ø ø) ø (Dq (E5 s.Columns) (Gj Jd ø ø ø) ø (Dq (Ei k) (G3 ø ø) ø (Dq (Ee e) (Gs (f:=Gc.av) (xs:=s.Columns) (y:=e) ø ø ø Ha x ø) ø (Dq (Ee e) (Gb cT ø ø ø) ø (Dq (I64 e.Bay) (Gj Ga ø ø ø) ø (Dq (BL (decide (l.Bay=e.Bay))) (Rk ø ø ø) ø ?_)))))))))))))
     refine Dq (BL (decide (l.Bay=e.Bay))) (G3 ø ø) ø (Do (Ec s) [] ø .sct þ (fun hc=>Gb J1 ø ø ø) ø (Do (E5 s.Columns) [53] ø .sct ⟨Ua,þ⟩ (fun hc=>Gj Jd ø ø ø) ø (Do (Ei g) [] ø .sct þ (fun hc=>G3 ø ø) ø (Do (Ee n) [54,55] ø .sct ⟨Ua,Ua,þ⟩ (fun hc=>(match Qk (Gw hc e2) with | ⟨_,hm_,hy_⟩=>Gs (f:=Gc.av) (xs:=s.Columns) (y:=n) ø ø ø Ha hy_ hm_)) ø (Do (.dptr ((Gc.cs n).drop 1)) [56] ø .sct ⟨Ua,þ⟩ (fun hc=>Gb cS ø ø ø) ø (Do (I64 n.Row) [57] ø .sct ⟨Ua,þ⟩ (fun hc=>Gj Ga ø ø ø) ø (Do (Ec s) [] ø .sct þ (fun hc=>Gb J1 ø ø ø) ø (Do (E5 s.Columns) [59] ø .sct ⟨Ua,þ⟩ (fun hc=>Gj Jd ø ø ø) ø (Do (Ei k) [] ø .sct þ (fun hc=>G3 ø ø) ø (Do (Ee e) [60,61] ø .sct ⟨Ua,Ua,þ⟩ (fun hc=>Gs (f:=Gc.av) (xs:=s.Columns) (y:=e) ø ø ø Ha x ø) ø (Do (.dptr ((Gc.cs e).drop 1)) [62] ø .sct ⟨Ua,þ⟩ (fun hc=>Gb cS ø ø ø) ø (Do (I64 e.Row) [63] ø .sct ⟨Ua,þ⟩ (fun hc=>Gj Ga ø ø ø) ø (Do (BL (decide (n.Row=e.Row))) [58,64] ø .sct ⟨Ua,Ua,þ⟩ (fun hc=>Rk ø ø ø) ø ?_)))))))))))))
     refine Dq (BL ((decide (l.Bay=e.Bay))&&(decide (n.Row=e.Row)))) (Jf ø ø ø ø) ø (Dq (BL ((decide (l.Bay=e.Bay))&&(decide (n.Row=e.Row)))) (G3 ø ø) ø (Do (Ec s) [] ø .sct þ (fun hc=>Gb J1 ø ø ø) ø (Do (E5 s.Columns) [68] ø .sct ⟨Ua,þ⟩ (fun hc=>Gj Jd ø ø ø) ø (Do (Ei g) [] ø .sct þ (fun hc=>G3 ø ø) ø (Do (Ee q) [69,70] ø .sct ⟨Ua,Ua,þ⟩ (fun hc=>(match Qk (Gw hc e3) with | ⟨_,hm_,hy_⟩=>Gs (f:=Gc.av) (xs:=s.Columns) (y:=q) ø ø ø Ha hy_ hm_)) ø (Do (.dptr ((Gc.cs q).drop 2)) [71] ø .sct ⟨Ua,þ⟩ (fun hc=>Gb gG ø ø ø) ø (Do (BL q.Deck) [72] ø .sct ⟨Ua,þ⟩ (fun hc=>Gj fJ ø ø ø) ø (Do (Ec s) [] ø .sct þ (fun hc=>Gb J1 ø ø ø) ø (Do (E5 s.Columns) [74] ø .sct ⟨Ua,þ⟩ (fun hc=>Gj Jd ø ø ø) ø (Do (Ei k) [] ø .sct þ (fun hc=>G3 ø ø) ø (Do (Ee e) [75,76] ø .sct ⟨Ua,Ua,þ⟩ (fun hc=>Gs (f:=Gc.av) (xs:=s.Columns) (y:=e) ø ø ø Ha x ø) ø (Do (.dptr ((Gc.cs e).drop 2)) [77] ø .sct ⟨Ua,þ⟩ (fun hc=>Gb gG ø ø ø) ø (Do (BL e.Deck) [78] ø .sct ⟨Ua,þ⟩ (fun hc=>Gj fJ ø ø ø) ø ?_)))))))))))))
     refine Do (BL (q.Deck==e.Deck)) [73,79] ø .sct ⟨Ua,Ua,þ⟩ (fun hc=>Ge7 G1f ø ø ø) ø (Dq (BL (((decide (l.Bay=e.Bay))&&(decide (n.Row=e.Row)))&&(q.Deck==e.Deck))) (Jf ø ø ø ø) ø (Dnil (d9 (JCc ø h (fun h hb=>?_) (fun h hb=>?_)))))
     ·
      refine Jr fun e4=>(JLm (BL false) ø (G7 (e4 (Gt (fin1 BL h)))))
     ·
      refine Gn (d8 (G2 (JLm (Ei g) ø (JLh (I64 ((g+1:Nat):Int)) (Hf (Hq a6 (cI d2)) ø ø ø) ø (JLm (I64 ((g+1:Nat):Int)) ø (G7 (k2 _ _ (g+1) () (app1 d7 h) (by omega) ⟨(.sm ø ø),þ,rfl⟩)))))))
    ·
     have h:=app1 b5 (eI a5 (Z2 hb))
     refine H5 (c6 (G2 (JLm (Ei k) ø (JLh (I64 ((k+1:Nat):Int)) (Hf (Hq c2 c5) ø ø ø) ø (JLm (I64 ((k+1:Nat):Int)) ø (G7 (e8 _ _ (k+1) () (app1 k0 h) (by omega) ⟨(.sm ø ø),þ,rfl⟩)))))))
  ·
   have h:=app1 c3 (J5 c1 (Hg hb))
   refine H5 (j5 (Js fun e5=>Jr fun e6=>(JLm (I64 0) ø (G7 (e6 (Gi ?_))))))
   obtain⟨k3,e7,e9,b6,h⟩:=Jg h
   refine H7 (fun d (a1:Unit)=>each k3 e7 (List.drop d s.Covers) d a1=some r) (fun d a1=>[(1,Ec s),(5,Ei d)]) (fun d a1=>[]) (fun d=>s.Covers.length - d) 0 () h ⟨(.sm ø ø),þ,ø⟩ ?_
   clear h
   intro d a1 a7 m0 k4
   refine Js fun f0=>Jr fun f1=>(JLm (Ei d) ø (JLh (.dptr ((H2.cs s).drop 1)) (Gb Qv ø ø ø) ø (JLh (E6 s.Covers) (Gj Y2 ø ø ø) ø (JLl J6 ø ø ø fun f2=>(JLh (BL (decide ((d:Int) < (s.Covers.length:Int)))) (Ht ø ø ø) ø (G7 (f1 (Gm ø (fun hb=>?_) (fun hb=>?_)))))))))
   ·
    have a8:=Q1 hb
    obtain⟨a,l4,f3,f4,h⟩:=J4 a7 a8
    replace h:=Zt e9 h
    refine Gn (f0 (Js fun f5=>Gi (Jr fun f6=>(JLh (.dptr ((H2.cs s).drop 1)) (Gb Qv ø ø ø) ø (JLh (E6 s.Covers) (Gj Y2 ø ø ø) ø (JLm (Ei d) ø (JLh (.dptr [I64 a.Bay,E1 a.Rows]) (Gs (f:=Gz.av) (xs:=s.Covers) (y:=a) ø ø ø J6 f3 ø) ø (JLh (.agg [I64 a.Bay,E1 a.Rows]) (Gk Zz ø ø ø) ø (JLh (.ptr 1040 0) (Q3 1040 2 iH ø ø) ø (J7 (u:=.junk) (Hw (u:=.agg [I64 a.Bay,E1 a.Rows]) (ds:=[I64 a.Bay,E1 a.Rows]) jW ø ø ø ø ø ø ø ø) (G7 (f6 (H1 [(1,Ec s),(5,Ei d),(6,.dptr [I64 a.Bay,E1 a.Rows])] [] 1040 rfl rfl rfl þ rfl (by exact⟨.conv (.same rfl),.conv (.same rfl),.ptr,þ⟩) (Js fun f7=>?_))))))))))))))
    refine Jr fun f8=>(JLh (.dptr [I64 a.Bay,E1 a.Rows]) (Gb bN ø ø ø) ø (JLh (I64 a.Bay) (Gj Ga ø ø ø) ø ?_))
    obtain⟨t,f9,h⟩:=Ge h
    refine JLh (BL t) (Gq ø (Jb a.Bay 0 39 t f9) Z3 ⟨ø,ø,ø,ø,ø,ø,þ⟩) ø (JLh (BL (!t)) (Ym (b:=t) ø ø) ø (JLm (BL (!t)) ø (JLo (.dptr [E1 a.Rows]) [] ø .scf þ (fun hc=>Gb Qj ø ø ø) ø (JLo (E1 a.Rows) [99] ø .scf ⟨Ua,þ⟩ (fun hc=>Gj Hv ø ø ø) ø (JLo (Ei a.Rows.length) [100] ø .scf ⟨Ua,þ⟩ (fun hc=>Q4 (f:=I64) (xs:=a.Rows) Gr ø ø) ø (JLo (BL (decide ((a.Rows.length:Int)=0))) [101] ø .scf ⟨Ua,þ⟩ (fun hc=>Rk ø ø ø) ø (JLh (BL ((!t)||(decide ((a.Rows.length:Int)=0)))) (aJ ø ø ø ø) ø (G7 (f8 (JCc ø h (fun h hb=>?_) (fun h hb=>?_)))))))))))
    ·
     refine Jr fun g0=>(JLm (BL false) ø (G7 (g0 (Gt (fin1 BL h)))))
    ·
     refine Gn (f7 (Jr fun g1=>(JLm (I64 0) ø (G7 (g1 (Gi ?_))))))
     obtain⟨k5,g2,g3,b7,h⟩:=Jg h
     refine H7 (fun c (a2:Unit)=>each k5 g2 (List.drop c a.Rows) c a2=some r) (fun c a2=>[(1,Ec s),(5,Ei d),(6,.dptr [I64 a.Bay,E1 a.Rows]),(7,Ei c)]) (fun c a2=>[]) (fun c=>a.Rows.length - c) 0 () h ⟨(.sm ø ø),þ,rfl⟩ ?_
     clear h
     intro c a2 a9 m1 k6
     refine Js fun g4=>Jr fun g5=>(JLm (Ei c) ø (JLh (.dptr [E1 a.Rows]) (Gb Qj ø ø ø) ø (JLh (E1 a.Rows) (Gj Hv ø ø ø) ø (JLl Gr ø ø ø fun b9=>(JLh (BL (decide ((c:Int) < (a.Rows.length:Int)))) (Ht ø ø ø) ø (G7 (g5 (Gm ø (fun hb=>?_) (fun hb=>?_)))))))))
     ·
      have b0:=Q1 hb
      obtain⟨i,l5,w,g6,h⟩:=J4 a9 b0
      replace h:=Zt g3 h
      refine Gn (g4 (Js fun g7=>Gi (Js fun g8=>Js fun g9=>?_)))
      obtain⟨o,h0,h⟩:=Ge h
      obtain⟨k7,h1,h⟩:=Ge h
      obtain⟨v,h2,h⟩:=Ge h
      refine JC_d0 J9 (by kernel_rfl) (Dq (.dptr [E1 a.Rows]) (Gb Qj ø ø ø) ø (Dq (E1 a.Rows) (Gj Hv ø ø ø) ø (Dq (Ei c) (G3 ø ø) ø (Dq (.dptr [I64 i]) (Gs (f:=I64) (xs:=a.Rows) (y:=i) ø ø ø Gr w ø) ø (Dq (I64 i) (Gj Ga ø ø ø) ø (Dq (BL o) (Gq (args:=[I64 i,I64 0,I64 30]) ø (Jb i 0 30 o h0) Z3 ⟨ø,ø,ø,ø,ø,ø,þ⟩) ø (Dq (BL (!o)) (Ym (b:=o) ø ø) ø (Dq (BL (!o)) (G3 ø ø) ø (Do (Ei c) [] ø .scf þ (fun hc=>G3 ø ø) ø (Do (BL (decide (0 < (c:Int)))) [119] ø .scf ⟨Ua,þ⟩ (fun hc=>Ya ø ø ø) ø (Do (BL (decide (0 < (c:Int)))) [120] ø .scf ⟨Ua,þ⟩ (fun hc=>G3 ø ø) ø (Do (.dptr [E1 a.Rows]) [] ø .optt þ (fun hc=>Gb Qj ø ø ø) ø (Do (E1 a.Rows) [122] ø .optt ⟨Ua,þ⟩ (fun hc=>Gj Hv ø ø ø) ø ?_)))))))))))))
      refine Do (Ei c) [] ø .optt þ (fun hc=>G3 ø ø) ø (Do (I64 k7) [124] ø .optt ⟨Ua,þ⟩ (fun hc=>cB (bS (Gw hc h1)) ø ø ø) ø (Do (.dptr [I64 v]) [123,125] ø .optt ⟨Ua,Ua,þ⟩ (fun hc=>(match Qk (Gw hc h2) with | ⟨_,hm_,hy_⟩=>Gs (f:=I64) (xs:=a.Rows) (y:=v) ø ø ø Gr hy_ hm_)) ø (Do (I64 v) [126] ø .optt ⟨Ua,þ⟩ (fun hc=>Gj Ga ø ø ø) ø (Do (.dptr [E1 a.Rows]) [] ø .optt þ (fun hc=>Gb Qj ø ø ø) ø (Do (E1 a.Rows) [128] ø .optt ⟨Ua,þ⟩ (fun hc=>Gj Hv ø ø ø) ø (Do (Ei c) [] ø .optt þ (fun hc=>G3 ø ø) ø (Do (.dptr [I64 i]) [129,130] ø .optt ⟨Ua,Ua,þ⟩ (fun hc=>Gs (f:=I64) (xs:=a.Rows) (y:=i) ø ø ø Gr w ø) ø (Do (I64 i) [131] ø .optt ⟨Ua,þ⟩ (fun hc=>Gj Ga ø ø ø) ø (Do (BL (decide (i≤v))) [127,132] ø .optt ⟨Ua,Ua,þ⟩ (fun hc=>dF ø ø ø) ø (Dg (.opt (!(!o)) (BL ((decide (0 < (c:Int)))&&(decide (i≤v))))) (Gh [(121,BL (decide (0 < (c:Int)))),(133,_)] ø ø ø .scf ⟨.all id,.part,þ⟩ (fun hc=>Jf ø ø ø ø) ø) ø (Dq (BL ((!o)||((decide (0 < (c:Int)))&&(decide (i≤v))))) (aJ ø ø ø ø) ø (Dnil ?_))))))))))))
      refine g9 (JCc ø h (fun h hb=>?_) (fun h hb=>?_))
      ·
       refine Jr fun h3=>(JLm (BL false) ø (G7 (h3 (Gt (fin1 BL h)))))
      ·
       refine Gn (g8 (Jr fun h4=>(JLm (I64 0) ø (G7 (h4 (Gi ?_))))))
       obtain⟨h5,h⟩:=J2 h
       obtain⟨k8,h6,h7,c0,h⟩:=gT h
       refine H7 (fun j (a3:Unit)=>upto k8 h6 ((d:Int).toNat - j) j a3=some r) (fun j a3=>[(1,Ec s),(5,Ei d),(6,.dptr [I64 a.Bay,E1 a.Rows]),(7,Ei c),(8,Ei j)]) (fun j a3=>[]) (fun j=>(d:Int).toNat - j) 0 () h ⟨(.sm ø ø),þ,rfl⟩ ?_
       clear h
       intro j a3 b1 m2 k9
       refine Js fun h8=>Jr fun h9=>(JLm (Ei j) ø (JLm (Ei d) ø (JLh (BL (decide ((j:Int) < (d:Int)))) (Ht ø ø ø) ø (G7 (h9 (Gm ø (fun hb=>?_) (fun hb=>?_)))))))
       ·
        have b2:=eJ hb
        obtain⟨l6,i0,h⟩:=eH b1 b2
        replace h:=vM h7 h
        refine Gn (h8 (Js fun i1=>Gi (Js fun i2=>?_)))
        obtain⟨m3,m,i3,i4,h⟩:=Q8 h
        obtain⟨p,i5,h⟩:=Ge h
        obtain⟨b3,i6,h⟩:=Ge h
        refine JC_d0 J9 (by kernel_rfl) (Dq (.dptr ((H2.cs s).drop 1)) (Gb Qv ø ø ø) ø (Dq (E6 s.Covers) (Gj Y2 ø ø ø) ø (Dq (Ei j) (G3 ø ø) ø (Dq (.dptr [I64 m.Bay,E1 m.Rows]) (Gs (f:=Gz.av) (xs:=s.Covers) (y:=m) ø ø ø J6 i4 i3) ø (Dq (.dptr [I64 m.Bay,E1 m.Rows]) (Gb bN ø ø ø) ø (Dq (I64 m.Bay) (Gj Ga ø ø ø) ø (Dq (.dptr [I64 a.Bay,E1 a.Rows]) (Gb bN ø ø ø) ø (Dq (I64 a.Bay) (Gj Ga ø ø ø) ø (Dq (BL (decide (m.Bay=a.Bay))) (Rk ø ø ø) ø (Dq (BL (decide (m.Bay=a.Bay))) (G3 ø ø) ø (Do (.dptr ((H2.cs s).drop 1)) [] ø .sct þ (fun hc=>Gb Qv ø ø ø) ø (Do (E6 s.Covers) [151] ø .sct ⟨Ua,þ⟩ (fun hc=>Gj Y2 ø ø ø) ø (Do (Ei j) [] ø .sct þ (fun hc=>G3 ø ø) ø ?_)))))))))))))
        refine Do (.dptr [I64 p.Bay,E1 p.Rows]) [152,153] ø .sct ⟨Ua,Ua,þ⟩ (fun hc=>(match Qk (Gw hc i5) with | ⟨_,hm_,hy_⟩=>Gs (f:=Gz.av) (xs:=s.Covers) (y:=p) ø ø ø J6 hy_ hm_)) ø (Do (.dptr [E1 p.Rows]) [154] ø .sct ⟨Ua,þ⟩ (fun hc=>Gb Qj ø ø ø) ø (Do (E1 p.Rows) [155] ø .sct ⟨Ua,þ⟩ (fun hc=>Gj Hv ø ø ø) ø (Do (.dptr [E1 a.Rows]) [] ø .sct þ (fun hc=>Gb Qj ø ø ø) ø (Do (E1 a.Rows) [157] ø .sct ⟨Ua,þ⟩ (fun hc=>Gj Hv ø ø ø) ø (Do (Ei c) [] ø .sct þ (fun hc=>G3 ø ø) ø (Do (.dptr [I64 i]) [158,159] ø .sct ⟨Ua,Ua,þ⟩ (fun hc=>Gs (f:=I64) (xs:=a.Rows) (y:=i) ø ø ø Gr w ø) ø (Do (I64 i) [160] ø .sct ⟨Ua,þ⟩ (fun hc=>Gj Ga ø ø ø) ø (Do (BL b3) [156,161] ø .sct ⟨Ua,Ua,þ⟩ (fun hc=>Gq (args:=[E1 p.Rows,I64 i]) ø (oT p.Rows i b3 (Gw hc i6)) Ga2 ⟨ø,ø,ø,ø,þ⟩) ø (Dq (BL ((decide (m.Bay=a.Bay))&&b3)) (Jf ø ø ø ø) ø (Dnil ?_))))))))))
        refine i2 (JCc ø h (fun h hb=>?_) (fun h hb=>?_))
        ·
         refine Jr fun i7=>(JLm (BL false) ø (G7 (i7 (Gt (fin1 BL h)))))
        ·
         refine Gn (i1 (G2 (JLm (Ei j) ø (JLh (I64 ((j+1:Nat):Int)) (Hf (Hq b2 (cI h5)) ø ø ø) ø (JLm (I64 ((j+1:Nat):Int)) ø (G7 (k9 _ _ (j+1) () (app1 i0 h) (by omega) ⟨(.sm ø ø),þ,rfl⟩)))))))
       ·
        have h:=app1 c0 (eI b1 (Z2 hb))
        refine H5 (g7 (G2 (JLm (Ei c) ø (JLh (I64 ((c+1:Nat):Int)) (Hf (Hq b0 b9) ø ø ø) ø (JLm (I64 ((c+1:Nat):Int)) ø (G7 (k6 _ _ (c+1) () (app1 g6 h) (by omega) ⟨(.sm ø ø),þ,rfl⟩)))))))
     ·
      have h:=app1 b7 (J5 a9 (Hg hb))
      refine H5 (f5 (G2 (JLm (Ei d) ø (JLh (I64 ((d+1:Nat):Int)) (Hf (Hq a8 f2) ø ø ø) ø (JLm (I64 ((d+1:Nat):Int)) ø (G7 (k4 _ _ (d+1) () (app1 f4 h) (by omega) ⟨(.sm ø ø),þ,rfl⟩)))))))
   ·
    have h:=app1 b6 (J5 a7 (Hg hb))
    refine H5 (e5 (Jr fun i9=>(JLm (BL true) ø (G7 (i9 (Gt (fin1 BL h)))))))
end
end Go.Proofs.YthkihfoleenlmaaGreat
