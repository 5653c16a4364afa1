/-
 Models of functions of the program,and that they return what the models say.
-/
import Derived.Test.YteoeccjboahfgaaGreatXV
set_option maxRecDepth 100000
set_option linter.unusedVariables false
set_option linter.unusedSimpArgs false
namespace Go.Proofs.YteoeccjboahfgaaGreat
open Go.RowKit
noncomputable section

namespace XBF
open XAF
open XVF
theorem H59:G16 Tryz.prog 84=true:=by kernel_rfl
theorem Jd4:Ho Tryz.prog 109=true:=by kernel_rfl
theorem Had:Ho Tryz.prog 14=true:=by kernel_rfl
theorem Gd9:Ho Tryz.prog 15=true:=by kernel_rfl
theorem Q17:Ho Tryz.prog 16=true:=by kernel_rfl
theorem Q16:Ho Tryz.prog 17=true:=by kernel_rfl
theorem Q15:Ho Tryz.prog 18=true:=by kernel_rfl
theorem Hac:Ho Tryz.prog 19=true:=by kernel_rfl
theorem Q14:Ho Tryz.prog 20=true:=by kernel_rfl
theorem Q13:Ho Tryz.prog 21=true:=by kernel_rfl
theorem Q12:Ho Tryz.prog 22=true:=by kernel_rfl
theorem J6b:Ho Tryz.prog 23=true:=by kernel_rfl
theorem H36:Ho Tryz.prog 24=true:=by kernel_rfl
theorem H35:Ho Tryz.prog 25=true:=by kernel_rfl
theorem G68:Ho Tryz.prog 26=true:=by kernel_rfl
theorem tf_call_4:Ho Tryz.prog 4=true:=by kernel_rfl
theorem J66:Ho Tryz.prog 46=true:=by kernel_rfl
theorem Gd8:Ho Tryz.prog 47=true:=by kernel_rfl
theorem Q05:Ho Tryz.prog 48=true:=by kernel_rfl
theorem Q04:Ho Tryz.prog 49=true:=by kernel_rfl
theorem tf_call_5:Ho Tryz.prog 5=true:=by kernel_rfl
theorem Q03:Ho Tryz.prog 50=true:=by kernel_rfl
theorem J65:Ho Tryz.prog 51=true:=by kernel_rfl
theorem Q02:Ho Tryz.prog 52=true:=by kernel_rfl
theorem Q01:Ho Tryz.prog 53=true:=by kernel_rfl
theorem Q00:Ho Tryz.prog 54=true:=by kernel_rfl
theorem Jff:Ho Tryz.prog 55=true:=by kernel_rfl
theorem J64:Ho Tryz.prog 56=true:=by kernel_rfl
theorem tf_call_6:Ho Tryz.prog 6=true:=by kernel_rfl
theorem Jb9:Ho Tryz.prog 7=true:=by kernel_rfl
theorem J5f:Ho Tryz.prog 81=true:=by kernel_rfl
theorem Jed:Ho Tryz.prog 82=true:=by kernel_rfl
theorem Je3:Ym Tryz.prog 74 1 24=true:=by kernel_rfl
theorem J57:Ym Tryz.prog 82 1 24=true:=by kernel_rfl
theorem J56:Ym Tryz.prog 84 2 16=true:=by kernel_rfl
theorem Hf2:Tryz.prog.eqGuardType Tryz.prog.depth 84=false:=by kernel_rfl
theorem G95:H96 Tryz.prog 161 .u64=true:=by kernel_rfl
theorem H7d:G54 Tryz.prog 90 84 3=true:=by kernel_rfl
theorem Jbf:Rc Tryz.prog 74=true:=by kernel_rfl
theorem G23:Rc Tryz.prog 82=true:=by kernel_rfl
theorem J4f:R7 Tryz.prog 82 1=true:=by kernel_rfl
theorem Qj:sliceB Tryz.prog 48 82 1=true:=by kernel_rfl
theorem Gf7:sliceB Tryz.prog 76 74 1=true:=by kernel_rfl
theorem J4:sliceB Tryz.prog 82 84 2=true:=by kernel_rfl
theorem Jde:(Tryz.prog.info? 82).bind (fun i=>i.zero.map Value.cells)=some (List.toArray [.slice none 0 0]):=by kernel_rfl
theorem Jdd:(Tryz.prog.info? 86).bind (fun i=>i.zero.map Value.cells)=some (List.toArray [.int .i64 0,.int .i64 0,.int .i64 0,.int .i64 0]):=by kernel_rfl
theorem Jc8:R1 Tryz.prog 36 13=true:=by kernel_rfl
theorem Jc5:R1 Tryz.prog 74 1=true:=by kernel_rfl
theorem H55:R1 Tryz.prog 82 1=true:=by kernel_rfl
end XBF
open XAF
open XVF
open XBF

def Y5 (s:Hc) (boxes:List Gr):Option Bool:=
 bnd (Ya s) fun r3=>
 bnd (bif r3 then G45 boxes 20 else some default) fun r4=>
 some (r3&&r4)
theorem Gc1 (s:Hc) (boxes:List Gr) (r:Bool) (h:Y5 s boxes=some r):Pure Tryz.prog 14 [.agg (Hc.cs s),E2 boxes] (·=BL r):=by
 unfold Y5 at h
 refine H4 [.tmp 4] Tryz.func14 O O (G5 fun K1 hK1=>G3 (JLh (.ptr 1056 0) (Jw (u:=.agg (Hc.cs s)) (cs:=(Hc.cs s)) 1056 O O O O O) O (JLh (BL false) (Gb O O) O (G8 (hK1 _ _ ?_)))))
 refine Gq [(1,E2 boxes),(2,Ee s)] [] 1056 rfl rfl rfl G rfl (by exact⟨.conv (.same rfl),.ptr,G⟩) (G5 fun K2 hK2=>G3 (JLh (.agg (Hc.cs s)) (Gh J5 O O O) O ?_))
 obtain⟨r3,hr3,h⟩:=Gf h
 refine JLh (BL r3) (Gy (args:=[.agg (Hc.cs s)]) O (G84.down s r3 hr3) H34 ⟨O,O,G⟩) O (JLh (BL r3) (G6 O O) O (Gg (u:=E2 boxes) [] O O O .sct G (fun hc=>G6 O O) ?_))
 obtain⟨r4,hr4,h⟩:=Gf h
 refine Gg (u:=BL r4) [(8,E2 boxes)] O O O .sct ⟨.all id,G⟩ (fun hc=>Gy (args:=[E2 boxes,G1 20]) O (H70 boxes 20 r4 (H1 hc hr4)) J69 ⟨O,O,O,O,G⟩) ?_
 refine JLh (BL (r3&&r4)) (Qc O O O O) O (JLh (BL (r3&&r4)) (Gb O O) O (G8 (hK2 _ _ (Gx (⟨[BL (r3&&r4)],[],G,O,⟨⟨_,O,.conv (.same O)⟩,G⟩,O,congrArg (fun r:Bool=>(BL r:AV)) (Option.some.inj h)⟩)))))

def G3f (c:G2):Option Int:=
 Rn (2*c.Whole) fun v3=>
 Rn (v3+c.Half) fun v4=>
 some v4
theorem H26 (c:G2) (r:Int) (h:G3f c=some r):Pure Tryz.prog 46 [.agg (G2.cs c)] (·=G1 r):=by
 unfold G3f at h
 refine H4 [.tmp 2] Tryz.func46 O O (G5 fun K1 hK1=>G3 (JLh (.ptr 1133 0) (Jw (u:=.agg (G2.cs c)) (cs:=[G1 c.Ga.Load,G1 c.Ga.Discharge,G1 c.Whole,G1 c.Half]) 1133 O O O O O) O (JLh (G1 0) (Gb O O) O (G8 (hK1 _ _ (Gq [(1,Eg c)] [] 1133 rfl rfl rfl G rfl (by exact⟨.ptr,G⟩) (G5 fun K2 hK2=>G3 (JLh (.dptr [G1 c.Whole,G1 c.Half]) (Gd Zf O O O) O (JLh (G1 c.Whole) (Gk Gc O O O) O ?_)))))))))
 obtain⟨v3,hv3,h⟩:=Hb h
 refine JLh (G1 v3) (G31 hv3 O O O) O (JLh (.dptr [G1 c.Half]) (Gd Ze O O O) O (JLh (G1 c.Half) (Gk Gc O O O) O ?_))
 obtain⟨v4,hv4,h⟩:=Hb h
 refine JLh (G1 v4) (Ht hv4 O O O) O (JLh (G1 v4) (Gb O O) O (G8 (hK2 _ _ (Gx (⟨[G1 v4],[],G,O,⟨⟨_,O,.conv (.same O)⟩,G⟩,O,congrArg (fun r:Int=>(G1 r:AV)) (Option.some.inj h)⟩)))))

def G14 (F:Nat) (counts:List G2) (call:Int):Option (List G2):=
 each (fun y19 i19 (s19:(List G2)) nx19=>
  jp (fun kj22=>
   bif ((decide (y19.Ga.Load≤call))&&(decide (call < y19.Ga.Discharge))) then
   (need (decide ((s19.length+[y19].length)*32≤140737488355328∧s19.length+[y19].length≤maxLen)) <|
    kj22 (s19++[y19]))
   else
   (kj22 s19)) fun(j22:(List G2))=>
  nx19 j22)
 (fun(s19:(List G2))=>
  bnd (H4f (s19.length:Int)) fun m27=>
  need (decide (8*m27≤281474976710656∧m27≤maxLen∧m27*1≤16777216)) <|
  bnd (H4f (s19.length:Int)) fun m29=>
  need (decide (8*m29≤281474976710656∧m29≤maxLen∧m29*1≤16777216)) <|
  Rn ((s19.length:Int) - 1) fun v34=>
  loop (fun nx35 (s35:Int×Int×(List Int)×(List Int))=>
   bif decide (0≤s35.2.1) then
   (jp (fun kj38=>
     Rm s35.2.2.2 s35.2.1 fun y40=>
     Rn ((s19.length:Int) - 1) fun v43=>
     loop (fun nx102 (s102:Int×(List Int)×(List Int))=>
      bif decide (s35.2.1 < s102.1) then
      (jp (fun kj105=>
        Rm s19 s102.1 fun y107=>
        Rm s19 s35.2.1 fun y109=>
        bnd (bif decide (y109.Ga.Load < y107.Ga.Load) then Rm s19 s102.1 some else some default) fun y111=>
        bnd (bif decide (y109.Ga.Load < y107.Ga.Load) then Rm s19 s35.2.1 some else some default) fun y112=>
        bnd (bif ((decide (y109.Ga.Load < y107.Ga.Load))&&(decide (y112.Ga.Discharge < y111.Ga.Discharge))) then Rm s102.2.1 s102.1 some else some default) fun y113=>
        bnd (bif ((decide (y109.Ga.Load < y107.Ga.Load))&&(decide (y112.Ga.Discharge < y111.Ga.Discharge))) then Rm s102.2.1 s35.2.1 some else some default) fun y114=>
        bif (((decide (y109.Ga.Load < y107.Ga.Load))&&(decide (y112.Ga.Discharge < y111.Ga.Discharge)))&&(decide (y114≤y113))) then
        (Rm s102.2.1 s102.1 fun y115=>
         Rm s102.2.1 s35.2.1 fun y116=>
         Rm s102.2.2 s35.2.1 fun y117=>
         kj105 ((s102.2.1.set s35.2.1.toNat y115),(s102.2.2.set s35.2.1.toNat s102.1)))
        else
        (kj105 (s102.2.1,s102.2.2))) fun(j105:(List Int)×(List Int))=>
       Rn (s102.1 - 1) fun v118=>
       nx102 (v118,j105.1,j105.2))
      else
      (Rm s102.2.1 s35.2.1 fun y120=>
       Rm s19 s35.2.1 fun y121=>
       bnd (G3f y121) fun r123=>
       Rn (y120+r123) fun v124=>
       Rm s102.2.1 s35.2.1 fun y125=>
       bnd (bif (!(decide (s35.1 < 0))) then Rm (s102.2.1.set s35.2.1.toNat v124) s35.2.1 some else some default) fun y127=>
       bnd (bif (!(decide (s35.1 < 0))) then Rm (s102.2.1.set s35.2.1.toNat v124) s35.1 some else some default) fun y128=>
       bif ((decide (s35.1 < 0))||(decide (y128≤y127))) then
       (kj38 (s35.2.1,(s102.2.1.set s35.2.1.toNat v124),s102.2.2))
       else
       (kj38 (s35.1,(s102.2.1.set s35.2.1.toNat v124),s102.2.2)))) F (v43,s35.2.2.1,(s35.2.2.2.set s35.2.1.toNat (-1)))) fun(j38:Int×(List Int)×(List Int))=>
    Rn (s35.2.1 - 1) fun v129=>
    nx35 (j38.1,v129,j38.2.1,j38.2.2))
   else
   (loop (fun nx144 (s144:(List G2)×Int)=>
     bif decide (0≤s144.2) then
     (Rm s19 s144.2 fun y148=>
      need (decide ((s144.1.length+[y148].length)*32≤140737488355328∧s144.1.length+[y148].length≤maxLen)) <|
      Rm s35.2.2.2 s144.2 fun y151=>
      nx144 ((s144.1++[y148]),y151))
     else
     (some s144.1)) F ([],s35.1))) F ((-1),v34,(List.replicate m27 (0:Int)),(List.replicate m29 (0:Int)))) counts 0 []
def Zo (s:Hc):Option Int:=
 each (fun y17 i17 (s17:Int) nx17=>
  jp (fun kj20=>
   bif ((decide ((i17:Int)=0))||(decide (s17 < y17.Tiers))) then
   (kj20 y17.Tiers)
   else
   (kj20 s17)) fun(j20:Int)=>
  nx17 j20)
 (fun(s17:Int)=>
  some s17) s.Columns 0 0
theorem G1b (s:Hc) (r:Int) (h:Zo s=some r):Pure Tryz.prog 47 [.agg (Hc.cs s)] (·=G1 r):=by
 unfold Zo at h
 refine H4 [.tmp 2] Tryz.func47 O O (G5 fun K1 hK1=>G3 (JLh (.ptr 1134 0) (Jw (u:=.agg (Hc.cs s)) (cs:=(Hc.cs s)) 1134 O O O O O) O (JLh (G1 0) (Gb O O) O (G8 (hK1 _ _ ?_)))))
 refine Gq [(1,Ee s)] [] 1134 rfl rfl rfl G rfl (by exact⟨.ptr,G⟩) (G5 fun K2 hK2=>G3 (JLh (G1 0) (Gb O O) O (G8 (hK2 _ _ (G5 (fun K3 hK3=>G5 fun K4 hK4=>G3 (JLh (Ee s) (Gd J0 O O O) O (JLh (E5 s.Columns) (Gk J8 O O O) O ?_))))))))
 refine Hp (f:=G9.av) (xs:=s.Columns) J3 O O (fun hm8=>?_) O O O
 refine JLh (G1 0) (G6 O O) O (G8 (hK4 _ _ (Gi ?_)))
 obtain⟨b17,kx17,hb17,hkx17,h⟩:=Hy h
 refine Ha (fun i17 (s17:Int)=>each b17 kx17 (List.drop i17 s.Columns) i17 s17=some r) (fun i17 s17=>[(3,G1 s17),(7,E5 s.Columns),(8,Ek s.Columns.length),(9,Ek i17)]) (fun i17 s17=>[]) (fun i17=>s.Columns.length - i17) 0 0 h ⟨(by repeat' constructor),G,rfl⟩ ?_
 clear h
 intro i17 s17 hi17 K17 e17
 refine G5 fun K18 hK18=>G3 (JLh (BL (decide ((i17:Int) < (s.Columns.length:Int)))) (J2 O O O) O (G8 (hK18 _ _ (G5 (fun K19 hK19=>Gn O (fun hb=>?_) (fun hb=>?_))))))
 ·
  have hk17:=Jd hb
  obtain⟨y17,nx17,hy17,hn17,h⟩:=Hr hi17 hk17
  replace h:=Rq hb17 h
  refine Gp (hK19 _ _ ?_)
  obtain⟨kj20,hkj20,h⟩:=Q7 h
  refine Jm (fun j20:Int=>kj20 j20=some r) (fun j20=>[(3,G1 j20),(7,E5 s.Columns),(8,Ek s.Columns.length),(9,Ek i17)]) (fun j20=>[]) (fun Kj20 ej20=>?_) ?_
  ·
   refine Gi (G5 fun K21 hK21=>G3 (JLh (Ek i17) (G6 O O) O (JLh (Ej y17) (Gz (f:=G9.av) (xs:=s.Columns) (y:=y17) O O O J3 hy17 O) O (JLh (.agg (G9.cs y17)) (Gh G6f O O O) O (JLh (.ptr 1135 0) (Hh 1135 12 G21 O O) O (JLh (Ek i17) (Gb O O) O (Hg (u:=.junk) (H5 (u:=.agg (G9.cs y17)) (ds:=(G9.cs y17)) Gd6 O O O O O O O O) (G8 (hK21 _ _ ?_)))))))))
   refine Gq [(3,G1 s17),(4,Ek i17),(5,Ej y17),(7,E5 s.Columns),(8,Ek s.Columns.length),(9,Ek i17)] [] 1135 rfl rfl rfl G rfl (by repeat' (first | exact .ptr | constructor)) (G5 fun K22 hK22=>G3 (JLh (Ek i17) (G6 O O) O (JLh (BL (decide ((i17:Int)=0))) (Qh O O O) O (JLh (BL (decide ((i17:Int)=0))) (G6 O O) O (Gg (u:=.dptr ((G9.cs y17).drop 3)) [] O O O .scf G (fun hc=>Gd G32 O O O) ?_)))))
   refine Gg (u:=G1 y17.Tiers) [(17,.dptr ((G9.cs y17).drop 3))] O O O .scf ⟨.all id,G⟩ (fun hc=>Gk Gc O O O) ?_
   refine Gg (u:=G1 s17) [] O O O .scf G (fun hc=>G6 O O) ?_
   refine Gg (u:=BL (decide (s17 < y17.Tiers))) [(18,G1 y17.Tiers),(19,G1 s17)] O O O .scf ⟨.all id,.all id,G⟩ (fun hc=>Zj O O O) ?_
   refine JLh (BL ((decide ((i17:Int)=0))||(decide (s17 < y17.Tiers)))) (G2a O O O O) O (G8 (hK22 _ _ (Gn O (fun hb=>?_) (fun hb=>?_))))
   ·
    replace h:=H1 hb h
    refine G3 (JLh (.dptr ((G9.cs y17).drop 3)) (Gd G32 O O O) O (JLh (G1 y17.Tiers) (Gk Gc O O O) O (JLh (G1 y17.Tiers) (Gb O O) O (G8 (ej20 _ _ y17.Tiers h ⟨(by repeat' constructor),G,rfl⟩)))))
   ·
    replace h:=Hv hb h
    refine Gp (ej20 _ _ s17 h ⟨(by repeat' constructor),G,rfl⟩)
  ·intro j20 h
   replace h:=app1 hkj20 h
   refine G3 (JLh (G1 ((i17+1:Nat):Int)) (Ht (Hn hk17 hm8) O O O) O (JLh (G1 ((i17+1:Nat):Int)) (G6 O O) O (G8 (e17 _ _ (i17+1) j20 (app1 hn17 h) (by omega) ⟨(by repeat' constructor),G,rfl⟩))))
 ·
  have h:=app1 hkx17 (Hs hi17 (H9 hb))
  refine Hi (hK3 _ _ (G5 fun K23 hK23=>G3 (JLh (G1 s17) (G6 O O) O (JLh (G1 s17) (Gb O O) O (G8 (hK23 _ _ (Gx (⟨[G1 s17],[],G,O,⟨⟨_,O,.conv (.same O)⟩,G⟩,O,congrArg (fun r:Int=>(G1 r:AV)) (Option.some.inj h)⟩))))))))

def G8d (x:Int) (y:Int):Option (Int×Int):=
 some (IntKind.u64.wrap ((IntKind.u64.wrap ((IntKind.u64.wrap ((Js .u64 x 32)*(Js .u64 y 32)))+(Js .u64 (IntKind.u64.wrap ((IntKind.u64.wrap ((Js .u64 x 32)*(Jh .u64 y 4294967295)))+(Js .u64 (IntKind.u64.wrap ((Jh .u64 x 4294967295)*(Jh .u64 y 4294967295))) 32))) 32)))+(Js .u64 (IntKind.u64.wrap ((Jh .u64 (IntKind.u64.wrap ((IntKind.u64.wrap ((Js .u64 x 32)*(Jh .u64 y 4294967295)))+(Js .u64 (IntKind.u64.wrap ((Jh .u64 x 4294967295)*(Jh .u64 y 4294967295))) 32))) 4294967295)+(IntKind.u64.wrap ((Jh .u64 x 4294967295)*(Js .u64 y 32))))) 32)),IntKind.u64.wrap (x*y))
theorem H98 (x:Int) (y:Int) (r:Int×Int) (h:G8d x y=some r):Pure Tryz.prog 109 [.sc (.int .u64 x),.sc (.int .u64 y)] (·=.tup [.sc (.int .u64 r.1),.sc (.int .u64 r.2)]):=by
 unfold G8d at h
 refine H4 [.tmp 4,.tmp 5] Tryz.func109 O O (G5 fun K1 hK1=>G3 (JLh (.sc (.int .u64 0)) (Gb O O) O (JLh (.sc (.int .u64 0)) (Gb O O) O (G8 (hK1 _ _ (G5 fun K2 hK2=>G3 (JLh (.sc (.int .u64 x)) (G6 O O) O (JLh (.sc (.int .u64 (Jh .u64 x 4294967295))) (Jab O O O) O (JLh (.sc (.int .u64 (Jh .u64 x 4294967295))) (Gb O O) O (G8 (hK2 _ _ (G5 fun K3 hK3=>G3 (JLh (.sc (.int .u64 x)) (G6 O O) O (JLh (.sc (.int .u64 (Js .u64 x 32))) (H76 (s:=32) O O O O) O (JLh (.sc (.int .u64 (Js .u64 x 32))) (Gb O O) O (G8 (hK3 _ _ (G5 fun K4 hK4=>G3 (JLh (.sc (.int .u64 y)) (G6 O O) O (JLh (.sc (.int .u64 (Jh .u64 y 4294967295))) (Jab O O O) O (JLh (.sc (.int .u64 (Jh .u64 y 4294967295))) (Gb O O) O (G8 (hK4 _ _ ?_)))))))))))))))))))))))
 refine G5 fun K5 hK5=>G3 (JLh (.sc (.int .u64 y)) (G6 O O) O (JLh (.sc (.int .u64 (Js .u64 y 32))) (H76 (s:=32) O O O O) O (JLh (.sc (.int .u64 (Js .u64 y 32))) (Gb O O) O (G8 (hK5 _ _ (G5 fun K6 hK6=>G3 (JLh (.sc (.int .u64 (Jh .u64 x 4294967295))) (G6 O O) O (JLh (.sc (.int .u64 (Jh .u64 y 4294967295))) (G6 O O) O (JLh (.sc (.int .u64 (IntKind.u64.wrap ((Jh .u64 x 4294967295)*(Jh .u64 y 4294967295))))) (G31 O O O O) O (JLh (.sc (.int .u64 (IntKind.u64.wrap ((Jh .u64 x 4294967295)*(Jh .u64 y 4294967295))))) (Gb O O) O (G8 (hK6 _ _ ?_))))))))))))
 refine G5 fun K7 hK7=>G3 (JLh (.sc (.int .u64 (Js .u64 x 32))) (G6 O O) O (JLh (.sc (.int .u64 (Jh .u64 y 4294967295))) (G6 O O) O (JLh (.sc (.int .u64 (IntKind.u64.wrap ((Js .u64 x 32)*(Jh .u64 y 4294967295))))) (G31 O O O O) O (JLh (.sc (.int .u64 (IntKind.u64.wrap ((Jh .u64 x 4294967295)*(Jh .u64 y 4294967295))))) (G6 O O) O (JLh (.sc (.int .u64 (Js .u64 (IntKind.u64.wrap ((Jh .u64 x 4294967295)*(Jh .u64 y 4294967295))) 32))) (H76 (s:=32) O O O O) O (JLh (.sc (.int .u64 (IntKind.u64.wrap ((IntKind.u64.wrap ((Js .u64 x 32)*(Jh .u64 y 4294967295)))+(Js .u64 (IntKind.u64.wrap ((Jh .u64 x 4294967295)*(Jh .u64 y 4294967295))) 32))))) (Ht O O O O) O (JLh (.sc (.int .u64 (IntKind.u64.wrap ((IntKind.u64.wrap ((Js .u64 x 32)*(Jh .u64 y 4294967295)))+(Js .u64 (IntKind.u64.wrap ((Jh .u64 x 4294967295)*(Jh .u64 y 4294967295))) 32))))) (Gb O O) O (G8 (hK7 _ _ ?_)))))))))
 refine G5 fun K8 hK8=>G3 (JLh (.sc (.int .u64 (IntKind.u64.wrap ((IntKind.u64.wrap ((Js .u64 x 32)*(Jh .u64 y 4294967295)))+(Js .u64 (IntKind.u64.wrap ((Jh .u64 x 4294967295)*(Jh .u64 y 4294967295))) 32))))) (G6 O O) O (JLh (.sc (.int .u64 (Jh .u64 (IntKind.u64.wrap ((IntKind.u64.wrap ((Js .u64 x 32)*(Jh .u64 y 4294967295)))+(Js .u64 (IntKind.u64.wrap ((Jh .u64 x 4294967295)*(Jh .u64 y 4294967295))) 32))) 4294967295))) (Jab O O O) O (JLh (.sc (.int .u64 (Jh .u64 (IntKind.u64.wrap ((IntKind.u64.wrap ((Js .u64 x 32)*(Jh .u64 y 4294967295)))+(Js .u64 (IntKind.u64.wrap ((Jh .u64 x 4294967295)*(Jh .u64 y 4294967295))) 32))) 4294967295))) (Gb O O) O (G8 (hK8 _ _ ?_)))))
 refine G5 fun K9 hK9=>G3 (JLh (.sc (.int .u64 (IntKind.u64.wrap ((IntKind.u64.wrap ((Js .u64 x 32)*(Jh .u64 y 4294967295)))+(Js .u64 (IntKind.u64.wrap ((Jh .u64 x 4294967295)*(Jh .u64 y 4294967295))) 32))))) (G6 O O) O (JLh (.sc (.int .u64 (Js .u64 (IntKind.u64.wrap ((IntKind.u64.wrap ((Js .u64 x 32)*(Jh .u64 y 4294967295)))+(Js .u64 (IntKind.u64.wrap ((Jh .u64 x 4294967295)*(Jh .u64 y 4294967295))) 32))) 32))) (H76 (s:=32) O O O O) O (JLh (.sc (.int .u64 (Js .u64 (IntKind.u64.wrap ((IntKind.u64.wrap ((Js .u64 x 32)*(Jh .u64 y 4294967295)))+(Js .u64 (IntKind.u64.wrap ((Jh .u64 x 4294967295)*(Jh .u64 y 4294967295))) 32))) 32))) (Gb O O) O (G8 (hK9 _ _ ?_)))))
 refine G5 fun K10 hK10=>G3 (JLh (.sc (.int .u64 (Jh .u64 (IntKind.u64.wrap ((IntKind.u64.wrap ((Js .u64 x 32)*(Jh .u64 y 4294967295)))+(Js .u64 (IntKind.u64.wrap ((Jh .u64 x 4294967295)*(Jh .u64 y 4294967295))) 32))) 4294967295))) (G6 O O) O (JLh (.sc (.int .u64 (Jh .u64 x 4294967295))) (G6 O O) O (JLh (.sc (.int .u64 (Js .u64 y 32))) (G6 O O) O (JLh (.sc (.int .u64 (IntKind.u64.wrap ((Jh .u64 x 4294967295)*(Js .u64 y 32))))) (G31 O O O O) O (JLh (.sc (.int .u64 (IntKind.u64.wrap ((Jh .u64 (IntKind.u64.wrap ((IntKind.u64.wrap ((Js .u64 x 32)*(Jh .u64 y 4294967295)))+(Js .u64 (IntKind.u64.wrap ((Jh .u64 x 4294967295)*(Jh .u64 y 4294967295))) 32))) 4294967295)+(IntKind.u64.wrap ((Jh .u64 x 4294967295)*(Js .u64 y 32))))))) (Ht O O O O) O (JLh (.sc (.int .u64 (IntKind.u64.wrap ((Jh .u64 (IntKind.u64.wrap ((IntKind.u64.wrap ((Js .u64 x 32)*(Jh .u64 y 4294967295)))+(Js .u64 (IntKind.u64.wrap ((Jh .u64 x 4294967295)*(Jh .u64 y 4294967295))) 32))) 4294967295)+(IntKind.u64.wrap ((Jh .u64 x 4294967295)*(Js .u64 y 32))))))) (Gb O O) O (G8 (hK10 _ _ ?_))))))))
 refine G5 fun K11 hK11=>G3 (JLh (.sc (.int .u64 (Js .u64 x 32))) (G6 O O) O (JLh (.sc (.int .u64 (Js .u64 y 32))) (G6 O O) O (JLh (.sc (.int .u64 (IntKind.u64.wrap ((Js .u64 x 32)*(Js .u64 y 32))))) (G31 O O O O) O (JLh (.sc (.int .u64 (Js .u64 (IntKind.u64.wrap ((IntKind.u64.wrap ((Js .u64 x 32)*(Jh .u64 y 4294967295)))+(Js .u64 (IntKind.u64.wrap ((Jh .u64 x 4294967295)*(Jh .u64 y 4294967295))) 32))) 32))) (G6 O O) O (JLh (.sc (.int .u64 (IntKind.u64.wrap ((IntKind.u64.wrap ((Js .u64 x 32)*(Js .u64 y 32)))+(Js .u64 (IntKind.u64.wrap ((IntKind.u64.wrap ((Js .u64 x 32)*(Jh .u64 y 4294967295)))+(Js .u64 (IntKind.u64.wrap ((Jh .u64 x 4294967295)*(Jh .u64 y 4294967295))) 32))) 32))))) (Ht O O O O) O (JLh (.sc (.int .u64 (IntKind.u64.wrap ((Jh .u64 (IntKind.u64.wrap ((IntKind.u64.wrap ((Js .u64 x 32)*(Jh .u64 y 4294967295)))+(Js .u64 (IntKind.u64.wrap ((Jh .u64 x 4294967295)*(Jh .u64 y 4294967295))) 32))) 4294967295)+(IntKind.u64.wrap ((Jh .u64 x 4294967295)*(Js .u64 y 32))))))) (G6 O O) O (JLh (.sc (.int .u64 (Js .u64 (IntKind.u64.wrap ((Jh .u64 (IntKind.u64.wrap ((IntKind.u64.wrap ((Js .u64 x 32)*(Jh .u64 y 4294967295)))+(Js .u64 (IntKind.u64.wrap ((Jh .u64 x 4294967295)*(Jh .u64 y 4294967295))) 32))) 4294967295)+(IntKind.u64.wrap ((Jh .u64 x 4294967295)*(Js .u64 y 32))))) 32))) (H76 (s:=32) O O O O) O (JLh (.sc (.int .u64 (IntKind.u64.wrap ((IntKind.u64.wrap ((IntKind.u64.wrap ((Js .u64 x 32)*(Js .u64 y 32)))+(Js .u64 (IntKind.u64.wrap ((IntKind.u64.wrap ((Js .u64 x 32)*(Jh .u64 y 4294967295)))+(Js .u64 (IntKind.u64.wrap ((Jh .u64 x 4294967295)*(Jh .u64 y 4294967295))) 32))) 32)))+(Js .u64 (IntKind.u64.wrap ((Jh .u64 (IntKind.u64.wrap ((IntKind.u64.wrap ((Js .u64 x 32)*(Jh .u64 y 4294967295)))+(Js .u64 (IntKind.u64.wrap ((Jh .u64 x 4294967295)*(Jh .u64 y 4294967295))) 32))) 4294967295)+(IntKind.u64.wrap ((Jh .u64 x 4294967295)*(Js .u64 y 32))))) 32))))) (Ht O O O O) O (JLh (.sc (.int .u64 (IntKind.u64.wrap ((IntKind.u64.wrap ((IntKind.u64.wrap ((Js .u64 x 32)*(Js .u64 y 32)))+(Js .u64 (IntKind.u64.wrap ((IntKind.u64.wrap ((Js .u64 x 32)*(Jh .u64 y 4294967295)))+(Js .u64 (IntKind.u64.wrap ((Jh .u64 x 4294967295)*(Jh .u64 y 4294967295))) 32))) 32)))+(Js .u64 (IntKind.u64.wrap ((Jh .u64 (IntKind.u64.wrap ((IntKind.u64.wrap ((Js .u64 x 32)*(Jh .u64 y 4294967295)))+(Js .u64 (IntKind.u64.wrap ((Jh .u64 x 4294967295)*(Jh .u64 y 4294967295))) 32))) 4294967295)+(IntKind.u64.wrap ((Jh .u64 x 4294967295)*(Js .u64 y 32))))) 32))))) (Gb O O) O (G8 (hK11 _ _ ?_)))))))))))
 refine G5 fun K12 hK12=>G3 (JLh (.sc (.int .u64 x)) (G6 O O) O (JLh (.sc (.int .u64 y)) (G6 O O) O (JLh (.sc (.int .u64 (IntKind.u64.wrap (x*y)))) (G31 O O O O) O (JLh (.sc (.int .u64 (IntKind.u64.wrap (x*y)))) (Gb O O) O (G8 (hK12 _ _ (Gx ?_)))))))
 exact⟨[.sc (.int .u64 (IntKind.u64.wrap ((IntKind.u64.wrap ((IntKind.u64.wrap ((Js .u64 x 32)*(Js .u64 y 32)))+(Js .u64 (IntKind.u64.wrap ((IntKind.u64.wrap ((Js .u64 x 32)*(Jh .u64 y 4294967295)))+(Js .u64 (IntKind.u64.wrap ((Jh .u64 x 4294967295)*(Jh .u64 y 4294967295))) 32))) 32)))+(Js .u64 (IntKind.u64.wrap ((Jh .u64 (IntKind.u64.wrap ((IntKind.u64.wrap ((Js .u64 x 32)*(Jh .u64 y 4294967295)))+(Js .u64 (IntKind.u64.wrap ((Jh .u64 x 4294967295)*(Jh .u64 y 4294967295))) 32))) 4294967295)+(IntKind.u64.wrap ((Jh .u64 x 4294967295)*(Js .u64 y 32))))) 32)))),.sc (.int .u64 (IntKind.u64.wrap (x*y)))],[],G,O,⟨⟨_,O,.conv (.same O)⟩,⟨_,O,.conv (.same O)⟩,G⟩,O,congrArg (fun r:Int×Int=>(.tup [.sc (.int .u64 r.1),.sc (.int .u64 r.2)]:AV)) (Option.some.inj h)⟩

def Gc0 (x:Int) (y:Int):Option (Int×Int):=
 bnd (G8d x y) fun r4=>
 some (r4.1,r4.2)
theorem H09 (x:Int) (y:Int) (r:Int×Int) (h:Gc0 x y=some r):Pure Tryz.prog 81 [.sc (.int .u64 x),.sc (.int .u64 y)] (·=.tup [.sc (.int .u64 r.1),.sc (.int .u64 r.2)]):=by
 unfold Gc0 at h
 refine H4 [.tmp 4,.tmp 5] Tryz.func81 O O (G5 fun K1 hK1=>G3 (JLh (.sc (.int .u64 0)) (Gb O O) O (JLh (.sc (.int .u64 0)) (Gb O O) O (G8 (hK1 _ _ (G5 (fun K2 hK2=>H74 O (Gp (hK2 _ _ (G5 fun K3 hK3=>G3 (JLh (.sc (.int .u64 x)) (G6 O O) O (JLh (.sc (.int .u64 y)) (G6 O O) O ?_))))))))))))
 obtain⟨r4,hr4,h⟩:=Gf h
 refine JLh (.tup [.sc (.int .u64 r4.1),.sc (.int .u64 r4.2)]) (Gy (args:=[.sc (.int .u64 x),.sc (.int .u64 y)]) O (H98 x y r4 hr4) Jd4 ⟨O,O,O,O,G⟩) O (JLh (.tup [.sc (.int .u64 r4.1),.sc (.int .u64 r4.2)]) (G6 O O) O (JLh (.sc (.int .u64 r4.1)) (H0 O O O) O (JLh (.sc (.int .u64 r4.2)) (H0 O O O) O (JLh (.sc (.int .u64 r4.1)) (Gb O O) O (JLh (.sc (.int .u64 r4.2)) (Gb O O) O (G8 (hK3 _ _ (G5 fun K5 hK5=>G3 (JLh (.sc (.int .u64 r4.1)) (G6 O O) O (JLh (.sc (.int .u64 r4.2)) (G6 O O) O (JLh (.sc (.int .u64 r4.1)) (Gb O O) O (JLh (.sc (.int .u64 r4.2)) (Gb O O) O (G8 (hK5 _ _ (Gx ?_)))))))))))))))
 exact⟨[.sc (.int .u64 r4.1),.sc (.int .u64 r4.2)],[],G,O,⟨⟨_,O,.conv (.same O)⟩,⟨_,O,.conv (.same O)⟩,G⟩,O,congrArg (fun r:Int×Int=>(.tup [.sc (.int .u64 r.1),.sc (.int .u64 r.2)]:AV)) (Option.some.inj h)⟩

def Qe (F:Nat) (x:List Int) (count:Int):Option (List Int):=
 bif decide (count < 0) then
 (none)
 else
 (bnd (Gc0 (IntKind.u64.wrap (x.length:Int)) (IntKind.u64.wrap count)) fun r5=>
  bif ((decide (0 < r5.1))||(decide (9223372036854775807 < r5.2))) then
  (none)
  else
  (Rn (r5.2) fun v9=>
   bnd (H4f v9) fun m10=>
   need (decide (8*m10≤281474976710656∧m10≤maxLen∧m10*1≤16777216)) <|
   loop (fun nx26 (s26:Int×(List Int))=>
    bif decide (s26.1 < (s26.2.length:Int)) then
    (bnd (Ga8 s26.1 s26.2.length) fun m29=>
     bnd (Ga8 s26.1 s26.2.length) fun m30=>
     Rn (s26.1+((min ((s26.2.drop 0).take m30).length (s26.2.length - m29):Nat):Int)) fun v31=>
     nx26 (v31,(overlay s26.2 m29 ((s26.2.drop 0).take m30) (s26.2.length - m29))))
    else
    (some s26.2)) F (((min x.length ((List.replicate m10 (0:Int)).length):Nat):Int),(overlay (List.replicate m10 (0:Int)) 0 x ((List.replicate m10 (0:Int)).length)))))
def G40 (F:Nat) (c:G2) (tiers:Int) (halves:Int):Option Int:=
 Rn (c.Whole+c.Half) fun v3=>
 loop (fun nx29 (s29:Int×Int)=>
  bnd (quo64 halves 2) fun v32=>
  Rn (tiers*v32) fun v33=>
  bif decide (s29.2≤(min c.Whole v33)) then
  (Rn (tiers*halves) fun v36=>
   Rn (2*s29.2) fun v37=>
   Rn (v36 - v37) fun v38=>
   Rn (c.Whole - s29.2) fun v39=>
   Rn (v39+c.Half) fun v40=>
   Rn (v40 - (min c.Half v38)) fun v41=>
   Rn (s29.2+1) fun v42=>
   nx29 ((min s29.1 v41),v42))
  else
  (some s29.1)) F (v3,0)
theorem M_bound_out_w (F:Nat) (c:G2) (tiers:Int) (halves:Int) (r:Int) (h:G40 F c tiers halves=some r):Pure Tryz.prog 50 [.agg (G2.cs c),G1 tiers,G1 halves] (·=G1 r):=by
 unfold G40 at h
 refine H4 [.tmp 6] Tryz.func50 O O (G5 fun K1 hK1=>G3 (JLh (.ptr 1139 0) (Jw (u:=.agg (G2.cs c)) (cs:=[G1 c.Ga.Load,G1 c.Ga.Discharge,G1 c.Whole,G1 c.Half]) 1139 O O O O O) O (JLh (G1 0) (Gb O O) O (G8 (hK1 _ _ (Gq [(1,G1 tiers),(2,G1 halves),(3,Eg c)] [] 1139 rfl rfl rfl G rfl (by exact⟨.conv (.same rfl),.conv (.same rfl),.ptr,G⟩) (G5 fun K2 hK2=>G3 (JLh (.dptr [G1 c.Whole,G1 c.Half]) (Gd Zf O O O) O (JLh (G1 c.Whole) (Gk Gc O O O) O (JLh (.dptr [G1 c.Half]) (Gd Ze O O O) O (JLh (G1 c.Half) (Gk Gc O O O) O ?_)))))))))))
 obtain⟨v3,hv3,h⟩:=Hb h
 refine JLh (G1 v3) (Ht hv3 O O O) O (JLh (G1 v3) (Gb O O) O (G8 (hK2 _ _ (G5 (fun K4 hK4=>G5 fun K5 hK5=>G3 (JLh (G1 0) (Gb O O) O (G8 (hK5 _ _ (Gi ?_)))))))))
 obtain⟨b29,hb29,h⟩:=G26 h
 refine Ha (fun i29 (s29:Int×Int)=>loop b29 i29 s29=some r) (fun i29 s29=>[(1,G1 tiers),(2,G1 halves),(3,Eg c),(7,G1 s29.1),(8,G1 s29.2)]) (fun i29 s29=>[]) (fun i29=>i29) F (v3,0) h ⟨(by repeat' constructor),G,rfl⟩ ?_
 clear h
 intro i29 s29 hi29 K29 e29
 obtain⟨m29,nx29,hm_29,hn29,h⟩:=Zn hi29
 replace h:=Hbc hb29 h
 refine G5 (fun K30 hK30=>G5 fun K31 hK31=>G3 (JLh (G1 s29.2) (G6 O O) O (JLh (.dptr [G1 c.Whole,G1 c.Half]) (Gd Zf O O O) O (JLh (G1 c.Whole) (Gk Gc O O O) O (JLh (G1 tiers) (G6 O O) O (JLh (G1 halves) (G6 O O) O ?_))))))
 obtain⟨v32,hv32,h⟩:=Gf h
 refine JLh (G1 v32) (A_quo (H83 hv32).1 (H83 hv32).2 O O O) O ?_
 obtain⟨v33,hv33,h⟩:=Hb h
 refine JLh (G1 v33) (G31 hv33 O O O) O (JLh (G1 (min c.Whole v33)) (Ja5 O O O) O (JLh (BL (decide (s29.2≤(min c.Whole v33)))) (Gc4 O O O) O (G8 (hK31 _ _ (Gn O (fun hb=>?_) (fun hb=>?_))))))
 ·
  replace h:=H1 hb h
  refine Gp (hK30 _ _ (G5 (fun K34 hK34=>Gi (G5 fun K35 hK35=>G3 (JLh (.dptr [G1 c.Half]) (Gd Ze O O O) O (JLh (G1 c.Half) (Gk Gc O O O) O (JLh (G1 tiers) (G6 O O) O (JLh (G1 halves) (G6 O O) O ?_))))))))
  obtain⟨v36,hv36,h⟩:=Hb h
  refine JLh (G1 v36) (G31 hv36 O O O) O (JLh (G1 s29.2) (G6 O O) O ?_)
  obtain⟨v37,hv37,h⟩:=Hb h
  refine JLh (G1 v37) (G31 hv37 O O O) O ?_
  obtain⟨v38,hv38,h⟩:=Hb h
  refine JLh (G1 v38) (G18 hv38 O O O) O (JLh (G1 (min c.Half v38)) (Ja5 O O O) O (JLh (G1 (min c.Half v38)) (Gb O O) O (G8 (hK35 _ _ (G3 (JLh (G1 s29.1) (G6 O O) O (JLh (.dptr [G1 c.Whole,G1 c.Half]) (Gd Zf O O O) O (JLh (G1 c.Whole) (Gk Gc O O O) O (JLh (G1 s29.2) (G6 O O) O ?_)))))))))
  obtain⟨v39,hv39,h⟩:=Hb h
  refine JLh (G1 v39) (G18 hv39 O O O) O (JLh (.dptr [G1 c.Half]) (Gd Ze O O O) O (JLh (G1 c.Half) (Gk Gc O O O) O ?_))
  obtain⟨v40,hv40,h⟩:=Hb h
  refine JLh (G1 v40) (Ht hv40 O O O) O (JLh (G1 (min c.Half v38)) (G6 O O) O ?_)
  obtain⟨v41,hv41,h⟩:=Hb h
  refine JLh (G1 v41) (G18 hv41 O O O) O (JLh (G1 (min s29.1 v41)) (Ja5 O O O) O (JLh (G1 (min s29.1 v41)) (Gb O O) O (G8 (hK34 _ _ (G3 (JLh (G1 s29.2) (G6 O O) O ?_))))))
  obtain⟨v42,hv42,h⟩:=Hb h
  refine JLh (G1 v42) (Ht hv42 O O O) O (JLh (G1 v42) (Gb O O) O (G8 (e29 _ _ m29 ((min s29.1 v41),v42) (app1 hn29 h) (by omega) ⟨(by repeat' constructor),G,rfl⟩)))
 ·
  replace h:=Hv hb h
  refine Hi (hK4 _ _ (G5 fun K43 hK43=>G3 (JLh (G1 s29.1) (G6 O O) O (JLh (G1 s29.1) (Gb O O) O (G8 (hK43 _ _ (Gx (⟨[G1 s29.1],[],G,O,⟨⟨_,O,.conv (.same O)⟩,G⟩,O,congrArg (fun r:Int=>(G1 r:AV)) (Option.some.inj h)⟩))))))))


theorem H54 (F:Nat) (x:List Int) (count:Int) (r:(List Int)) (h:Qe F x count=some r):Qq Tryz.prog 49 [E1 x,G1 count] [] (fun av L'=>∃ p:Nat,av=.vec 1138 p 1 r.length∧L'=[(1138,.vec 3 1 p (r.map G1))]):=by
 unfold Qe at h
 refine Zw [] [.tmp 4] Tryz.func49 O O (H64 O) (G5 fun K1 hK1=>G3 (JLh (.vec 1137 (([]:List Int).length) 1 (([]:List Int).length)) (Hc3 1137 3 1 O O O) O (G8 (hK1 _ _ (G5 (fun K2 hK2=>G5 fun K3 hK3=>G3 (JLh (G1 count) (G6 O O) O (JLh (BL (decide (count < 0))) (J2 O O O) O (G8 (hK3 _ _ (Gn O (fun hb=>?_) (fun hb=>?_))))))))))))
 ·
  replace h:=H1 hb h
  cases h
 ·
  replace h:=Hv hb h
  refine Gp (hK2 _ _ (G5 fun K4 hK4=>G3 (JLh (E1 x) (G6 O O) O (Hp (f:=G1) (xs:=x) Gt O O (fun hm14=>?_) O O O))))
  refine JLh (.sc (.int .u64 (IntKind.u64.wrap (x.length:Int)))) (G15 G95 Yu O O O) O (JLh (G1 count) (G6 O O) O (JLh (.sc (.int .u64 (IntKind.u64.wrap count))) (G15 G95 Yu O O O) O ?_))
  obtain⟨r5,hr5,h⟩:=Gf h
  refine JLh (.tup [.sc (.int .u64 r5.1),.sc (.int .u64 r5.2)]) (Gy (args:=[.sc (.int .u64 (IntKind.u64.wrap (x.length:Int))),.sc (.int .u64 (IntKind.u64.wrap count))]) O (H09 (IntKind.u64.wrap (x.length:Int)) (IntKind.u64.wrap count) r5 hr5) J5f ⟨O,O,O,O,G⟩) O (JLh (.tup [.sc (.int .u64 r5.1),.sc (.int .u64 r5.2)]) (G6 O O) O (JLh (.sc (.int .u64 r5.1)) (H0 O O O) O (JLh (.sc (.int .u64 r5.2)) (H0 O O O) O (JLh (.sc (.int .u64 r5.1)) (Gb O O) O (JLh (.sc (.int .u64 r5.2)) (Gb O O) O (G8 (hK4 _ _ (G5 (fun K6 hK6=>G5 fun K7 hK7=>G3 (JLh (.sc (.int .u64 r5.1)) (G6 O O) O (JLh (BL (decide (0 < r5.1))) (Zj O O O) O (JLh (BL (decide (0 < r5.1))) (G6 O O) O (Gg (u:=.sc (.int .u64 r5.2)) [] O O O .scf G (fun hc=>G6 O O) ?_)))))))))))))
  refine Gg (u:=BL (decide (9223372036854775807 < r5.2))) [(24,.sc (.int .u64 r5.2))] O O O .scf ⟨.all id,G⟩ (fun hc=>Zj O O O) ?_
  refine JLh (BL ((decide (0 < r5.1))||(decide (9223372036854775807 < r5.2)))) (G2a O O O O) O (G8 (hK7 _ _ (Gn O (fun hb=>?_) (fun hb=>?_))))
  ·
   replace h:=H1 hb h
   cases h
  ·
   replace h:=Hv hb h
   refine Gp (hK6 _ _ (G5 fun K8 hK8=>G3 (JLh (.sc (.int .u64 r5.2)) (G6 O O) O ?_)))
   obtain⟨v9,hv9,h⟩:=Hb h
   refine JLh (G1 v9) (G15 Yu G95 hv9 O O) O ?_
   obtain⟨m10,hm10,h⟩:=Gf h
   obtain⟨ha11,h⟩:=Hz h
   refine JLh (.vec 1138 0 1 ((List.replicate m10 (0:Int)).length)) (G5e 1138 (f:=G1) (n:=m10) 0 [.int .i64 0] O O O O Gt Yh G01 (Q9 hm10) (Q9 hm10) ha11 ⟨.inl O,G⟩ O) O (JLh (.vec 1138 0 1 ((List.replicate m10 (0:Int)).length)) (Gb O O) O (G8 (hK8 _ _ (G5 fun K12 hK12=>G3 (JLh (.vec 1138 0 1 ((List.replicate m10 (0:Int)).length)) (G6 O O) O (JLh (E1 x) (G6 O O) O (JLh (G1 ((min x.length ((List.replicate m10 (0:Int)).length):Nat):Int)) (J48 (f:=G1) (xs:=(List.replicate m10 (0:Int))) (ys:=x) (off:=0) (n:=((List.replicate m10 (0:Int)).length)) O Gt (.inl ⟨O,O⟩) O (Src_list (ys:=x) O (.inl O)) (fun _=>O)) O (JLh (G1 ((min x.length ((List.replicate m10 (0:Int)).length):Nat):Int)) (Gb O O) O (G8 (hK12 _ _ ?_))))))))))
   refine G5 (fun K13 hK13=>Gi ?_)
   obtain⟨b26,hb26,h⟩:=G26 h
   refine Ha (fun i26 (s26:Int×(List Int))=>loop b26 i26 s26=some r) (fun i26 s26=>[(7,.vec 1138 0 1 ((List.replicate m10 (0:Int)).length)),(8,G1 s26.1)]) (fun i26 s26=>[(1137,.vec 3 1 (([]:List Int).length) (([]:List Int).map G1)),(1138,.vec 3 1 0 (s26.2.map G1))]) (fun i26=>i26) F (((min x.length ((List.replicate m10 (0:Int)).length):Nat):Int),(overlay (List.replicate m10 (0:Int)) 0 x ((List.replicate m10 (0:Int)).length))) h ⟨⟨.same O,.same O,G⟩,⟨⟨_,O,.vec⟩,⟨_,O,.vec⟩,G⟩,O⟩ ?_
   clear h
   intro i26 s26 hi26 K26 e26
   obtain⟨m26,nx26,hm_26,hn26,h⟩:=Zn hi26
   replace h:=Hbc hb26 h
   refine G5 (fun K27 hK27=>G5 fun K28 hK28=>G3 (JLh (G1 s26.1) (G6 O O) O (JLh (.vec 1138 0 1 ((List.replicate m10 (0:Int)).length)) (G6 O O) O (H73 (f:=G1) (xs:=s26.2) Gt O O O (fun hm36=>?_) O O O))))
   refine JLh (BL (decide (s26.1 < (s26.2.length:Int)))) (J2 O O O) O (G8 (hK28 _ _ (Gn O (fun hb=>?_) (fun hb=>?_))))
   ·
    replace h:=H1 hb h
    refine Gp (hK27 _ _ (Gi (Re (l':=[(7,.vec 1138 0 1 ((List.replicate m10 (0:Int)).length)),(8,G1 s26.1)]) (L':=[(1137,.vec 3 1 (([]:List Int).length) (([]:List Int).map G1)),(1138,.vec 3 1 0 (s26.2.map G1))]) ⟨⟨.same O,.same O,G⟩,⟨⟨_,O,.vec⟩,⟨_,O,.vec⟩,G⟩,O⟩ ?_)))
    obtain⟨m29,hm29,h⟩:=Gf h
    obtain⟨m30,hm30,h⟩:=Gf h
    obtain⟨v31,hv31,h⟩:=Hb h
    refine Qt [7] [0,0,0,0,0,0,0,0,1,1] [1,0,0,0,0,0,0,0,1,1] [[(1137,.vec 3 1 (([]:List Int).length) (([]:List Int).map G1)),(1138,.vec 3 1 0 (s26.2.map G1))],((1138,.vec 3 1 0 ((overlay s26.2 m29 ((s26.2.drop 0).take m30) (s26.2.length - m29)).map G1))::[(1137,.vec 3 1 (([]:List Int).length) (([]:List Int).map G1)),(1138,.vec 3 1 0 (s26.2.map G1))])] Jr (by kernel_rfl) rfl rfl ?_
    refine Gm (u:=G1 s26.1) O O ⟨Gs (G6 O O) O,Gs (G6 O O) O,G⟩ (Gm (u:=.vec 1138 0 1 ((List.replicate m10 (0:Int)).length)) O O ⟨Gs (G6 O O) O,G⟩ (Gm (u:=G1 s26.1) O O ⟨Gs (G6 O O) O,G⟩ (Gm (u:=.vsl 1138 0 1 m29 (s26.2.length - m29)) O O ⟨Gs (H94 (f:=G1) (xs:=s26.2) O O O O Gt (Yo hm29)) O,G⟩ (Gm (u:=.vec 1138 0 1 ((List.replicate m10 (0:Int)).length)) O O ⟨Gs (G6 O O) O,G⟩ (Gm (u:=G1 s26.1) O O ⟨Gs (G6 O O) O,G⟩ (Gm (u:=.vsl 1138 0 1 0 m30) O O ⟨Gs (Jbc (f:=G1) (xs:=s26.2) O O O O Gt (Yo hm30)) O,G⟩ (D_w (u:=G1 ((min ((s26.2.drop 0).take m30).length (s26.2.length - m29):Nat):Int)) O O O O (Gs (J48 (f:=G1) (xs:=s26.2) (ys:=((s26.2.drop 0).take m30)) (off:=m29) (n:=(s26.2.length - m29)) O Gt (.inr O) O (Src_vsl (zs:=s26.2) O O) (fun _=>O)) O) (Gm (u:=G1 v31) O O ⟨Gs (Ht hv31 O O O) O,G⟩ (Gm (u:=G1 v31) O O ⟨Gs (Gb O O) O,G⟩ (Zu ?_))))))))))
    exact e26 _ _ m26 (v31,(overlay s26.2 m29 ((s26.2.drop 0).take m30) (s26.2.length - m29))) (app1 hn26 h) (by omega) ⟨⟨.same rfl,.same rfl,G⟩,⟨⟨_,rfl,.vec⟩,⟨_,rfl,.vec⟩,G⟩,rfl⟩
   ·
    replace h:=Hv hb h
    refine Hi (hK13 _ _ (G5 fun K32 hK32=>G3 (JLh (.vec 1138 0 1 ((List.replicate m10 (0:Int)).length)) (G6 O O) O (JLh (.vec 1138 0 1 ((List.replicate m10 (0:Int)).length)) (Gb O O) O (G8 (hK32 _ _ (H4b 4 O O (fun hn_=>Gx ?_))))))))
    obtain rfl:=Option.some.inj h
    exact⟨[.vec 1138 0 1 ((List.replicate m10 (0:Int)).length)],[(1138,.vec 3 1 0 (s26.2.map G1))],⟨⟨_,O,.vec⟩,G⟩,O,⟨⟨_,O,.conv (.same O)⟩,G⟩,0,congrArg (fun n_:Nat=>(.vec 1138 0 1 n_:AV)) (hn_.trans (List.length_map _)),O⟩

def G30 (F:Nat) (c:G2) (p1:Int) (p2:Int) (p3:List Int):Option (List Int):=
 Rn (p1+1) fun v3=>
 bnd (Qe F [(-1)] v3) fun r4=>
 jp (fun kj6=>
  loop (fun nx8 (s8:Int×(List Int))=>
   bif decide (s8.1≤p1) then
   (bnd (G40 F c p2 s8.1) fun r13=>
    loop (fun nx62 (s62:Int×(List Int))=>
     bif decide (s62.1≤p1) then
     (jp (fun kj65=>
       Rn (s62.1 - s8.1) fun v67=>
       Rm p3 v67 fun y68=>
       Rn (y68+r13) fun v70=>
       Rm s62.2 s62.1 fun y72=>
       bnd (bif (!(decide (y72 < 0))) then Rm s62.2 s62.1 some else some default) fun y73=>
       bif ((decide (y72 < 0))||(decide (v70 < y73))) then
       (Rm s62.2 s62.1 fun y74=>
        kj65 (s62.2.set s62.1.toNat v70))
       else
       (kj65 s62.2)) fun(j65:(List Int))=>
      Rn (s62.1+1) fun v75=>
      nx62 (v75,j65))
     else
     (bif decide (r13=0) then
      (kj6 s62.2)
      else
      (Rn (s8.1+1) fun v77=>
       nx8 (v77,s62.2)))) F (s8.1,s8.2))
   else
   (kj6 s8.2)) F (0,r4)) fun(j6:(List Int))=>
 some j6
theorem He2 (F:Nat) (c:G2) (p1:Int) (p2:Int) (p3:List Int) (r:(List Int)) (h:G30 F c p1 p2 p3=some r):Qq Tryz.prog 48 [.agg (G2.cs c),.dptr [G1 p1],.dptr [G1 p2],.ptr 1073 0] [(1073,.box 57 [E1 p3])] (fun av L'=>av=.tup []∧L'=[(1073,.box 57 [E1 r])]):=by
 unfold G30 at h
 refine Zw [1073] [] Tryz.func48 O O (H64 O) (G5 fun K1 hK1=>G3 (JLh (.ptr 1136 0) (Jw (u:=.agg (G2.cs c)) (cs:=[G1 c.Ga.Load,G1 c.Ga.Discharge,G1 c.Whole,G1 c.Half]) 1136 O O O O O) O (G8 (hK1 _ _ (Gq [(1,.dptr [G1 p1]),(2,.dptr [G1 p2]),(3,.ptr 1073 0),(4,Eg c)] [(1073,.box 57 [E1 p3])] 1136 rfl rfl rfl ⟨⟨_,rfl,.boxEq rfl rfl⟩,G⟩ rfl (by repeat' (first | exact .ptr | constructor)) (G5 fun K2 hK2=>G3 (JLh (E1 [(-1)]) (Hf (xs:=[G1 (-1)]) O ⟨O,O,G⟩ Gt Yn O O O O) O (JLh (G1 p1) (Gk Gc O O O) O ?_))))))))
 obtain⟨v3,hv3,h⟩:=Hb h
 refine JLh (G1 v3) (Ht hv3 O O O) O ?_
 obtain⟨r4,hr4,h⟩:=Gf h
 refine H0c O O O (Ja9 (args:=[E1 [(-1)],G1 v3]) (L0:=[]) (u:=fun p=>.vec 1138 p 1 r4.length) (Lr:=fun p=>[(1138,.vec 3 1 p (r4.map G1))]) O (H54 F [(-1)] v3 r4 hr4) Q04 ⟨.inl O,O,.inl O,O,G⟩ G O (fun _=>O)) ?_
 rintro u_ L_ ⟨v5,rfl,rfl⟩
 refine JLh (.vec 1138 v5 1 r4.length) (Gb O O) O (G8 (hK2 _ _ ?_))
 obtain⟨kj6,hkj6,h⟩:=Q7 h
 refine Jm (fun j6:(List Int)=>kj6 j6=some r) (fun j6=>[(3,.ptr 1073 0),(5,.vec 1138 v5 1 r4.length)]) (fun j6=>[(1138,.vec 3 1 v5 (j6.map G1)),(1073,.box 57 [E1 p3])]) (fun Kj6 ej6=>?_) ?_
 ·
  refine G5 fun K7 hK7=>G3 (JLh (G1 0) (Gb O O) O (G8 (hK7 _ _ (Gi ?_))))
  obtain⟨b8,hb8,h⟩:=G26 h
  refine Ha (fun i8 (s8:Int×(List Int))=>loop b8 i8 s8=some r) (fun i8 s8=>[(1,.dptr [G1 p1]),(2,.dptr [G1 p2]),(3,.ptr 1073 0),(4,Eg c),(5,.vec 1138 v5 1 r4.length),(6,G1 s8.1)]) (fun i8 s8=>[(1138,.vec 3 1 v5 (s8.2.map G1)),(1073,.box 57 [E1 p3])]) (fun i8=>i8) F (0,r4) h ⟨(by repeat' constructor),⟨⟨_,rfl,.vec⟩,⟨_,rfl,.boxL rfl ⟨.same rfl,G⟩⟩,G⟩,rfl⟩ ?_
  clear h
  intro i8 s8 hi8 K8 e8
  obtain⟨m8,nx8,hm_8,hn8,h⟩:=Zn hi8
  replace h:=Hbc hb8 h
  refine G5 (fun K9 hK9=>G5 fun K10 hK10=>G3 (JLh (G1 s8.1) (G6 O O) O (JLh (G1 p1) (Gk Gc O O O) O (JLh (BL (decide (s8.1≤p1))) (Gc4 O O O) O (G8 (hK10 _ _ (Gn O (fun hb=>?_) (fun hb=>?_))))))))
  ·
   replace h:=H1 hb h
   refine Gp (hK9 _ _ (G5 (fun K11 hK11=>Gi (G5 fun K12 hK12=>G3 (JLh (.agg (G2.cs c)) (Gh Qn O O O) O (JLh (G1 p2) (Gk Gc O O O) O (JLh (G1 s8.1) (G6 O O) O ?_)))))))
   obtain⟨r13,hr13,h⟩:=Gf h
   refine JLh (G1 r13) (Gy (args:=[.agg (G2.cs c),G1 p2,G1 s8.1]) O (M_bound_out_w F c p2 s8.1 r13 hr13) Q03 ⟨O,O,O,O,O,O,G⟩) O (JLh (G1 r13) (Gb O O) O (G8 (hK12 _ _ (G5 (fun K14 hK14=>G5 fun K15 hK15=>G3 (JLh (G1 s8.1) (G6 O O) O (JLh (G1 s8.1) (Gb O O) O (G8 (hK15 _ _ (Gi ?_))))))))))
   obtain⟨b62,hb62,h⟩:=G26 h
   refine Ha (fun i62 (s62:Int×(List Int))=>loop b62 i62 s62=some r) (fun i62 s62=>[(1,.dptr [G1 p1]),(2,.dptr [G1 p2]),(3,.ptr 1073 0),(4,Eg c),(5,.vec 1138 v5 1 r4.length),(6,G1 s8.1),(7,G1 r13),(8,G1 s62.1)]) (fun i62 s62=>[(1138,.vec 3 1 v5 (s62.2.map G1)),(1073,.box 57 [E1 p3])]) (fun i62=>i62) F (s8.1,s8.2) h ⟨(by repeat' constructor),⟨⟨_,rfl,.vec⟩,⟨_,rfl,.boxL rfl ⟨.same rfl,G⟩⟩,G⟩,rfl⟩ ?_
   clear h
   intro i62 s62 hi62 K62 e62
   obtain⟨m62,nx62,hm_62,hn62,h⟩:=Zn hi62
   replace h:=Hbc hb62 h
   refine G5 (fun K63 hK63=>G5 fun K64 hK64=>G3 (JLh (G1 s62.1) (G6 O O) O (JLh (G1 p1) (Gk Gc O O O) O (JLh (BL (decide (s62.1≤p1))) (Gc4 O O O) O (G8 (hK64 _ _ (Gn O (fun hb=>?_) (fun hb=>?_))))))))
   ·
    replace h:=H1 hb h
    refine Gp (hK63 _ _ ?_)
    obtain⟨kj65,hkj65,h⟩:=Q7 h
    refine Jm (fun j65:(List Int)=>kj65 j65=some r) (fun j65=>[(1,.dptr [G1 p1]),(2,.dptr [G1 p2]),(3,.ptr 1073 0),(4,Eg c),(5,.vec 1138 v5 1 r4.length),(6,G1 s8.1),(7,G1 r13),(8,G1 s62.1)]) (fun j65=>[(1138,.vec 3 1 v5 (j65.map G1)),(1073,.box 57 [E1 p3])]) (fun Kj65 ej65=>?_) ?_
    ·
     refine Gi (G5 fun K66 hK66=>G3 (JLh (E1 p3) (Jv Qy O O O O) O (JLh (G1 s62.1) (G6 O O) O (JLh (G1 s8.1) (G6 O O) O ?_))))
     obtain⟨v67,hv67,h⟩:=Hb h
     refine JLh (G1 v67) (G18 hv67 O O O) O ?_
     obtain⟨m69,y68,hm69,hy68,h⟩:=Qk h
     refine JLh (.dptr [G1 y68]) (Gz (f:=G1) (xs:=p3) (y:=y68) O O O Gt hy68 hm69) O (JLh (G1 y68) (Gk Gc O O O) O (JLh (G1 r13) (G6 O O) O ?_))
     obtain⟨v70,hv70,h⟩:=Hb h
     refine JLh (G1 v70) (Ht hv70 O O O) O (JLh (G1 v70) (Gb O O) O (G8 (hK66 _ _ (G5 fun K71 hK71=>G3 (JLh (.vec 1138 v5 1 r4.length) (G6 O O) O (JLh (G1 s62.1) (G6 O O) O ?_))))))
     obtain⟨y72,hmy72,hy72,h⟩:=R2 h
     refine JLh (.vptr 1138 v5 s62.1.toNat 0) (Qu (f:=G1) (xs:=s62.2) (y:=y72) O O O O Gt hy72 hmy72) O (JLh (G1 y72) (Yx (f:=G1) (xs:=s62.2) (y:=y72) Gc O O O hy72 O O) O (JLh (BL (decide (y72 < 0))) (J2 O O O) O (JLh (BL (decide (y72 < 0))) (G6 O O) O (Gg (u:=G1 v70) [] O O O .scf G (fun hc=>G6 O O) ?_))))
     refine Gg (u:=.vec 1138 v5 1 r4.length) [] O O O .scf G (fun hc=>G6 O O) ?_
     refine Gg (u:=G1 s62.1) [] O O O .scf G (fun hc=>G6 O O) ?_
     obtain⟨y73,hy73,h⟩:=Gf h
     refine Gg (u:=.vptr 1138 v5 s62.1.toNat 0) [(44,.vec 1138 v5 1 r4.length),(45,G1 s62.1)] O O O .scf ⟨.all id,.all id,G⟩ (fun hc=>Qu (f:=G1) (xs:=s62.2) (y:=y73) O O O O Gt (Qx (H1 hc hy73)) (G27 (H1 hc hy73))) ?_
     refine Gg (u:=G1 y73) [(46,.vptr 1138 v5 s62.1.toNat 0)] O O O .scf ⟨.all id,G⟩ (fun hc=>Yx (f:=G1) (xs:=s62.2) (y:=y73) Gc O O O (Qx (H1 hc hy73)) O O) ?_
     refine Gg (u:=BL (decide (v70 < y73))) [(43,G1 v70),(47,G1 y73)] O O O .scf ⟨.all id,.all id,G⟩ (fun hc=>J2 O O O) ?_
     refine JLh (BL ((decide (y72 < 0))||(decide (v70 < y73)))) (G2a O O O O) O (G8 (hK71 _ _ (Gn O (fun hb=>?_) (fun hb=>?_))))
     ·
      replace h:=H1 hb h
      refine G3 (JLh (.vec 1138 v5 1 r4.length) (G6 O O) O (JLh (G1 s62.1) (G6 O O) O (JLh (G1 v70) (G6 O O) O ?_)))
      obtain⟨y74,hmy74,hy74,h⟩:=R2 h
      refine JLh (.vptr 1138 v5 s62.1.toNat 0) (Qu (f:=G1) (xs:=s62.2) (y:=y74) O O O O Gt hy74 hmy74) O (Hg (u:=.junk) (G20 (f:=G1) (xs:=s62.2) (z:=v70) Qv O O O O (List.getElem?_eq_some_iff.1 hy74).1 O O O O) (G8 (ej65 _ _ (s62.2.set s62.1.toNat v70) h ⟨(by repeat' constructor),⟨⟨_,rfl,.vec⟩,⟨_,rfl,.boxL rfl ⟨.same rfl,G⟩⟩,G⟩,rfl⟩)))
     ·
      replace h:=Hv hb h
      refine Gp (ej65 _ _ s62.2 h ⟨(by repeat' constructor),⟨⟨_,rfl,.vec⟩,⟨_,rfl,.boxL rfl ⟨.same rfl,G⟩⟩,G⟩,rfl⟩)
    ·intro j65 h
     replace h:=app1 hkj65 h
     refine G3 (JLh (G1 s62.1) (G6 O O) O ?_)
     obtain⟨v75,hv75,h⟩:=Hb h
     refine JLh (G1 v75) (Ht hv75 O O O) O (JLh (G1 v75) (Gb O O) O (G8 (e62 _ _ m62 (v75,j65) (app1 hn62 h) (by omega) ⟨(by repeat' constructor),⟨⟨_,rfl,.vec⟩,⟨_,rfl,.boxL rfl ⟨.same rfl,G⟩⟩,G⟩,rfl⟩)))
   ·
    replace h:=Hv hb h
    refine Hi (hK14 _ _ (G5 fun K76 hK76=>G3 (JLh (G1 r13) (G6 O O) O (JLh (BL (decide (r13=0))) (Qh O O O) O (G8 (hK76 _ _ (Gn O (fun hb=>?_) (fun hb=>?_))))))))
    ·
     replace h:=H1 hb h
     refine Hi (ej6 _ _ s62.2 h ⟨⟨.same O,.same O,G⟩,⟨⟨_,O,.vec⟩,⟨_,O,.boxL O ⟨.same O,G⟩⟩,G⟩,O⟩)
    ·
     replace h:=Hv hb h
     refine Gp (hK11 _ _ (G3 (JLh (G1 s8.1) (G6 O O) O ?_)))
     obtain⟨v77,hv77,h⟩:=Hb h
     refine JLh (G1 v77) (Ht hv77 O O O) O (JLh (G1 v77) (Gb O O) O (G8 (e8 _ _ m8 (v77,s62.2) (app1 hn8 h) (by omega) ⟨(by repeat' constructor),⟨⟨_,rfl,.vec⟩,⟨_,rfl,.boxL rfl ⟨.same rfl,G⟩⟩,G⟩,rfl⟩)))
  ·
   replace h:=Hv hb h
   refine Hi (ej6 _ _ s8.2 h ⟨⟨.same O,.same O,G⟩,⟨⟨_,O,.vec⟩,⟨_,O,.boxL O ⟨.same O,G⟩⟩,G⟩,O⟩)
 ·intro j6 h
  replace h:=app1 hkj6 h
  refine G3 (JLh (.vec 1138 v5 1 r4.length) (G6 O O) O (Q1d [(3,.ptr 1073 0),(5,E1 j6),(56,E1 j6)] [(1073,.box 57 [E1 p3])] 1138 rfl rfl ⟨⟨_,rfl,.boxEq rfl rfl⟩,G⟩ rfl (by exact⟨.conv (.same rfl),.vec,.vec,G⟩) (Hg (u:=.junk) (H5 (u:=E1 j6) (ds:=[E1 j6]) Ha5 O O O O O O O O) (G8 ?_))))
  obtain rfl:=Option.some.inj h
  exact⟨[],[(1073,.box 57 [E1 j6])],⟨⟨_,O,.boxL O ⟨.same O,G⟩⟩,G⟩,O,G,O,O⟩

def Qw (F:Nat) (s:Hc) (l:List G2):Option Int:=
 bnd (Zo s) fun r3=>
 Rn (2*(s.Columns.length:Int)) fun v4=>
 Rn (v4+1) fun v6=>
 bnd (H4f v6) fun m7=>
 need (decide (8*m7≤281474976710656∧m7≤maxLen∧m7*1≤16777216)) <|
 each (fun y36 i36 (s36:(List Int)) nx36=>
  bnd (G30 F y36 v4 r3 s36) fun r41=>
  nx36 r41)
 (fun(s36:(List Int))=>
  Rm s36 v4 fun y43=>
  some y43) l 0 (List.replicate m7 (0:Int))
theorem Gc2 (F:Nat) (s:Hc) (l:List G2) (r:Int) (h:Qw F s l=some r):Pure Tryz.prog 19 [.agg (Hc.cs s),E4 l] (·=G1 r):=by
 unfold Qw at h
 refine H4 [.tmp 4] Tryz.func19 O O (G5 fun K1 hK1=>G3 (JLh (.ptr 1070 0) (Jw (u:=.agg (Hc.cs s)) (cs:=(Hc.cs s)) 1070 O O O O O) O (JLh (G1 0) (Gb O O) O (G8 (hK1 _ _ ?_)))))
 refine Gq [(1,E4 l),(2,Ee s)] [] 1070 rfl rfl rfl G rfl (by exact⟨.conv (.same rfl),.ptr,G⟩) (G5 (fun K2 hK2=>?_))
 obtain⟨r3,hr3,h⟩:=Gf h
 obtain⟨v4,hv4,h⟩:=Hb h
 refine Ja2 [6,7,8,9] [[[false,false,false,false],[true,false,false,false],[false,true,false,false],[true,true,false,false]],[[false,false,false,false],[true,false,false,false],[false,true,false,false],[true,true,false,false]],[[false,false,false,false],[true,false,false,false],[false,true,false,false],[true,true,false,false],[true,true,true,false]],[[false,false,false,false],[true,false,false,false],[false,true,false,false],[true,true,false,false],[true,true,true,false]],[[false,false,false,false],[true,false,false,false],[false,true,false,false],[true,true,false,false],[true,true,true,false]],[[false,false,false,false],[true,false,false,false],[false,true,false,false],[true,true,false,false],[true,true,true,false]],[[false,false,false,false],[false,true,false,false]],[[false,false,false,false],[true,false,false,false]],[[true,true,false,false]],[[true,true,true,false]]] [([false,false,false,false],[]),([true,false,false,false],[(1071,.box 3 [.junk])]),([false,true,false,false],[(1072,.box 3 [.junk])]),([true,true,false,false],[(1071,.box 3 [.junk]),(1072,.box 3 [.junk])]),([true,true,true,false],[(1071,.box 3 [G1 r3]),(1072,.box 3 [.junk])]),([true,true,true,true],[(1071,.box 3 [G1 r3]),(1072,.box 3 [G1 v4])])] Jr (by kernel_rfl) rfl rfl ?_
 refine G39 (u:=.agg (Hc.cs s)) O ⟨.ro O O (Gs (Gh J5 O O O) O),.ro O O (Gs (Gh J5 O O O) O),.ro O O (Gs (Gh J5 O O O) O),.ro O O (Gs (Gh J5 O O O) O),G⟩ ?_ O
 refine G39 (u:=G1 r3) O ⟨.ro O O (Gs (Gy (args:=[.agg (Hc.cs s)]) O (G1b s r3 hr3) Gd8 ⟨O,O,G⟩) O),.ro O O (Gs (Gy (args:=[.agg (Hc.cs s)]) O (G1b s r3 hr3) Gd8 ⟨O,O,G⟩) O),.ro O O (Gs (Gy (args:=[.agg (Hc.cs s)]) O (G1b s r3 hr3) Gd8 ⟨O,O,G⟩) O),.ro O O (Gs (Gy (args:=[.agg (Hc.cs s)]) O (G1b s r3 hr3) Gd8 ⟨O,O,G⟩) O),G⟩ ?_ O
 refine G39 (u:=Ee s) O ⟨.ro O O (Gs (Gd J0 O O O) O),.ro O O (Gs (Gd J0 O O O) O),.ro O O (Gs (Gd J0 O O O) O),.ro O O (Gs (Gd J0 O O O) O),.ro O O (Gs (Gd J0 O O O) O),G⟩ ?_ O
 refine G39 (u:=E5 s.Columns) O ⟨.ro O O (Gs (Gk J8 O O O) O),.ro O O (Gs (Gk J8 O O O) O),.ro O O (Gs (Gk J8 O O O) O),.ro O O (Gs (Gk J8 O O O) O),.ro O O (Gs (Gk J8 O O O) O),G⟩ ?_ O
 refine G39 (u:=Ek s.Columns.length) O ⟨.ro O O (Gs (Zd (f:=G9.av) (xs:=s.Columns) J3 O O) O),.ro O O (Gs (Zd (f:=G9.av) (xs:=s.Columns) J3 O O) O),.ro O O (Gs (Zd (f:=G9.av) (xs:=s.Columns) J3 O O) O),.ro O O (Gs (Zd (f:=G9.av) (xs:=s.Columns) J3 O O) O),.ro O O (Gs (Zd (f:=G9.av) (xs:=s.Columns) J3 O O) O),G⟩ ?_ O
 refine G39 (u:=G1 v4) O ⟨.ro O O (Gs (G31 hv4 O O O) O),.ro O O (Gs (G31 hv4 O O O) O),.ro O O (Gs (G31 hv4 O O O) O),.ro O O (Gs (G31 hv4 O O O) O),.ro O O (Gs (G31 hv4 O O O) O),G⟩ ?_ O
 refine G39 (u:=.ptr 1071 0) O ⟨.w [1071] O O (Gs (Hh 1071 1 Yn O O) O) O O ⟨O,G⟩,.w [1072,1071] O O (Gs (Hh 1071 1 Yn O O) O) O O ⟨O,O,G⟩,G⟩ ?_ O
 refine G39 (u:=.ptr 1072 0) O ⟨.w [1072] O O (Gs (Hh 1072 1 Yn O O) O) O O ⟨O,G⟩,.w [1071,1072] O O (Gs (Hh 1072 1 Yn O O) O) O O ⟨O,O,G⟩,G⟩ ?_ O
 refine D2_go0 (u:=.junk) O ⟨.w [1071,1072] O O (Gs (H5 (u:=G1 r3) (ds:=[G1 r3]) Qv O O O O O O O O) O) O O ⟨O,O,G⟩,G⟩ (D2_go0 (u:=.junk) O ⟨.w [1071,1072] O O (Gs (H5 (u:=G1 v4) (ds:=[G1 v4]) Qv O O O O O O O O) O) O O ⟨O,O,G⟩,G⟩ (Q20 (hK2 _ _ (Gq [(1,E4 l),(5,.dptr [G1 r3]),(6,.ptr 1072 0)] [(1072,.box 3 [G1 v4])] 1071 rfl rfl rfl ⟨⟨_,rfl,.boxEq rfl rfl⟩,G⟩ rfl (by exact⟨.conv (.same rfl),.ptr,.conv (.same rfl),G⟩) (Gq [(1,E4 l),(5,.dptr [G1 r3]),(6,.dptr [G1 v4])] [] 1072 rfl rfl rfl G rfl (by exact⟨.conv (.same rfl),.conv (.same rfl),.ptr,G⟩) (G5 fun K5 hK5=>G3 (JLh (G1 v4) (Gk Gc O O O) O ?_)))))))
 obtain⟨v6,hv6,h⟩:=Hb h
 refine JLh (G1 v6) (Ht hv6 O O O) O ?_
 obtain⟨m7,hm7,h⟩:=Gf h
 obtain⟨ha8,h⟩:=Hz h
 refine JLh (E1 (List.replicate m7 (0:Int))) (Jda (f:=G1) (n:=m7) 0 [.int .i64 0] O O O Gt Yh G01 (Q9 hm7) (Q9 hm7) ha8 ⟨.inl O,G⟩ O) O (JLh (.ptr 1073 0) (Hh 1073 1 J11 O O) O (Hg (u:=.junk) (H5 (u:=E1 (List.replicate m7 (0:Int))) (ds:=[E1 (List.replicate m7 (0:Int))]) Ha5 O O O O O O O O) (G8 (hK5 _ _ (G5 fun K9 hK9=>G3 (JLh (.fn 48 [.dptr [G1 v4],.dptr [G1 r3],.ptr 1073 0]) (R9 (cs:=[.dptr [G1 v4],.dptr [G1 r3],.ptr 1073 0]) O O) O (JLh (.fn 48 [.dptr [G1 v4],.dptr [G1 r3],.ptr 1073 0]) (Gb O O) O (G8 (hK9 _ _ (G5 (fun K10 hK10=>G5 fun K11 hK11=>G3 (JLh (E4 l) (G6 O O) O ?_))))))))))))
 refine Hp (f:=G2.av) (xs:=l) H7 O O (fun hm22=>?_) O O O
 refine JLh (G1 0) (G6 O O) O (G8 (hK11 _ _ (Gi ?_)))
 obtain⟨b36,kx36,hb36,hkx36,h⟩:=Hy h
 refine Ha (fun i36 (s36:(List Int))=>each b36 kx36 (List.drop i36 l) i36 s36=some r) (fun i36 s36=>[(6,.dptr [G1 v4]),(7,.ptr 1073 0),(8,.fn 48 [.dptr [G1 v4],.dptr [G1 r3],.ptr 1073 0]),(21,E4 l),(22,Ek l.length),(23,Ek i36)]) (fun i36 s36=>[(1073,.box 57 [E1 s36])]) (fun i36=>l.length - i36) 0 (List.replicate m7 (0:Int)) h ⟨(by repeat' constructor),⟨⟨_,rfl,.boxL rfl ⟨.same rfl,G⟩⟩,G⟩,rfl⟩ ?_
 clear h
 intro i36 s36 hi36 K36 e36
 refine G5 fun K37 hK37=>G3 (JLh (BL (decide ((i36:Int) < (l.length:Int)))) (J2 O O O) O (G8 (hK37 _ _ (G5 (fun K38 hK38=>Gn O (fun hb=>?_) (fun hb=>?_))))))
 ·
  have hk36:=Jd hb
  obtain⟨y36,nx36,hy36,hn36,h⟩:=Hr hi36 hk36
  replace h:=Rq hb36 h
  refine Gp (hK38 _ _ (G5 (fun K39 hK39=>Gi (G5 fun K40 hK40=>G3 (JLh (Eg y36) (Gz (f:=G2.av) (xs:=l) (y:=y36) O O O H7 hy36 O) O (JLh (.agg (G2.cs y36)) (Gh Qn O O O) O (JLh (.ptr 1074 0) (Hh 1074 4 Qi O O) O (Hg (u:=.junk) (H5 (u:=.agg (G2.cs y36)) (ds:=[G1 y36.Ga.Load,G1 y36.Ga.Discharge,G1 y36.Whole,G1 y36.Half]) Zm O O O O O O O O) (G8 (hK40 _ _ ?_))))))))))
  refine Gq [(6,.dptr [G1 v4]),(7,.ptr 1073 0),(8,.fn 48 [.dptr [G1 v4],.dptr [G1 r3],.ptr 1073 0]),(10,Eg y36),(21,E4 l),(22,Ek l.length),(23,Ek i36)] [(1073,.box 57 [E1 s36])] 1074 rfl rfl rfl ⟨⟨_,rfl,.boxEq rfl rfl⟩,G⟩ rfl (by repeat' (first | exact .ptr | constructor)) (G3 (JLh (.fn 48 [.dptr [G1 v4],.dptr [G1 r3],.ptr 1073 0]) (G6 O O) O (JLh (.agg (G2.cs y36)) (Gh Qn O O O) O ?_)))
  obtain⟨r41,hr41,h⟩:=Gf h
  refine JLh (.tup []) (H7a (args:=[.agg (G2.cs y36)]) (caps:=[.dptr [G1 v4],.dptr [G1 r3],.ptr 1073 0]) (L0:=[(1073,.box 57 [E1 s36])]) (Lr:=[(1073,.box 57 [E1 r41])]) O O (He2 F y36 v4 r3 s36 r41 hr41) Q05 ⟨.inl O,O,G⟩ O ⟨O,G⟩ O O O) O (G8 (hK39 _ _ (G3 (JLh (G1 ((i36+1:Nat):Int)) (Ht (Hn hk36 hm22) O O O) O (JLh (G1 ((i36+1:Nat):Int)) (G6 O O) O (G8 (e36 _ _ (i36+1) r41 (app1 hn36 h) (by omega) ⟨(by repeat' constructor),⟨⟨_,rfl,.boxL rfl ⟨.same rfl,G⟩⟩,G⟩,rfl⟩)))))))
 ·
  have h:=app1 hkx36 (Hs hi36 (H9 hb))
  refine Hi (hK10 _ _ (G5 fun K42 hK42=>G3 (JLh (E1 s36) (Jv Qy O O O O) O (JLh (G1 v4) (Gk Gc O O O) O ?_))))
  obtain⟨m44,y43,hm44,hy43,h⟩:=Qk h
  refine JLh (.dptr [G1 y43]) (Gz (f:=G1) (xs:=s36) (y:=y43) O O O Gt hy43 hm44) O (JLh (G1 y43) (Gk Gc O O O) O (JLh (G1 y43) (Gb O O) O (G8 (hK42 _ _ (Gx (⟨[G1 y43],[],G,O,⟨⟨_,O,.conv (.same O)⟩,G⟩,O,congrArg (fun r:Int=>(G1 r:AV)) (Option.some.inj h)⟩))))))

def Zt (F:Nat) (l:List G2) (p1:Hc):Option Int:=
 bnd (Qw F p1 l) fun r3=>
 some r3
theorem J0e (F:Nat) (l:List G2) (p1:Hc) (r:Int) (h:Zt F l p1=some r):Pure Tryz.prog 18 [E4 l,Ee p1] (·=G1 r):=by
 unfold Zt at h
 refine H4 [.tmp 3] Tryz.func18 O O (G5 fun K1 hK1=>G3 (JLh (G1 0) (Gb O O) O (G8 (hK1 _ _ (G5 fun K2 hK2=>G3 (JLh (.agg (Hc.cs p1)) (Gh J5 O O O) O (JLh (E4 l) (G6 O O) O ?_)))))))
 obtain⟨r3,hr3,h⟩:=Gf h
 refine JLh (G1 r3) (Gy (args:=[.agg (Hc.cs p1),E4 l]) O (Gc2 F p1 l r3 hr3) Hac ⟨O,O,O,O,G⟩) O (JLh (G1 r3) (Gb O O) O (G8 (hK2 _ _ (Gx (⟨[G1 r3],[],G,O,⟨⟨_,O,.conv (.same O)⟩,G⟩,O,congrArg (fun r:Int=>(G1 r:AV)) (Option.some.inj h)⟩)))))

def R0 (l:List (List G2)) (number:(List G2)→Option Int):Option ((List G2)×Int):=
 each (fun y22 i22 (s22:(List G2)×Int) nx22=>
  jp (fun kj25=>
   bnd (number y22) fun r28=>
   bif decide (s22.2 < r28) then
   (kj25 (y22,r28))
   else
   (kj25 (s22.1,s22.2))) fun(j25:(List G2)×Int)=>
  nx22 (j25.1,j25.2))
 (fun(s22:(List G2)×Int)=>
  some (s22.1,s22.2)) l 0 ([],0)
theorem Gb5 (l:List (List G2)) (number:(List G2)→Option Int) (number_f:FuncId) (number_c:List AV) (number_B:Ho Tryz.prog number_f=true) (number_d:Rs (fun _=>false) number_c=true) (number_w:∀ a0 q,number a0=some q→Pure Tryz.prog number_f ([E4 a0]++number_c) (·=G1 q)) (r:(List G2)×Int) (h:R0 l number=some r):Pure Tryz.prog 17 [LS 1 (E4) l,.fn number_f number_c] (·=.tup [E4 r.1,G1 r.2]):=by
 unfold R0 at h
 refine H4 [.tmp 4,.tmp 5] Tryz.func17 O O (G5 fun K1 hK1=>G3 (JLh (E4 ([]:List G2)) (Q4 4 O O) O (JLh (G1 0) (Gb O O) O (G8 (hK1 _ _ (G5 fun K2 hK2=>G3 (JLh (E4 ([]:List G2)) (Q4 4 O O) O (G8 (hK2 _ _ (G5 fun K3 hK3=>G3 (JLh (G1 0) (Gb O O) O (G8 (hK3 _ _ (G5 (fun K4 hK4=>G5 fun K5 hK5=>G3 (JLh (LS 1 (E4) l) (G6 O O) O (Hp (f:=(E4)) (xs:=l) Gf7 O O (fun hm12=>?_) O O O)))))))))))))))))
 refine JLh (G1 0) (G6 O O) O (G8 (hK5 _ _ (Gi ?_)))
 obtain⟨b22,kx22,hb22,hkx22,h⟩:=Hy h
 refine Ha (fun i22 (s22:(List G2)×Int)=>each b22 kx22 (List.drop i22 l) i22 s22=some r) (fun i22 s22=>[(1,.fn number_f number_c),(6,E4 s22.1),(7,G1 s22.2),(11,LS 1 (E4) l),(12,Ek l.length),(13,Ek i22)]) (fun i22 s22=>[]) (fun i22=>l.length - i22) 0 ([],0) h ⟨⟨.same (Hx _ _ number_d),.same O,.same O,.same O,.same O,.same O,G⟩,G,O⟩ ?_
 clear h
 intro i22 s22 hi22 K22 e22
 refine G5 fun K23 hK23=>G3 (JLh (BL (decide ((i22:Int) < (l.length:Int)))) (J2 O O O) O (G8 (hK23 _ _ (G5 (fun K24 hK24=>Gn O (fun hb=>?_) (fun hb=>?_))))))
 ·
  have hk22:=Jd hb
  obtain⟨y22,nx22,hy22,hn22,h⟩:=Hr hi22 hk22
  replace h:=Rq hb22 h
  refine Gp (hK24 _ _ ?_)
  obtain⟨kj25,hkj25,h⟩:=Q7 h
  refine Jm (fun j25:(List G2)×Int=>kj25 j25=some r) (fun j25=>[(1,.fn number_f number_c),(6,E4 j25.1),(7,G1 j25.2),(11,LS 1 (E4) l),(12,Ek l.length),(13,Ek i22)]) (fun j25=>[]) (fun Kj25 ej25=>?_) ?_
  ·
   refine Gi (G5 fun K26 hK26=>G3 (JLh (.dptr [E4 y22]) (Gz (f:=(E4)) (xs:=l) (y:=y22) O O O Gf7 hy22 O) O (JLh (E4 y22) (Gk Jbf O O O) O (JLh (E4 y22) (Gb O O) O (G8 (hK26 _ _ (G5 fun K27 hK27=>G3 (JLh (.fn number_f number_c) (G6 O O) O (JLh (E4 y22) (G6 O O) O ?_)))))))))
   obtain⟨r28,hr28,h⟩:=Gf h
   refine JLh (G1 r28) (Yy (args:=[E4 y22]) (caps:=number_c) O O (number_w y22 _ hr28) number_B ⟨O,O,G⟩ number_d) O (JLh (G1 r28) (Gb O O) O (G8 (hK27 _ _ (G5 fun K29 hK29=>G3 (JLh (G1 r28) (G6 O O) O (JLh (G1 s22.2) (G6 O O) O (JLh (BL (decide (s22.2 < r28))) (Zj O O O) O (G8 (hK29 _ _ (Gn O (fun hb=>?_) (fun hb=>?_)))))))))))
   ·
    replace h:=H1 hb h
    refine G3 (JLh (E4 y22) (G6 O O) O (JLh (G1 r28) (G6 O O) O (JLh (E4 y22) (Gb O O) O (JLh (G1 r28) (Gb O O) O (G8 (ej25 _ _ (y22,r28) h ⟨⟨.same (Hx _ _ number_d),.same O,.same O,.same O,.same O,.same O,G⟩,G,O⟩))))))
   ·
    replace h:=Hv hb h
    refine Gp (ej25 _ _ (s22.1,s22.2) h ⟨⟨.same (Hx _ _ number_d),.same O,.same O,.same O,.same O,.same O,G⟩,G,O⟩)
  ·intro j25 h
   replace h:=app1 hkj25 h
   refine G3 (JLh (G1 ((i22+1:Nat):Int)) (Ht (Hn hk22 hm12) O O O) O (JLh (G1 ((i22+1:Nat):Int)) (G6 O O) O (G8 (e22 _ _ (i22+1) (j25.1,j25.2) (app1 hn22 h) (by omega) ⟨⟨.same (Hx _ _ number_d),.same rfl,.same rfl,.same rfl,.same rfl,.same rfl,G⟩,G,rfl⟩))))
 ·
  have h:=app1 hkx22 (Hs hi22 (H9 hb))
  refine Hi (hK4 _ _ (G5 fun K30 hK30=>G3 (JLh (E4 s22.1) (G6 O O) O (JLh (G1 s22.2) (G6 O O) O (JLh (E4 s22.1) (Gb O O) O (JLh (G1 s22.2) (Gb O O) O (G8 (hK30 _ _ (Gx (⟨[E4 s22.1,G1 s22.2],[],G,O,⟨⟨_,O,.conv (.same O)⟩,⟨_,O,.conv (.same O)⟩,G⟩,O,congrArg (fun r:(List G2)×Int=>(.tup [E4 r.1,G1 r.2]:AV)) (Option.some.inj h)⟩))))))))))

def Ry (s:List Ga) (v:Ga):Option Int:=
 each (fun y18 i18 (s18:Unit) nx18=>
  bif decide (v=y18) then
  (some (i18:Int))
  else
  (nx18 ()))
 (fun(s18:Unit)=>
  some (-1)) s 0 ()
theorem Gf0 (s:List Ga) (v:Ga) (r:Int) (h:Ry s v=some r):Pure Tryz.prog 52 [E3 s,.agg [G1 v.Load,G1 v.Discharge]] (·=G1 r):=by
 unfold Ry at h
 refine H4 [.tmp 4] Tryz.func52 O O (G5 fun K1 hK1=>G3 (JLh (.ptr 1140 0) (Jw (u:=.agg [G1 v.Load,G1 v.Discharge]) (cs:=[G1 v.Load,G1 v.Discharge]) 1140 O O O O O) O (JLh (G1 0) (Gb O O) O (G8 (hK1 _ _ (Gq [(0,E3 s),(3,.dptr [G1 v.Load,G1 v.Discharge])] [] 1140 rfl rfl rfl G rfl (by exact⟨.conv (.same rfl),.ptr,G⟩) (G5 (fun K2 hK2=>G5 fun K3 hK3=>G3 (JLh (E3 s) (G6 O O) O (Hp (f:=Ga.av) (xs:=s) J4 O O (fun hm7=>?_) O O O))))))))))
 refine JLh (G1 0) (G6 O O) O (G8 (hK3 _ _ (Gi ?_)))
 obtain⟨b18,kx18,hb18,hkx18,h⟩:=Hy h
 refine Ha (fun i18 (s18:Unit)=>each b18 kx18 (List.drop i18 s) i18 s18=some r) (fun i18 s18=>[(0,E3 s),(3,.dptr [G1 v.Load,G1 v.Discharge]),(7,Ek s.length),(8,Ek i18)]) (fun i18 s18=>[]) (fun i18=>s.length - i18) 0 () h ⟨(by repeat' constructor),G,rfl⟩ ?_
 clear h
 intro i18 s18 hi18 K18 e18
 refine G5 fun K19 hK19=>G3 (JLh (BL (decide ((i18:Int) < (s.length:Int)))) (J2 O O O) O (G8 (hK19 _ _ (G5 (fun K20 hK20=>Gn O (fun hb=>?_) (fun hb=>?_))))))
 ·
  have hk18:=Jd hb
  obtain⟨y18,nx18,hy18,hn18,h⟩:=Hr hi18 hk18
  replace h:=Rq hb18 h
  refine Gp (hK20 _ _ (G5 (fun K21 hK21=>Gi (G5 fun K22 hK22=>G3 (JLh (Ek i18) (G6 O O) O (JLh (Ek i18) (Gb O O) O (G8 (hK22 _ _ (G5 (fun K23 hK23=>Qt [] [0,0,0,0,0,0] [0,0,0,0,0,0] [[]] Jr (by kernel_rfl) rfl rfl ?_))))))))))
  refine Gm (u:=.agg [G1 v.Load,G1 v.Discharge]) O O ⟨Gs (Gh Jc O O O) O,G⟩ (Gm (u:=E3 s) O O ⟨Gs (G6 O O) O,G⟩ (Gm (u:=Ek i18) O O ⟨Gs (G6 O O) O,G⟩ (Gm (u:=.dptr [G1 y18.Load,G1 y18.Discharge]) O O ⟨Gs (Gz (f:=Ga.av) (xs:=s) (y:=y18) O O O J4 hy18 O) O,G⟩ (Gm (u:=.agg [G1 y18.Load,G1 y18.Discharge]) O O ⟨Gs (Gh Jc O O O) O,G⟩ (Gm (u:=BL (decide (v=y18))) O O ⟨Gs (Jc2 (vs:=[.int .i64 v.Load,.int .i64 v.Discharge]) (us:=[.int .i64 y18.Load,.int .i64 y18.Discharge]) 4 O (tq_84 v y18) H59 Hf2 O O O) O,G⟩ (Zu (hK23 _ _ (Gn O (fun hb=>?_) (fun hb=>?_)))))))))
  ·
   replace h:=H1 hb h
   refine G5 fun K24 hK24=>G3 (JLh (Ek i18) (G6 O O) O (JLh (Ek i18) (Gb O O) O (G8 (hK24 _ _ (Gx (⟨[Ek i18],[],G,O,⟨⟨_,O,.conv (.same O)⟩,G⟩,O,congrArg (fun r:Int=>(G1 r:AV)) (Option.some.inj h)⟩))))))
  ·
   replace h:=Hv hb h
   refine Gp (hK21 _ _ (G3 (JLh (G1 ((i18+1:Nat):Int)) (Ht (Hn hk18 hm7) O O O) O (JLh (G1 ((i18+1:Nat):Int)) (G6 O O) O (G8 (e18 _ _ (i18+1) () (app1 hn18 h) (by omega) ⟨(by repeat' constructor),G,rfl⟩))))))
 ·
  have h:=app1 hkx18 (Hs hi18 (H9 hb))
  refine Hi (hK2 _ _ (G5 fun K25 hK25=>G3 (JLh (G1 (-1)) (Gb O O) O (G8 (hK25 _ _ (Gx (⟨[G1 (-1)],[],G,O,⟨⟨_,O,.conv (.same O)⟩,G⟩,O,congrArg (fun r:Int=>(G1 r:AV)) (Option.some.inj h)⟩)))))))

def R8 (s:List Ga) (v:Ga):Option Bool:=
 bnd (Ry s v) fun r3=>
 some (decide (0≤r3))
theorem Gbf (s:List Ga) (v:Ga) (r:Bool) (h:R8 s v=some r):Pure Tryz.prog 22 [E3 s,.agg [G1 v.Load,G1 v.Discharge]] (·=BL r):=by
 unfold R8 at h
 refine H4 [.tmp 4] Tryz.func22 O O (G5 fun K1 hK1=>G3 (JLh (.ptr 1078 0) (Jw (u:=.agg [G1 v.Load,G1 v.Discharge]) (cs:=[G1 v.Load,G1 v.Discharge]) 1078 O O O O O) O (JLh (BL false) (Gb O O) O (G8 (hK1 _ _ (Gq [(0,E3 s),(3,.dptr [G1 v.Load,G1 v.Discharge])] [] 1078 rfl rfl rfl G rfl (by exact⟨.conv (.same rfl),.ptr,G⟩) (G5 fun K2 hK2=>G3 (JLh (E3 s) (G6 O O) O (JLh (.agg [G1 v.Load,G1 v.Discharge]) (Gh Jc O O O) O ?_)))))))))
 obtain⟨r3,hr3,h⟩:=Gf h
 refine JLh (G1 r3) (Gy (args:=[E3 s,.agg [G1 v.Load,G1 v.Discharge]]) O (Gf0 s v r3 hr3) Q02 ⟨O,O,O,O,G⟩) O (JLh (BL (decide (0≤r3))) (G4b O O O) O (JLh (BL (decide (0≤r3))) (Gb O O) O (G8 (hK2 _ _ (Gx (⟨[BL (decide (0≤r3))],[],G,O,⟨⟨_,O,.conv (.same O)⟩,G⟩,O,congrArg (fun r:Bool=>(BL r:AV)) (Option.some.inj h)⟩))))))

def G1e (c:G2) (p1:List Ga):Option Bool:=
 bnd (R8 p1 c.Ga) fun r3=>
 some r3
theorem J0d (c:G2) (p1:List Ga) (r:Bool) (h:G1e c p1=some r):Pure Tryz.prog 21 [.agg (G2.cs c),.dptr [E3 p1]] (·=BL r):=by
 unfold G1e at h
 refine H4 [.tmp 3] Tryz.func21 O O (G5 fun K1 hK1=>G3 (JLh (.ptr 1077 0) (Jw (u:=.agg (G2.cs c)) (cs:=[G1 c.Ga.Load,G1 c.Ga.Discharge,G1 c.Whole,G1 c.Half]) 1077 O O O O O) O (JLh (BL false) (Gb O O) O (G8 (hK1 _ _ (Gq [(1,.dptr [E3 p1]),(2,Eg c)] [] 1077 rfl rfl rfl G rfl (by exact⟨.conv (.same rfl),.ptr,G⟩) (G5 fun K2 hK2=>G3 (JLh (E3 p1) (Gk G23 O O O) O (JLh (Eg c) (Gd Ja O O O) O (JLh (.agg [G1 c.Ga.Load,G1 c.Ga.Discharge]) (Gh Jc O O O) O ?_))))))))))
 obtain⟨r3,hr3,h⟩:=Gf h
 refine JLh (BL r3) (Gy (args:=[E3 p1,.agg [G1 c.Ga.Load,G1 c.Ga.Discharge]]) O (Gbf p1 c.Ga r3 hr3) Q12 ⟨O,O,O,O,G⟩) O (JLh (BL r3) (Gb O O) O (G8 (hK2 _ _ (Gx (⟨[BL r3],[],G,O,⟨⟨_,O,.conv (.same O)⟩,G⟩,O,congrArg (fun r:Bool=>(BL r:AV)) (Option.some.inj h)⟩)))))

def Q3 (s:List G2) (f:G2→Option Bool):Option Int:=
 each (fun y20 i20 (s20:Unit) nx20=>
  bnd (f y20) fun r26=>
  bif r26 then
  (some (i20:Int))
  else
  (nx20 ()))
 (fun(s20:Unit)=>
  some (-1)) s 0 ()
theorem G17 (s:List G2) (f:G2→Option Bool) (f_f:FuncId) (f_c:List AV) (f_B:Ho Tryz.prog f_f=true) (f_d:Rs (fun _=>false) f_c=true) (f_w:∀ a0 q,f a0=some q→Pure Tryz.prog f_f ([.agg (G2.cs a0)]++f_c) (·=BL q)) (r:Int) (h:Q3 s f=some r):Pure Tryz.prog 51 [E4 s,.fn f_f f_c] (·=G1 r):=by
 unfold Q3 at h
 refine H4 [.tmp 4] Tryz.func51 O O (G5 fun K1 hK1=>G3 (JLh (G1 0) (Gb O O) O (G8 (hK1 _ _ (G5 (fun K2 hK2=>G5 fun K3 hK3=>G3 (JLh (E4 s) (G6 O O) O (Hp (f:=G2.av) (xs:=s) H7 O O (fun hm7=>?_) O O O))))))))
 refine JLh (G1 0) (G6 O O) O (G8 (hK3 _ _ (Gi ?_)))
 obtain⟨b20,kx20,hb20,hkx20,h⟩:=Hy h
 refine Ha (fun i20 (s20:Unit)=>each b20 kx20 (List.drop i20 s) i20 s20=some r) (fun i20 s20=>[(0,E4 s),(1,.fn f_f f_c),(7,Ek s.length),(8,Ek i20)]) (fun i20 s20=>[]) (fun i20=>s.length - i20) 0 () h ⟨⟨.same O,.same (Hx _ _ f_d),.same O,.same O,G⟩,G,O⟩ ?_
 clear h
 intro i20 s20 hi20 K20 e20
 refine G5 fun K21 hK21=>G3 (JLh (BL (decide ((i20:Int) < (s.length:Int)))) (J2 O O O) O (G8 (hK21 _ _ (G5 (fun K22 hK22=>Gn O (fun hb=>?_) (fun hb=>?_))))))
 ·
  have hk20:=Jd hb
  obtain⟨y20,nx20,hy20,hn20,h⟩:=Hr hi20 hk20
  replace h:=Rq hb20 h
  refine Gp (hK22 _ _ (G5 (fun K23 hK23=>Gi (G5 fun K24 hK24=>G3 (JLh (Ek i20) (G6 O O) O (JLh (Ek i20) (Gb O O) O (G8 (hK24 _ _ (G5 fun K25 hK25=>G3 (JLh (.fn f_f f_c) (G6 O O) O (JLh (E4 s) (G6 O O) O (JLh (Ek i20) (G6 O O) O (JLh (Eg y20) (Gz (f:=G2.av) (xs:=s) (y:=y20) O O O H7 hy20 O) O (JLh (.agg (G2.cs y20)) (Gh Qn O O O) O ?_))))))))))))))
  obtain⟨r26,hr26,h⟩:=Gf h
  refine JLh (BL r26) (Yy (args:=[.agg (G2.cs y20)]) (caps:=f_c) O O (f_w y20 _ hr26) f_B ⟨O,O,G⟩ f_d) O (G8 (hK25 _ _ (Gn O (fun hb=>?_) (fun hb=>?_))))
  ·
   replace h:=H1 hb h
   refine G5 fun K27 hK27=>G3 (JLh (Ek i20) (G6 O O) O (JLh (Ek i20) (Gb O O) O (G8 (hK27 _ _ (Gx (⟨[Ek i20],[],G,O,⟨⟨_,O,.conv (.same O)⟩,G⟩,O,congrArg (fun r:Int=>(G1 r:AV)) (Option.some.inj h)⟩))))))
  ·
   replace h:=Hv hb h
   refine Gp (hK23 _ _ (G3 (JLh (G1 ((i20+1:Nat):Int)) (Ht (Hn hk20 hm7) O O O) O (JLh (G1 ((i20+1:Nat):Int)) (G6 O O) O (G8 (e20 _ _ (i20+1) () (app1 hn20 h) (by omega) ⟨⟨.same rfl,.same (Hx _ _ f_d),.same rfl,.same rfl,G⟩,G,rfl⟩))))))
 ·
  have h:=app1 hkx20 (Hs hi20 (H9 hb))
  refine Hi (hK2 _ _ (G5 fun K28 hK28=>G3 (JLh (G1 (-1)) (Gb O O) O (G8 (hK28 _ _ (Gx (⟨[G1 (-1)],[],G,O,⟨⟨_,O,.conv (.same O)⟩,G⟩,O,congrArg (fun r:Int=>(G1 r:AV)) (Option.some.inj h)⟩)))))))


theorem H1a (F:Nat) (counts:List G2) (counts_q:Nat) (call:Int) (r:(List G2)) (h:G14 F counts call=some r):Qq Tryz.prog 16 [.vec 1061 counts_q 4 counts.length,G1 call] [(1061,.vec 86 4 counts_q (counts.map G2.av))] (fun av L'=>av=E4 r∧L'=[(1061,.vec 86 4 counts_q (counts.map G2.av))]):=by
 unfold G14 at h
 refine Zw [1061] [.tmp 4] Tryz.func16 O O (H64 O) (G5 fun K1 hK1=>G3 (JLh (E4 ([]:List G2)) (Q4 4 O O) O (G8 (hK1 _ _ (G5 fun K2 hK2=>G3 (JLh (OW 1065 4 G2.av ([]:List G2)) (Zv 1065 86 4 O O O) O (G8 (hK2 _ _ (G5 (fun K3 hK3=>G5 fun K4 hK4=>G3 (JLh (.vec 1061 counts_q 4 counts.length) (G6 O O) O (H73 (f:=G2.av) (xs:=counts) H7 O O O (fun hm16=>?_) O O O))))))))))))
 refine JLh (G1 0) (G6 O O) O (G8 (hK4 _ _ (Gi ?_)))
 obtain⟨b17,kx17,hb17,hkx17,h⟩:=Hy h
 refine Ha (fun i17 (s17:(List G2))=>each b17 kx17 (List.drop i17 counts) i17 s17=some r) (fun i17 s17=>[(1,G1 call),(5,OW 1065 4 G2.av s17),(15,.vec 1061 counts_q 4 counts.length),(16,Ek counts.length),(17,Ek i17)]) (fun i17 s17=>[(1061,.vec 86 4 counts_q (counts.map G2.av)),(1065,.spare 86 4 s17.length s17.length)]) (fun i17=>counts.length - i17) 0 [] h ⟨(by repeat' constructor),⟨⟨_,rfl,.vec⟩,⟨_,rfl,.same⟩,G⟩,rfl⟩ ?_
 clear h
 intro i17 s17 hi17 K17 e17
 refine G5 fun K18 hK18=>G3 (JLh (BL (decide ((i17:Int) < (counts.length:Int)))) (J2 O O O) O (G8 (hK18 _ _ (G5 (fun K19 hK19=>Gn O (fun hb=>?_) (fun hb=>?_))))))
 ·
  have hk17:=Jd hb
  obtain⟨y17,nx17,hy17,hn17,h⟩:=Hr hi17 hk17
  replace h:=Rq hb17 h
  refine Gp (hK19 _ _ ?_)
  obtain⟨kj20,hkj20,h⟩:=Q7 h
  refine Jm (fun j20:(List G2)=>kj20 j20=some r) (fun j20=>[(1,G1 call),(5,OW 1065 4 G2.av j20),(15,.vec 1061 counts_q 4 counts.length),(16,Ek counts.length),(17,Ek i17)]) (fun j20=>[(1061,.vec 86 4 counts_q (counts.map G2.av)),(1065,.spare 86 4 j20.length j20.length)]) (fun Kj20 ej20=>?_) ?_
  ·
   refine Gi (G5 fun K21 hK21=>G3 (JLh (.vptr 1061 counts_q i17 0) (Qu (f:=G2.av) (xs:=counts) (y:=y17) O O O O H7 hy17 O) O (JLh (.agg (G2.cs y17)) (J32 (f:=G2.av) (xs:=counts) (y:=y17) Qn O O O hy17 O O) O (JLh (.ptr 1066 0) (Hh 1066 4 Qi O O) O (Hg (u:=.junk) (H5 (u:=.agg (G2.cs y17)) (ds:=[G1 y17.Ga.Load,G1 y17.Ga.Discharge,G1 y17.Whole,G1 y17.Half]) Zm O O O O O O O O) (G8 (hK21 _ _ ?_)))))))
   refine Gq [(1,G1 call),(5,OW 1065 4 G2.av s17),(7,Eg y17),(15,.vec 1061 counts_q 4 counts.length),(16,Ek counts.length),(17,Ek i17)] [(1061,.vec 86 4 counts_q (counts.map G2.av)),(1065,.spare 86 4 s17.length s17.length)] 1066 rfl rfl rfl ⟨⟨_,rfl,.vec⟩,⟨_,rfl,.same⟩,G⟩ rfl (by repeat' (first | exact .ptr | constructor)) (G5 fun K22 hK22=>G3 (JLh (Eg y17) (Gd Ja O O O) O (JLh (Eg y17) (Gd Rk O O O) O (JLh (G1 y17.Ga.Load) (Gk Gc O O O) O (JLh (G1 call) (G6 O O) O (JLh (BL (decide (y17.Ga.Load≤call))) (Gc4 O O O) O (JLh (BL (decide (y17.Ga.Load≤call))) (G6 O O) O (Gg (u:=G1 call) [] O O O .sct G (fun hc=>G6 O O) ?_))))))))
   refine Gg (u:=Eg y17) [] O O O .sct G (fun hc=>Gd Ja O O O) ?_
   refine Gg (u:=.dptr ((G2.cs y17).drop 1)) [(28,Eg y17)] O O O .sct ⟨.all id,G⟩ (fun hc=>Gd Rj O O O) ?_
   refine Gg (u:=G1 y17.Ga.Discharge) [(29,.dptr ((G2.cs y17).drop 1))] O O O .sct ⟨.all id,G⟩ (fun hc=>Gk Gc O O O) ?_
   refine Gg (u:=BL (decide (call < y17.Ga.Discharge))) [(27,G1 call),(30,G1 y17.Ga.Discharge)] O O O .sct ⟨.all id,.all id,G⟩ (fun hc=>J2 O O O) ?_
   refine JLh (BL ((decide (y17.Ga.Load≤call))&&(decide (call < y17.Ga.Discharge)))) (Qc O O O O) O (G8 (hK22 _ _ (Gn O (fun hb=>?_) (fun hb=>?_))))
   ·
    replace h:=H1 hb h
    refine G3 (JLh (OW 1065 4 G2.av s17) (G6 O O) O (JLh (.agg (G2.cs y17)) (Gh Qn O O O) O (JLh (E4 [y17]) (Hf (xs:=[.agg (G2.cs y17)]) O ⟨O,O,G⟩ H7 Qi O O O O) O ?_)))
    obtain⟨ha23,h⟩:=Hz h
    refine JLh (OW 1065 4 G2.av (s17++[y17])) (Q5 (f:=G2.av) (xs:=s17) (ys:=[y17]) O O O O H7 G66 ha23 (fun _=>O) (.inl O) O) O (JLh (OW 1065 4 G2.av (s17++[y17])) (Gb O O) O (G8 (ej20 _ _ (s17++[y17]) h ⟨(by repeat' constructor),⟨⟨_,rfl,.vec⟩,⟨_,rfl,.same⟩,G⟩,rfl⟩)))
   ·
    replace h:=Hv hb h
    refine Gp (ej20 _ _ s17 h ⟨(by repeat' constructor),⟨⟨_,rfl,.vec⟩,⟨_,rfl,.same⟩,G⟩,rfl⟩)
  ·intro j20 h
   replace h:=app1 hkj20 h
   refine G3 (JLh (G1 ((i17+1:Nat):Int)) (Ht (Hn hk17 hm16) O O O) O (JLh (G1 ((i17+1:Nat):Int)) (G6 O O) O (G8 (e17 _ _ (i17+1) j20 (app1 hn17 h) (by omega) ⟨(by repeat' constructor),⟨⟨_,rfl,.vec⟩,⟨_,rfl,.same⟩,G⟩,rfl⟩))))
 ·
  have h:=app1 hkx17 (Hs hi17 (H9 hb))
  refine Hi (hK3 _ _ (G5 (fun K24 hK24=>Re (l':=[(5,OW 1065 4 G2.av s17)]) (L':=[(1061,.vec 86 4 counts_q (counts.map G2.av)),(1065,.spare 86 4 s17.length s17.length)]) ⟨⟨.same O,G⟩,⟨⟨_,O,.vec⟩,⟨_,O,.same⟩,G⟩,O⟩ ?_)))
  obtain⟨m25,hm25,h⟩:=Gf h
  obtain⟨ha26,h⟩:=Hz h
  obtain⟨m27,hm27,h⟩:=Gf h
  obtain⟨ha28,h⟩:=Hz h
  refine Ja2 [2,5] [[[false,false],[false,true]],[[false,false],[false,true]],[[false,false],[false,true]],[[false,false],[true,false]],[[false,false],[true,false]],[[false,false],[true,false]],[[true,false],[true,true]],[[true,true]]] [([false,false],[(1061,.vec 86 4 counts_q (counts.map G2.av)),(1065,.spare 86 4 s17.length s17.length)]),([false,true],[(1061,.vec 86 4 counts_q (counts.map G2.av)),(1065,.spare 86 4 s17.length s17.length),(1069,.vec 3 1 0 ((List.replicate m27 (0:Int)).map G1))]),([true,false],[(1061,.vec 86 4 counts_q (counts.map G2.av)),(1065,.spare 86 4 s17.length s17.length),(1068,.vec 3 1 0 ((List.replicate m25 (0:Int)).map G1))]),([true,true],[(1061,.vec 86 4 counts_q (counts.map G2.av)),(1065,.spare 86 4 s17.length s17.length),(1068,.vec 3 1 0 ((List.replicate m25 (0:Int)).map G1)),(1069,.vec 3 1 0 ((List.replicate m27 (0:Int)).map G1))])] Jr (by kernel_rfl) rfl rfl ?_
  refine G39 (u:=OW 1065 4 G2.av s17) O ⟨.ro O O (Gs (G6 O O) O),.ro O O (Gs (G6 O O) O),G⟩ ?_ O
  refine G39 (u:=Ek s17.length) O ⟨.ro O O (Gs (Zd (f:=G2.av) (xs:=s17) H7 O O) O),.ro O O (Gs (Zd (f:=G2.av) (xs:=s17) H7 O O) O),G⟩ ?_ O
  refine G39 (u:=.vec 1068 0 1 ((List.replicate m25 (0:Int)).length)) O ⟨.w [1061,1065,1068] O O (Gs (G5e 1068 (f:=G1) (n:=m25) 0 [.int .i64 0] O O O O Gt Yh G01 (Q9 hm25) (Q9 hm25) ha26 ⟨.inl O,G⟩ O) O) O O ⟨O,O,O,G⟩,.w [1061,1065,1069,1068] O O (Gs (G5e 1068 (f:=G1) (n:=m25) 0 [.int .i64 0] O O O O Gt Yh G01 (Q9 hm25) (Q9 hm25) ha26 ⟨.inl O,G⟩ O) O) O O ⟨O,O,O,O,G⟩,G⟩ ?_ O
  refine G39 (u:=OW 1065 4 G2.av s17) O ⟨.ro O O (Gs (G6 O O) O),.ro O O (Gs (G6 O O) O),G⟩ ?_ O
  refine G39 (u:=Ek s17.length) O ⟨.ro O O (Gs (Zd (f:=G2.av) (xs:=s17) H7 O O) O),.ro O O (Gs (Zd (f:=G2.av) (xs:=s17) H7 O O) O),G⟩ ?_ O
  refine G39 (u:=.vec 1069 0 1 ((List.replicate m27 (0:Int)).length)) O ⟨.w [1061,1065,1069] O O (Gs (G5e 1069 (f:=G1) (n:=m27) 0 [.int .i64 0] O O O O Gt Yh G01 (Q9 hm27) (Q9 hm27) ha28 ⟨.inl O,G⟩ O) O) O O ⟨O,O,O,G⟩,.w [1061,1065,1068,1069] O O (Gs (G5e 1069 (f:=G1) (n:=m27) 0 [.int .i64 0] O O O O Gt Yh G01 (Q9 hm27) (Q9 hm27) ha28 ⟨.inl O,G⟩ O) O) O O ⟨O,O,O,O,G⟩,G⟩ ?_ O
  refine G39 (u:=.vec 1068 0 1 ((List.replicate m25 (0:Int)).length)) O ⟨.ro O O (Gs (Gb O O) O),.ro O O (Gs (Gb O O) O),G⟩ ?_ O
  refine G39 (u:=.vec 1069 0 1 ((List.replicate m27 (0:Int)).length)) O ⟨.ro O O (Gs (Gb O O) O),G⟩ ?_ O
  refine Q20 (hK24 _ _ (G5 fun K29 hK29=>G3 (JLh (G1 (-1)) (Gb O O) O (G8 (hK29 _ _ (G5 (fun K30 hK30=>G5 fun K31 hK31=>G3 (JLh (OW 1065 4 G2.av s17) (G6 O O) O (Hp (f:=G2.av) (xs:=s17) H7 O O (fun hm45=>?_) O O O)))))))))
  obtain⟨v32,hv32,h⟩:=Hb h
  refine JLh (G1 v32) (G18 hv32 O O O) O (JLh (G1 v32) (Gb O O) O (G8 (hK31 _ _ (Gi ?_))))
  obtain⟨b33,hb33,h⟩:=G26 h
  refine Ha (fun i33 (s33:Int×Int×(List Int)×(List Int))=>loop b33 i33 s33=some r) (fun i33 s33=>[(5,OW 1065 4 G2.av s17),(8,.vec 1068 0 1 ((List.replicate m25 (0:Int)).length)),(9,.vec 1069 0 1 ((List.replicate m27 (0:Int)).length)),(10,G1 s33.1),(11,G1 s33.2.1)]) (fun i33 s33=>[(1061,.vec 86 4 counts_q (counts.map G2.av)),(1065,.spare 86 4 s17.length s17.length),(1068,.vec 3 1 0 (s33.2.2.1.map G1)),(1069,.vec 3 1 0 (s33.2.2.2.map G1))]) (fun i33=>i33) F ((-1),v32,(List.replicate m25 (0:Int)),(List.replicate m27 (0:Int))) h ⟨(by repeat' constructor),⟨⟨_,rfl,.vec⟩,⟨_,rfl,.same⟩,⟨_,rfl,.vec⟩,⟨_,rfl,.vec⟩,G⟩,rfl⟩ ?_
  clear h
  intro i33 s33 hi33 K33 e33
  obtain⟨m33,nx33,hm_33,hn33,h⟩:=Zn hi33
  replace h:=Hbc hb33 h
  refine G5 (fun K34 hK34=>G5 fun K35 hK35=>G3 (JLh (G1 s33.2.1) (G6 O O) O (JLh (BL (decide (0≤s33.2.1))) (G4b O O O) O (G8 (hK35 _ _ (Gn O (fun hb=>?_) (fun hb=>?_)))))))
  ·
   replace h:=H1 hb h
   refine Gp (hK34 _ _ ?_)
   obtain⟨kj36,hkj36,h⟩:=Q7 h
   refine Jm (fun j36:Int×(List Int)×(List Int)=>kj36 j36=some r) (fun j36=>[(5,OW 1065 4 G2.av s17),(8,.vec 1068 0 1 ((List.replicate m25 (0:Int)).length)),(9,.vec 1069 0 1 ((List.replicate m27 (0:Int)).length)),(10,G1 j36.1),(11,G1 s33.2.1)]) (fun j36=>[(1061,.vec 86 4 counts_q (counts.map G2.av)),(1065,.spare 86 4 s17.length s17.length),(1068,.vec 3 1 0 (j36.2.1.map G1)),(1069,.vec 3 1 0 (j36.2.2.map G1))]) (fun Kj36 ej36=>?_) ?_
   ·
    refine Gi (G5 fun K37 hK37=>G3 (JLh (.vec 1069 0 1 ((List.replicate m27 (0:Int)).length)) (G6 O O) O (JLh (G1 s33.2.1) (G6 O O) O ?_)))
    obtain⟨y38,hmy38,hy38,h⟩:=R2 h
    refine JLh (.vptr 1069 0 s33.2.1.toNat 0) (Qu (f:=G1) (xs:=s33.2.2.2) (y:=y38) O O O O Gt hy38 hmy38) O (Hg (u:=.junk) (G20 (f:=G1) (xs:=s33.2.2.2) (z:=(-1)) Qv O O O O (List.getElem?_eq_some_iff.1 hy38).1 O O O O) (G8 (hK37 _ _ (G5 (fun K39 hK39=>G5 fun K40 hK40=>G3 (JLh (OW 1065 4 G2.av s17) (G6 O O) O (Hp (f:=G2.av) (xs:=s17) H7 O O (fun hm55=>?_) O O O)))))))
    obtain⟨v41,hv41,h⟩:=Hb h
    refine JLh (G1 v41) (G18 hv41 O O O) O (JLh (G1 v41) (Gb O O) O (G8 (hK40 _ _ (Gi ?_))))
    obtain⟨b100,hb100,h⟩:=G26 h
    refine Ha (fun i100 (s100:Int×(List Int)×(List Int))=>loop b100 i100 s100=some r) (fun i100 s100=>[(5,OW 1065 4 G2.av s17),(8,.vec 1068 0 1 ((List.replicate m25 (0:Int)).length)),(9,.vec 1069 0 1 ((List.replicate m27 (0:Int)).length)),(10,G1 s33.1),(11,G1 s33.2.1),(12,G1 s100.1)]) (fun i100 s100=>[(1061,.vec 86 4 counts_q (counts.map G2.av)),(1065,.spare 86 4 s17.length s17.length),(1068,.vec 3 1 0 (s100.2.1.map G1)),(1069,.vec 3 1 0 (s100.2.2.map G1))]) (fun i100=>i100) F (v41,s33.2.2.1,(s33.2.2.2.set s33.2.1.toNat (-1))) h ⟨(by repeat' constructor),⟨⟨_,rfl,.vec⟩,⟨_,rfl,.same⟩,⟨_,rfl,.vec⟩,⟨_,rfl,.vec⟩,G⟩,rfl⟩ ?_
    clear h
    intro i100 s100 hi100 K100 e100
    obtain⟨m100,nx100,hm_100,hn100,h⟩:=Zn hi100
    replace h:=Hbc hb100 h
    refine G5 (fun K101 hK101=>G5 fun K102 hK102=>G3 (JLh (G1 s100.1) (G6 O O) O (JLh (G1 s33.2.1) (G6 O O) O (JLh (BL (decide (s33.2.1 < s100.1))) (Zj O O O) O (G8 (hK102 _ _ (Gn O (fun hb=>?_) (fun hb=>?_))))))))
    ·
     replace h:=H1 hb h
     refine Gp (hK101 _ _ ?_)
     obtain⟨kj103,hkj103,h⟩:=Q7 h
     refine Jm (fun j103:(List Int)×(List Int)=>kj103 j103=some r) (fun j103=>[(5,OW 1065 4 G2.av s17),(8,.vec 1068 0 1 ((List.replicate m25 (0:Int)).length)),(9,.vec 1069 0 1 ((List.replicate m27 (0:Int)).length)),(10,G1 s33.1),(11,G1 s33.2.1),(12,G1 s100.1)]) (fun j103=>[(1061,.vec 86 4 counts_q (counts.map G2.av)),(1065,.spare 86 4 s17.length s17.length),(1068,.vec 3 1 0 (j103.1.map G1)),(1069,.vec 3 1 0 (j103.2.map G1))]) (fun Kj103 ej103=>?_) ?_
     ·
      refine Gi (G5 (fun K104 hK104=>Re (l':=[(5,OW 1065 4 G2.av s17),(8,.vec 1068 0 1 ((List.replicate m25 (0:Int)).length)),(9,.vec 1069 0 1 ((List.replicate m27 (0:Int)).length)),(10,G1 s33.1),(11,G1 s33.2.1),(12,G1 s100.1)]) (L':=[(1061,.vec 86 4 counts_q (counts.map G2.av)),(1065,.spare 86 4 s17.length s17.length),(1068,.vec 3 1 0 (s100.2.1.map G1)),(1069,.vec 3 1 0 (s100.2.2.map G1))]) ⟨(by repeat' constructor),⟨⟨_,rfl,.vec⟩,⟨_,rfl,.same⟩,⟨_,rfl,.vec⟩,⟨_,rfl,.vec⟩,G⟩,rfl⟩ ?_))
      obtain⟨m106,y105,hm106,hy105,h⟩:=Qk h
      obtain⟨m108,y107,hm108,hy107,h⟩:=Qk h
      obtain⟨y109,hy109,h⟩:=Gf h
      obtain⟨y110,hy110,h⟩:=Gf h
      obtain⟨y111,hy111,h⟩:=Gf h
      obtain⟨y112,hy112,h⟩:=Gf h
      refine Qt [] [0,0,0,0,0,0,0,0,0,0,0,0,0,0,0,0,0,0,0,0,0,0,0,0,0,0,0,0,0,0,0,0,0,0,0,0,0,0,0] [0,0,0,0,0,0,0,0,0,0,0,0,0,0,0,0,0,0,0,0,0,0,0,0,0,0,0,0,0,0,0,0,0,0,0,0,0,0,0] [[(1061,.vec 86 4 counts_q (counts.map G2.av)),(1065,.spare 86 4 s17.length s17.length),(1068,.vec 3 1 0 (s100.2.1.map G1)),(1069,.vec 3 1 0 (s100.2.2.map G1))]] Jr (by kernel_rfl) rfl rfl ?_
      refine Gm (u:=OW 1065 4 G2.av s17) O O ⟨Gs (G6 O O) O,G⟩ (Gm (u:=G1 s100.1) O O ⟨Gs (G6 O O) O,G⟩ (Gm (u:=Eg y105) O O ⟨Gs (Gz (f:=G2.av) (xs:=s17) (y:=y105) O O O H7 hy105 hm106) O,G⟩ (Gm (u:=Eg y105) O O ⟨Gs (Gd Ja O O O) O,G⟩ (Gm (u:=Eg y105) O O ⟨Gs (Gd Rk O O O) O,G⟩ (Gm (u:=G1 y105.Ga.Load) O O ⟨Gs (Gk Gc O O O) O,G⟩ (Gm (u:=OW 1065 4 G2.av s17) O O ⟨Gs (G6 O O) O,G⟩ (Gm (u:=G1 s33.2.1) O O ⟨Gs (G6 O O) O,G⟩ (Gm (u:=Eg y107) O O ⟨Gs (Gz (f:=G2.av) (xs:=s17) (y:=y107) O O O H7 hy107 hm108) O,G⟩ (Gm (u:=Eg y107) O O ⟨Gs (Gd Ja O O O) O,G⟩ (Gm (u:=Eg y107) O O ⟨Gs (Gd Rk O O O) O,G⟩ (Gm (u:=G1 y107.Ga.Load) O O ⟨Gs (Gk Gc O O O) O,G⟩ (Gm (u:=BL (decide (y107.Ga.Load < y105.Ga.Load))) O O ⟨Gs (Zj O O O) O,G⟩ (Gm (u:=BL (decide (y107.Ga.Load < y105.Ga.Load))) O O ⟨Gs (G6 O O) O,G⟩ ?_)))))))))))))
      refine Gm (u:=.opt (decide (y107.Ga.Load < y105.Ga.Load)) (OW 1065 4 G2.av s17)) O O ⟨He [] O O O .sct G (fun hc=>G6 O O) O,G⟩ (Gm (u:=.opt (decide (y107.Ga.Load < y105.Ga.Load)) (G1 s100.1)) O O ⟨He [] O O O .sct G (fun hc=>G6 O O) O,G⟩ (Gm (u:=.opt (decide (y107.Ga.Load < y105.Ga.Load)) (Eg y109)) O O ⟨He [(76,OW 1065 4 G2.av s17),(77,G1 s100.1)] O O O .sct ⟨.all id,.all id,G⟩ (fun hc=>(match Yi (H1 hc hy109) with | ⟨_,hm_,hy_⟩=>Gz (f:=G2.av) (xs:=s17) (y:=y109) O O O H7 hy_ hm_)) O,G⟩ (Gm (u:=.opt (decide (y107.Ga.Load < y105.Ga.Load)) (Eg y109)) O O ⟨He [(78,Eg y109)] O O O .sct ⟨.all id,G⟩ (fun hc=>Gd Ja O O O) O,G⟩ (Gm (u:=.opt (decide (y107.Ga.Load < y105.Ga.Load)) (.dptr ((G2.cs y109).drop 1))) O O ⟨He [(79,Eg y109)] O O O .sct ⟨.all id,G⟩ (fun hc=>Gd Rj O O O) O,G⟩ (Gm (u:=.opt (decide (y107.Ga.Load < y105.Ga.Load)) (G1 y109.Ga.Discharge)) O O ⟨He [(80,.dptr ((G2.cs y109).drop 1))] O O O .sct ⟨.all id,G⟩ (fun hc=>Gk Gc O O O) O,G⟩ (Gm (u:=.opt (decide (y107.Ga.Load < y105.Ga.Load)) (OW 1065 4 G2.av s17)) O O ⟨He [] O O O .sct G (fun hc=>G6 O O) O,G⟩ (Gm (u:=.opt (decide (y107.Ga.Load < y105.Ga.Load)) (G1 s33.2.1)) O O ⟨He [] O O O .sct G (fun hc=>G6 O O) O,G⟩ (Gm (u:=.opt (decide (y107.Ga.Load < y105.Ga.Load)) (Eg y110)) O O ⟨He [(82,OW 1065 4 G2.av s17),(83,G1 s33.2.1)] O O O .sct ⟨.all id,.all id,G⟩ (fun hc=>(match Yi (H1 hc hy110) with | ⟨_,hm_,hy_⟩=>Gz (f:=G2.av) (xs:=s17) (y:=y110) O O O H7 hy_ hm_)) O,G⟩ (Gm (u:=.opt (decide (y107.Ga.Load < y105.Ga.Load)) (Eg y110)) O O ⟨He [(84,Eg y110)] O O O .sct ⟨.all id,G⟩ (fun hc=>Gd Ja O O O) O,G⟩ (Gm (u:=.opt (decide (y107.Ga.Load < y105.Ga.Load)) (.dptr ((G2.cs y110).drop 1))) O O ⟨He [(85,Eg y110)] O O O .sct ⟨.all id,G⟩ (fun hc=>Gd Rj O O O) O,G⟩ (Gm (u:=.opt (decide (y107.Ga.Load < y105.Ga.Load)) (G1 y110.Ga.Discharge)) O O ⟨He [(86,.dptr ((G2.cs y110).drop 1))] O O O .sct ⟨.all id,G⟩ (fun hc=>Gk Gc O O O) O,G⟩ (Gm (u:=.opt (decide (y107.Ga.Load < y105.Ga.Load)) (BL (decide (y110.Ga.Discharge < y109.Ga.Discharge)))) O O ⟨He [(81,G1 y109.Ga.Discharge),(87,G1 y110.Ga.Discharge)] O O O .sct ⟨.all id,.all id,G⟩ (fun hc=>Zj O O O) O,G⟩ (Gm (u:=BL ((decide (y107.Ga.Load < y105.Ga.Load))&&(decide (y110.Ga.Discharge < y109.Ga.Discharge)))) O O ⟨Gs (Qc O O O O) O,G⟩ ?_)))))))))))))
      refine Gm (u:=BL ((decide (y107.Ga.Load < y105.Ga.Load))&&(decide (y110.Ga.Discharge < y109.Ga.Discharge)))) O O ⟨Gs (G6 O O) O,G⟩ (Gm (u:=.opt ((decide (y107.Ga.Load < y105.Ga.Load))&&(decide (y110.Ga.Discharge < y109.Ga.Discharge))) (.vec 1068 0 1 ((List.replicate m25 (0:Int)).length))) O O ⟨He [] O O O .sct G (fun hc=>G6 O O) O,G⟩ (Gm (u:=.opt ((decide (y107.Ga.Load < y105.Ga.Load))&&(decide (y110.Ga.Discharge < y109.Ga.Discharge))) (G1 s100.1)) O O ⟨He [] O O O .sct G (fun hc=>G6 O O) O,G⟩ (Gm (u:=.opt ((decide (y107.Ga.Load < y105.Ga.Load))&&(decide (y110.Ga.Discharge < y109.Ga.Discharge))) (.vptr 1068 0 s100.1.toNat 0)) O O ⟨He [(91,.vec 1068 0 1 ((List.replicate m25 (0:Int)).length)),(92,G1 s100.1)] O O O .sct ⟨.all id,.all id,G⟩ (fun hc=>Qu (f:=G1) (xs:=s100.2.1) (y:=y111) O O O O Gt (Qx (H1 hc hy111)) (G27 (H1 hc hy111))) O,G⟩ (Gm (u:=.opt ((decide (y107.Ga.Load < y105.Ga.Load))&&(decide (y110.Ga.Discharge < y109.Ga.Discharge))) (G1 y111)) O O ⟨He [(93,.vptr 1068 0 s100.1.toNat 0)] O O O .sct ⟨.all id,G⟩ (fun hc=>Yx (f:=G1) (xs:=s100.2.1) (y:=y111) Gc O O O (Qx (H1 hc hy111)) O O) O,G⟩ (Gm (u:=.opt ((decide (y107.Ga.Load < y105.Ga.Load))&&(decide (y110.Ga.Discharge < y109.Ga.Discharge))) (.vec 1068 0 1 ((List.replicate m25 (0:Int)).length))) O O ⟨He [] O O O .sct G (fun hc=>G6 O O) O,G⟩ (Gm (u:=.opt ((decide (y107.Ga.Load < y105.Ga.Load))&&(decide (y110.Ga.Discharge < y109.Ga.Discharge))) (G1 s33.2.1)) O O ⟨He [] O O O .sct G (fun hc=>G6 O O) O,G⟩ (Gm (u:=.opt ((decide (y107.Ga.Load < y105.Ga.Load))&&(decide (y110.Ga.Discharge < y109.Ga.Discharge))) (.vptr 1068 0 s33.2.1.toNat 0)) O O ⟨He [(95,.vec 1068 0 1 ((List.replicate m25 (0:Int)).length)),(96,G1 s33.2.1)] O O O .sct ⟨.all id,.all id,G⟩ (fun hc=>Qu (f:=G1) (xs:=s100.2.1) (y:=y112) O O O O Gt (Qx (H1 hc hy112)) (G27 (H1 hc hy112))) O,G⟩ (Gm (u:=.opt ((decide (y107.Ga.Load < y105.Ga.Load))&&(decide (y110.Ga.Discharge < y109.Ga.Discharge))) (G1 y112)) O O ⟨He [(97,.vptr 1068 0 s33.2.1.toNat 0)] O O O .sct ⟨.all id,G⟩ (fun hc=>Yx (f:=G1) (xs:=s100.2.1) (y:=y112) Gc O O O (Qx (H1 hc hy112)) O O) O,G⟩ (Gm (u:=.opt ((decide (y107.Ga.Load < y105.Ga.Load))&&(decide (y110.Ga.Discharge < y109.Ga.Discharge))) (BL (decide (y112≤y111)))) O O ⟨He [(94,G1 y111),(98,G1 y112)] O O O .sct ⟨.all id,.all id,G⟩ (fun hc=>G4b O O O) O,G⟩ (Gm (u:=BL (((decide (y107.Ga.Load < y105.Ga.Load))&&(decide (y110.Ga.Discharge < y109.Ga.Discharge)))&&(decide (y112≤y111)))) O O ⟨Gs (Qc O O O O) O,G⟩ (Zu ?_)))))))))))
      refine hK104 _ _ (Gn O (fun hb=>?_) (fun hb=>?_))
      ·
       replace h:=H1 hb h
       refine G3 (JLh (.vec 1068 0 1 ((List.replicate m25 (0:Int)).length)) (G6 O O) O (JLh (G1 s33.2.1) (G6 O O) O (JLh (.vec 1069 0 1 ((List.replicate m27 (0:Int)).length)) (G6 O O) O (JLh (G1 s33.2.1) (G6 O O) O (JLh (.vec 1068 0 1 ((List.replicate m25 (0:Int)).length)) (G6 O O) O (JLh (G1 s100.1) (G6 O O) O ?_))))))
       obtain⟨y113,hmy113,hy113,h⟩:=R2 h
       refine JLh (.vptr 1068 0 s100.1.toNat 0) (Qu (f:=G1) (xs:=s100.2.1) (y:=y113) O O O O Gt hy113 hmy113) O (JLh (G1 y113) (Yx (f:=G1) (xs:=s100.2.1) (y:=y113) Gc O O O hy113 O O) O (JLh (G1 s100.1) (G6 O O) O ?_))
       obtain⟨y114,hmy114,hy114,h⟩:=R2 h
       refine JLh (.vptr 1068 0 s33.2.1.toNat 0) (Qu (f:=G1) (xs:=s100.2.1) (y:=y114) O O O O Gt hy114 hmy114) O (Hg (u:=.junk) (G20 (f:=G1) (xs:=s100.2.1) (z:=y113) Qv O O O O (List.getElem?_eq_some_iff.1 hy114).1 O O O O) ?_)
       obtain⟨y115,hmy115,hy115,h⟩:=R2 h
       refine JLh (.vptr 1069 0 s33.2.1.toNat 0) (Qu (f:=G1) (xs:=s100.2.2) (y:=y115) O O O O Gt hy115 hmy115) O (Hg (u:=.junk) (G20 (f:=G1) (xs:=s100.2.2) (z:=s100.1) Qv O O O O (List.getElem?_eq_some_iff.1 hy115).1 O O O O) (G8 (ej103 _ _ ((s100.2.1.set s33.2.1.toNat y113),(s100.2.2.set s33.2.1.toNat s100.1)) h ⟨(by repeat' constructor),⟨⟨_,rfl,.vec⟩,⟨_,rfl,.same⟩,⟨_,rfl,.vec⟩,⟨_,rfl,.vec⟩,G⟩,rfl⟩)))
      ·
       replace h:=Hv hb h
       refine Gp (ej103 _ _ (s100.2.1,s100.2.2) h ⟨(by repeat' constructor),⟨⟨_,rfl,.vec⟩,⟨_,rfl,.same⟩,⟨_,rfl,.vec⟩,⟨_,rfl,.vec⟩,G⟩,rfl⟩)
     ·intro j103 h
      replace h:=app1 hkj103 h
      refine G3 (JLh (G1 s100.1) (G6 O O) O ?_)
      obtain⟨v116,hv116,h⟩:=Hb h
      refine JLh (G1 v116) (G18 hv116 O O O) O (JLh (G1 v116) (Gb O O) O (G8 (e100 _ _ m100 (v116,j103.1,j103.2) (app1 hn100 h) (by omega) ⟨(by repeat' constructor),⟨⟨_,rfl,.vec⟩,⟨_,rfl,.same⟩,⟨_,rfl,.vec⟩,⟨_,rfl,.vec⟩,G⟩,rfl⟩)))
    ·
     replace h:=Hv hb h
     refine Hi (hK39 _ _ (G5 (fun K117 hK117=>Re (l':=[(5,OW 1065 4 G2.av s17),(8,.vec 1068 0 1 ((List.replicate m25 (0:Int)).length)),(9,.vec 1069 0 1 ((List.replicate m27 (0:Int)).length)),(10,G1 s33.1),(11,G1 s33.2.1)]) (L':=[(1061,.vec 86 4 counts_q (counts.map G2.av)),(1065,.spare 86 4 s17.length s17.length),(1068,.vec 3 1 0 (s100.2.1.map G1)),(1069,.vec 3 1 0 (s100.2.2.map G1))]) ⟨(by repeat' constructor),⟨⟨_,rfl,.vec⟩,⟨_,rfl,.same⟩,⟨_,rfl,.vec⟩,⟨_,rfl,.vec⟩,G⟩,rfl⟩ ?_)))
     obtain⟨y118,hmy118,hy118,h⟩:=R2 h
     obtain⟨m120,y119,hm120,hy119,h⟩:=Qk h
     obtain⟨r121,hr121,h⟩:=Gf h
     obtain⟨v122,hv122,h⟩:=Hb h
     obtain⟨y123,hmy123,hy123,h⟩:=R2 h
     refine Qt [11] [0,0,0,0,0,0,0,0,0,0,0,0] [0,0,0,0,0,0,0,0,0,0,0,0] [[(1061,.vec 86 4 counts_q (counts.map G2.av)),(1065,.spare 86 4 s17.length s17.length),(1068,.vec 3 1 0 (s100.2.1.map G1)),(1069,.vec 3 1 0 (s100.2.2.map G1))],((1068,.vec 3 1 0 ((s100.2.1.set s33.2.1.toNat v122).map G1))::[(1061,.vec 86 4 counts_q (counts.map G2.av)),(1065,.spare 86 4 s17.length s17.length),(1068,.vec 3 1 0 (s100.2.1.map G1)),(1069,.vec 3 1 0 (s100.2.2.map G1))])] Jr (by kernel_rfl) rfl rfl ?_
     refine Gm (u:=.vec 1068 0 1 ((List.replicate m25 (0:Int)).length)) O O ⟨Gs (G6 O O) O,G⟩ (Gm (u:=G1 s33.2.1) O O ⟨Gs (G6 O O) O,G⟩ (Gm (u:=.vptr 1068 0 s33.2.1.toNat 0) O O ⟨Gs (Qu (f:=G1) (xs:=s100.2.1) (y:=y118) O O O O Gt hy118 hmy118) O,G⟩ (Gm (u:=G1 y118) O O ⟨Gs (Yx (f:=G1) (xs:=s100.2.1) (y:=y118) Gc O O O hy118 O O) O,G⟩ (Gm (u:=OW 1065 4 G2.av s17) O O ⟨Gs (G6 O O) O,G⟩ (Gm (u:=G1 s33.2.1) O O ⟨Gs (G6 O O) O,G⟩ (Gm (u:=Eg y119) O O ⟨Gs (Gz (f:=G2.av) (xs:=s17) (y:=y119) O O O H7 hy119 hm120) O,G⟩ (Gm (u:=.agg (G2.cs y119)) O O ⟨Gs (Gh Qn O O O) O,G⟩ (Gm (u:=G1 r121) O O ⟨Gs (Gy (args:=[.agg (G2.cs y119)]) O (H26 y119 r121 hr121) J66 ⟨O,O,G⟩) O,G⟩ (Gm (u:=G1 v122) O O ⟨Gs (Ht hv122 O O O) O,G⟩ (Gm (u:=.vptr 1068 0 s33.2.1.toNat 0) O O ⟨Gs (Qu (f:=G1) (xs:=s100.2.1) (y:=y123) O O O O Gt hy123 hmy123) O,G⟩ ?_))))))))))
     refine J3e (u:=.junk) O O O O (Gs (G20 (f:=G1) (xs:=s100.2.1) (z:=v122) Qv O O O O (List.getElem?_eq_some_iff.1 hy123).1 O O O O) O) (Zu (hK117 _ _ (G5 (fun K124 hK124=>Re (l':=[(5,OW 1065 4 G2.av s17),(8,.vec 1068 0 1 ((List.replicate m25 (0:Int)).length)),(9,.vec 1069 0 1 ((List.replicate m27 (0:Int)).length)),(10,G1 s33.1),(11,G1 s33.2.1)]) (L':=[(1061,.vec 86 4 counts_q (counts.map G2.av)),(1065,.spare 86 4 s17.length s17.length),(1068,.vec 3 1 0 ((s100.2.1.set s33.2.1.toNat v122).map G1)),(1069,.vec 3 1 0 (s100.2.2.map G1))]) ⟨(by repeat' constructor),⟨⟨_,rfl,.vec⟩,⟨_,rfl,.same⟩,⟨_,rfl,.vec⟩,⟨_,rfl,.vec⟩,G⟩,rfl⟩ ?_))))
     obtain⟨y125,hy125,h⟩:=Gf h
     obtain⟨y126,hy126,h⟩:=Gf h
     refine Qt [] [0,0,0,0,0,0,0,0,0,0,0,0,0] [0,0,0,0,0,0,0,0,0,0,0,0,0] [[(1061,.vec 86 4 counts_q (counts.map G2.av)),(1065,.spare 86 4 s17.length s17.length),(1068,.vec 3 1 0 ((s100.2.1.set s33.2.1.toNat v122).map G1)),(1069,.vec 3 1 0 (s100.2.2.map G1))]] Jr (by kernel_rfl) rfl rfl ?_
     refine Gm (u:=G1 s33.1) O O ⟨Gs (G6 O O) O,G⟩ (Gm (u:=BL (decide (s33.1 < 0))) O O ⟨Gs (J2 O O O) O,G⟩ (Gm (u:=BL (decide (s33.1 < 0))) O O ⟨Gs (G6 O O) O,G⟩ (Gm (u:=.opt (!(decide (s33.1 < 0))) (.vec 1068 0 1 ((List.replicate m25 (0:Int)).length))) O O ⟨He [] O O O .scf G (fun hc=>G6 O O) O,G⟩ (Gm (u:=.opt (!(decide (s33.1 < 0))) (G1 s33.2.1)) O O ⟨He [] O O O .scf G (fun hc=>G6 O O) O,G⟩ (Gm (u:=.opt (!(decide (s33.1 < 0))) (.vptr 1068 0 s33.2.1.toNat 0)) O O ⟨He [(126,.vec 1068 0 1 ((List.replicate m25 (0:Int)).length)),(127,G1 s33.2.1)] O O O .scf ⟨.all id,.all id,G⟩ (fun hc=>Qu (f:=G1) (xs:=(s100.2.1.set s33.2.1.toNat v122)) (y:=y125) O O O O Gt (Qx (H1 hc hy125)) (G27 (H1 hc hy125))) O,G⟩ (Gm (u:=.opt (!(decide (s33.1 < 0))) (G1 y125)) O O ⟨He [(128,.vptr 1068 0 s33.2.1.toNat 0)] O O O .scf ⟨.all id,G⟩ (fun hc=>Yx (f:=G1) (xs:=(s100.2.1.set s33.2.1.toNat v122)) (y:=y125) Gc O O O (Qx (H1 hc hy125)) O O) O,G⟩ (Gm (u:=.opt (!(decide (s33.1 < 0))) (.vec 1068 0 1 ((List.replicate m25 (0:Int)).length))) O O ⟨He [] O O O .scf G (fun hc=>G6 O O) O,G⟩ (Gm (u:=.opt (!(decide (s33.1 < 0))) (G1 s33.1)) O O ⟨He [] O O O .scf G (fun hc=>G6 O O) O,G⟩ (Gm (u:=.opt (!(decide (s33.1 < 0))) (.vptr 1068 0 s33.1.toNat 0)) O O ⟨He [(130,.vec 1068 0 1 ((List.replicate m25 (0:Int)).length)),(131,G1 s33.1)] O O O .scf ⟨.all id,.all id,G⟩ (fun hc=>Qu (f:=G1) (xs:=(s100.2.1.set s33.2.1.toNat v122)) (y:=y126) O O O O Gt (Qx (H1 hc hy126)) (G27 (H1 hc hy126))) O,G⟩ (Gm (u:=.opt (!(decide (s33.1 < 0))) (G1 y126)) O O ⟨He [(132,.vptr 1068 0 s33.1.toNat 0)] O O O .scf ⟨.all id,G⟩ (fun hc=>Yx (f:=G1) (xs:=(s100.2.1.set s33.2.1.toNat v122)) (y:=y126) Gc O O O (Qx (H1 hc hy126)) O O) O,G⟩ (Gm (u:=.opt (!(decide (s33.1 < 0))) (BL (decide (y126≤y125)))) O O ⟨He [(129,G1 y125),(133,G1 y126)] O O O .scf ⟨.all id,.all id,G⟩ (fun hc=>G4b O O O) O,G⟩ (Gm (u:=BL ((decide (s33.1 < 0))||(decide (y126≤y125)))) O O ⟨Gs (G2a O O O O) O,G⟩ (Zu ?_)))))))))))))
     refine hK124 _ _ (Gn O (fun hb=>?_) (fun hb=>?_))
     ·
      replace h:=H1 hb h
      refine G3 (JLh (G1 s33.2.1) (G6 O O) O (JLh (G1 s33.2.1) (Gb O O) O (G8 (ej36 _ _ (s33.2.1,(s100.2.1.set s33.2.1.toNat v122),s100.2.2) h ⟨(by repeat' constructor),⟨⟨_,rfl,.vec⟩,⟨_,rfl,.same⟩,⟨_,rfl,.vec⟩,⟨_,rfl,.vec⟩,G⟩,rfl⟩))))
     ·
      replace h:=Hv hb h
      refine Gp (ej36 _ _ (s33.1,(s100.2.1.set s33.2.1.toNat v122),s100.2.2) h ⟨(by repeat' constructor),⟨⟨_,rfl,.vec⟩,⟨_,rfl,.same⟩,⟨_,rfl,.vec⟩,⟨_,rfl,.vec⟩,G⟩,rfl⟩)
   ·intro j36 h
    replace h:=app1 hkj36 h
    refine G3 (JLh (G1 s33.2.1) (G6 O O) O ?_)
    obtain⟨v127,hv127,h⟩:=Hb h
    refine JLh (G1 v127) (G18 hv127 O O O) O (JLh (G1 v127) (Gb O O) O (G8 (e33 _ _ m33 (j36.1,v127,j36.2.1,j36.2.2) (app1 hn33 h) (by omega) ⟨(by repeat' constructor),⟨⟨_,rfl,.vec⟩,⟨_,rfl,.same⟩,⟨_,rfl,.vec⟩,⟨_,rfl,.vec⟩,G⟩,rfl⟩)))
  ·
   replace h:=Hv hb h
   refine Hi (hK30 _ _ (G5 fun K128 hK128=>G3 (JLh (OW 1067 4 G2.av ([]:List G2)) (Zv 1067 86 4 O O O) O (G8 (hK128 _ _ (G5 (fun K129 hK129=>G5 fun K130 hK130=>G3 (JLh (G1 s33.1) (G6 O O) O (JLh (G1 s33.1) (Gb O O) O (G8 (hK130 _ _ (Gi ?_))))))))))))
   obtain⟨b142,hb142,h⟩:=G26 h
   refine Ha (fun i142 (s142:(List G2)×Int)=>loop b142 i142 s142=some r) (fun i142 s142=>[(5,OW 1065 4 G2.av s17),(9,.vec 1069 0 1 ((List.replicate m27 (0:Int)).length)),(13,OW 1067 4 G2.av s142.1),(14,G1 s142.2)]) (fun i142 s142=>[(1061,.vec 86 4 counts_q (counts.map G2.av)),(1065,.spare 86 4 s17.length s17.length),(1068,.vec 3 1 0 (s33.2.2.1.map G1)),(1069,.vec 3 1 0 (s33.2.2.2.map G1)),(1067,.spare 86 4 s142.1.length s142.1.length)]) (fun i142=>i142) F ([],s33.1) h ⟨(by repeat' constructor),⟨⟨_,rfl,.vec⟩,⟨_,rfl,.same⟩,⟨_,rfl,.vec⟩,⟨_,rfl,.vec⟩,⟨_,rfl,.same⟩,G⟩,rfl⟩ ?_
   clear h
   intro i142 s142 hi142 K142 e142
   obtain⟨m142,nx142,hm_142,hn142,h⟩:=Zn hi142
   replace h:=Hbc hb142 h
   refine G5 (fun K143 hK143=>G5 fun K144 hK144=>G3 (JLh (G1 s142.2) (G6 O O) O (JLh (BL (decide (0≤s142.2))) (G4b O O O) O (G8 (hK144 _ _ (Gn O (fun hb=>?_) (fun hb=>?_)))))))
   ·
    replace h:=H1 hb h
    refine Gp (hK143 _ _ (G5 (fun K145 hK145=>Gi (G3 (JLh (OW 1067 4 G2.av s142.1) (G6 O O) O (JLh (OW 1065 4 G2.av s17) (G6 O O) O (JLh (G1 s142.2) (G6 O O) O ?_)))))))
    obtain⟨m147,y146,hm147,hy146,h⟩:=Qk h
    refine JLh (Eg y146) (Gz (f:=G2.av) (xs:=s17) (y:=y146) O O O H7 hy146 hm147) O (JLh (.agg (G2.cs y146)) (Gh Qn O O O) O (JLh (E4 [y146]) (Hf (xs:=[.agg (G2.cs y146)]) O ⟨O,O,G⟩ H7 Qi O O O O) O ?_))
    obtain⟨ha148,h⟩:=Hz h
    refine JLh (OW 1067 4 G2.av (s142.1++[y146])) (Q5 (f:=G2.av) (xs:=s142.1) (ys:=[y146]) O O O O H7 G66 ha148 (fun _=>O) (.inl O) O) O (JLh (OW 1067 4 G2.av (s142.1++[y146])) (Gb O O) O (G8 (hK145 _ _ (G3 (JLh (.vec 1069 0 1 ((List.replicate m27 (0:Int)).length)) (G6 O O) O (JLh (G1 s142.2) (G6 O O) O ?_))))))
    obtain⟨y149,hmy149,hy149,h⟩:=R2 h
    refine JLh (.vptr 1069 0 s142.2.toNat 0) (Qu (f:=G1) (xs:=s33.2.2.2) (y:=y149) O O O O Gt hy149 hmy149) O (JLh (G1 y149) (Yx (f:=G1) (xs:=s33.2.2.2) (y:=y149) Gc O O O hy149 O O) O (JLh (G1 y149) (Gb O O) O (G8 (e142 _ _ m142 ((s142.1++[y146]),y149) (app1 hn142 h) (by omega) ⟨(by repeat' constructor),⟨⟨_,rfl,.vec⟩,⟨_,rfl,.same⟩,⟨_,rfl,.vec⟩,⟨_,rfl,.vec⟩,⟨_,rfl,.same⟩,G⟩,rfl⟩))))
   ·
    replace h:=Hv hb h
    refine Hi (hK129 _ _ (G5 fun K150 hK150=>G3 (JLh (OW 1067 4 G2.av s142.1) (G6 O O) O (JLh (OW 1067 4 G2.av s142.1) (Gb O O) O (G8 (hK150 _ _ (Gx ?_)))))))
    obtain rfl:=Option.some.inj h
    exact⟨[E4 s142.1],[(1061,.vec 86 4 counts_q (counts.map G2.av))],⟨⟨_,O,.vec⟩,G⟩,O,⟨⟨_,O,.conv (.list O)⟩,G⟩,O,O⟩

def Q0 (F:Nat) (s:List G2) (del:G2→Option Bool):Option (List G2):=
 bnd (Q3 s del) fun r3=>
 bif decide (r3=(-1)) then
 (some s)
 else
 (Rn (r3+1) fun v9=>
  loop (fun nx48 (s48:Int×Int×(List G2))=>
   bif decide (s48.2.1 < (s48.2.2.length:Int)) then
   (jp (fun kj51=>
     Rm s48.2.2 s48.2.1 fun y53=>
     bnd (del y53) fun r55=>
     bif (!r55) then
     (Rm s48.2.2 s48.1 fun y57=>
      Rn (s48.1+1) fun v58=>
      kj51 (v58,(s48.2.2.set s48.1.toNat y53)))
     else
     (kj51 (s48.1,s48.2.2))) fun(j51:Int×(List G2))=>
    Rn (s48.2.1+1) fun v59=>
    nx48 (j51.1,v59,j51.2))
   else
   (bnd (Ga8 s48.1 s48.2.2.length) fun m61=>
    bnd (Ga8 s48.1 (blank s48.2.2 m61 (s48.2.2.length - m61) (G2.mk (Ga.mk 0 0) 0 0)).length) fun m63=>
    some ((blank s48.2.2 m61 (s48.2.2.length - m61) (G2.mk (Ga.mk 0 0) 0 0)).take m63))) F (r3,v9,s))
theorem G2d (F:Nat) (s:List G2) (s_q:Nat) (del:G2→Option Bool) (del_f:FuncId) (del_c:List AV) (del_B:Ho Tryz.prog del_f=true) (del_d:Rs (fun _=>false) del_c=true) (del_w:∀ a0 q,del a0=some q→Pure Tryz.prog del_f ([.agg (G2.cs a0)]++del_c) (·=BL q)) (r:(List G2)) (h:Q0 F s del=some r):Qq Tryz.prog 20 [.vec 1061 s_q 4 s.length,.fn del_f del_c] [(1061,.vec 86 4 s_q (s.map G2.av))] (fun av L'=>∃ p:Nat,av=.vec 1061 p 4 r.length∧L'=[(1061,.vec 86 4 p (r.map G2.av))]):=by
 unfold Q0 at h
 refine Zw [1061] [.tmp 4] Tryz.func20 O O (H64 O) (G5 fun K1 hK1=>G3 (JLh (.vec 1075 (([]:List G2).length) 4 (([]:List G2).length)) (Hc3 1075 86 4 O O O) O (G8 (hK1 _ _ (G5 fun K2 hK2=>G3 (JLh (.vec 1061 s_q 4 s.length) (G6 O O) O (JLh (.fn del_f del_c) (G6 O O) O ?_)))))))
 obtain⟨r3,hr3,h⟩:=Gf h
 refine JLh (G1 r3) (Ja8 (args:=[E4 s,.fn del_f del_c]) O (G17 s del del_f del_c del_B del_d del_w r3 hr3) J65 ⟨.vec O,.data O del_d,G⟩ O) O (JLh (G1 r3) (Gb O O) O (G8 (hK2 _ _ (G5 (fun K4 hK4=>G5 fun K5 hK5=>G3 (JLh (G1 r3) (G6 O O) O (JLh (BL (decide (r3=(-1)))) (Qh O O O) O (G8 (hK5 _ _ (Gn O (fun hb=>?_) (fun hb=>?_)))))))))))
 ·
  replace h:=H1 hb h
  refine G5 fun K6 hK6=>G3 (JLh (.vec 1061 s_q 4 s.length) (G6 O O) O (JLh (.vec 1061 s_q 4 s.length) (Gb O O) O (G8 (hK6 _ _ (H4b 4 O O (fun hn_=>Gx ?_))))))
  obtain rfl:=Option.some.inj h
  exact⟨[.vec 1061 s_q 4 s.length],[(1061,.vec 86 4 s_q (s.map G2.av))],⟨⟨_,O,.vec⟩,G⟩,O,⟨⟨_,O,.conv (.same O)⟩,G⟩,s_q,congrArg (fun n_:Nat=>(.vec 1061 s_q 4 n_:AV)) (hn_.trans (List.length_map _)),O⟩
 ·
  replace h:=Hv hb h
  refine Gp (hK4 _ _ (G5 (fun K7 hK7=>G5 fun K8 hK8=>G3 (JLh (G1 r3) (G6 O O) O ?_))))
  obtain⟨v9,hv9,h⟩:=Hb h
  refine JLh (G1 v9) (Ht hv9 O O O) O (JLh (G1 v9) (Gb O O) O (G8 (hK8 _ _ (Gi ?_))))
  obtain⟨b48,hb48,h⟩:=G26 h
  refine Ha (fun i48 (s48:Int×Int×(List G2))=>loop b48 i48 s48=some r) (fun i48 s48=>[(0,.vec 1061 s_q 4 s.length),(1,.fn del_f del_c),(5,G1 s48.1),(6,G1 s48.2.1)]) (fun i48 s48=>[(1061,.vec 86 4 s_q (s48.2.2.map G2.av)),(1075,.vec 86 4 (([]:List G2).length) (([]:List G2).map G2.av))]) (fun i48=>i48) F (r3,v9,s) h ⟨⟨.same O,.same (Hx _ _ del_d),.same O,.same O,G⟩,⟨⟨_,O,.vec⟩,⟨_,O,.vec⟩,G⟩,O⟩ ?_
  clear h
  intro i48 s48 hi48 K48 e48
  obtain⟨m48,nx48,hm_48,hn48,h⟩:=Zn hi48
  replace h:=Hbc hb48 h
  refine G5 (fun K49 hK49=>G5 fun K50 hK50=>G3 (JLh (G1 s48.2.1) (G6 O O) O (JLh (.vec 1061 s_q 4 s.length) (G6 O O) O (H73 (f:=G2.av) (xs:=s48.2.2) H7 O O O (fun hm18=>?_) O O O))))
  refine JLh (BL (decide (s48.2.1 < (s48.2.2.length:Int)))) (J2 O O O) O (G8 (hK50 _ _ (Gn O (fun hb=>?_) (fun hb=>?_))))
  ·
   replace h:=H1 hb h
   refine Gp (hK49 _ _ ?_)
   obtain⟨kj51,hkj51,h⟩:=Q7 h
   refine Jm (fun j51:Int×(List G2)=>kj51 j51=some r) (fun j51=>[(0,.vec 1061 s_q 4 s.length),(1,.fn del_f del_c),(5,G1 j51.1),(6,G1 s48.2.1)]) (fun j51=>[(1061,.vec 86 4 s_q (j51.2.map G2.av)),(1075,.vec 86 4 (([]:List G2).length) (([]:List G2).map G2.av))]) (fun Kj51 ej51=>?_) ?_
   ·
    refine Gi (G5 fun K52 hK52=>G3 (JLh (.vec 1061 s_q 4 s.length) (G6 O O) O (JLh (G1 s48.2.1) (G6 O O) O ?_)))
    obtain⟨y53,hmy53,hy53,h⟩:=R2 h
    refine JLh (.vptr 1061 s_q s48.2.1.toNat 0) (Qu (f:=G2.av) (xs:=s48.2.2) (y:=y53) O O O O H7 hy53 hmy53) O (JLh (.agg (G2.cs y53)) (J32 (f:=G2.av) (xs:=s48.2.2) (y:=y53) Qn O O O hy53 O O) O (JLh (.ptr 1076 0) (Hh 1076 4 Qi O O) O (Hg (u:=.junk) (H5 (u:=.agg (G2.cs y53)) (ds:=[G1 y53.Ga.Load,G1 y53.Ga.Discharge,G1 y53.Whole,G1 y53.Half]) Zm O O O O O O O O) (G8 (hK52 _ _ ?_)))))
    refine Gq [(0,.vec 1061 s_q 4 s.length),(1,.fn del_f del_c),(5,G1 s48.1),(6,G1 s48.2.1),(7,Eg y53)] [(1061,.vec 86 4 s_q (s48.2.2.map G2.av)),(1075,.vec 86 4 (([]:List G2).length) (([]:List G2).map G2.av))] 1076 rfl rfl rfl ⟨⟨_,rfl,.vec⟩,⟨_,rfl,.vec⟩,G⟩ rfl (by exact⟨.conv (.same rfl),.conv (.same (Hx _ _ del_d)),.conv (.same rfl),.conv (.same rfl),.ptr,G⟩) (G5 fun K54 hK54=>G3 (JLh (.fn del_f del_c) (G6 O O) O (JLh (.agg (G2.cs y53)) (Gh Qn O O O) O ?_)))
    obtain⟨r55,hr55,h⟩:=Gf h
    refine JLh (BL r55) (Yy (args:=[.agg (G2.cs y53)]) (caps:=del_c) O O (del_w y53 _ hr55) del_B ⟨O,O,G⟩ del_d) O (JLh (BL (!r55)) (Zy (b:=r55) O O) O (G8 (hK54 _ _ (Gn O (fun hb=>?_) (fun hb=>?_)))))
    ·
     replace h:=H1 hb h
     refine G5 fun K56 hK56=>G3 (JLh (.vec 1061 s_q 4 s.length) (G6 O O) O (JLh (G1 s48.1) (G6 O O) O (JLh (.agg (G2.cs y53)) (Gh Qn O O O) O ?_)))
     obtain⟨y57,hmy57,hy57,h⟩:=R2 h
     refine JLh (.vptr 1061 s_q s48.1.toNat 0) (Qu (f:=G2.av) (xs:=s48.2.2) (y:=y57) O O O O H7 hy57 hmy57) O (Hg (u:=.junk) (G20 (f:=G2.av) (xs:=s48.2.2) (z:=y53) Zm O O O O (List.getElem?_eq_some_iff.1 hy57).1 O O O O) (G8 (hK56 _ _ (G3 (JLh (G1 s48.1) (G6 O O) O ?_)))))
     obtain⟨v58,hv58,h⟩:=Hb h
     refine JLh (G1 v58) (Ht hv58 O O O) O (JLh (G1 v58) (Gb O O) O (G8 (ej51 _ _ (v58,(s48.2.2.set s48.1.toNat y53)) h ⟨⟨.same O,.same (Hx _ _ del_d),.same O,.same O,G⟩,⟨⟨_,O,.vec⟩,⟨_,O,.vec⟩,G⟩,O⟩)))
    ·
     replace h:=Hv hb h
     refine Gp (ej51 _ _ (s48.1,s48.2.2) h ⟨⟨.same O,.same (Hx _ _ del_d),.same O,.same O,G⟩,⟨⟨_,O,.vec⟩,⟨_,O,.vec⟩,G⟩,O⟩)
   ·intro j51 h
    replace h:=app1 hkj51 h
    refine G3 (JLh (G1 s48.2.1) (G6 O O) O ?_)
    obtain⟨v59,hv59,h⟩:=Hb h
    refine JLh (G1 v59) (Ht hv59 O O O) O (JLh (G1 v59) (Gb O O) O (G8 (e48 _ _ m48 (j51.1,v59,j51.2) (app1 hn48 h) (by omega) ⟨⟨.same rfl,.same (Hx _ _ del_d),.same rfl,.same rfl,G⟩,⟨⟨_,rfl,.vec⟩,⟨_,rfl,.vec⟩,G⟩,rfl⟩)))
  ·
   replace h:=Hv hb h
   refine Hi (hK7 _ _ (G5 fun K60 hK60=>G3 (JLh (.vec 1061 s_q 4 s.length) (G6 O O) O (JLh (G1 s48.1) (G6 O O) O ?_))))
   obtain⟨m61,hm61,h⟩:=Gf h
   refine JLh (.vsl 1061 s_q 4 m61 (s48.2.2.length - m61)) (H94 (f:=G2.av) (xs:=s48.2.2) O O O O H7 (Yo hm61)) O (Hg (u:=.tup []) (Jdc (f:=G2.av) (xs:=s48.2.2) (off:=m61) (n:=(s48.2.2.length - m61)) (G2.mk (Ga.mk 0 0) 0 0) [.int .i64 0,.int .i64 0,.int .i64 0,.int .i64 0] O H7 (.inr O) O Jdd O O O ⟨.inl O,.inl O,.inl O,.inl O,G⟩) (G8 (hK60 _ _ (G5 fun K62 hK62=>G3 (JLh (.vec 1061 s_q 4 s.length) (G6 O O) O (JLh (G1 s48.1) (G6 O O) O ?_))))))
   obtain⟨m63,hm63,h⟩:=Gf h
   refine JLh (.vec 1061 (s_q+1) 4 (((blank s48.2.2 m61 (s48.2.2.length - m61) (G2.mk (Ga.mk 0 0) 0 0)).take m63).length)) (Jd6 (f:=G2.av) (xs:=(blank s48.2.2 m61 (s48.2.2.length - m61) (G2.mk (Ga.mk 0 0) 0 0))) O O O O H7 (Yo hm63)) O (JLh (.vec 1061 (s_q+1) 4 (((blank s48.2.2 m61 (s48.2.2.length - m61) (G2.mk (Ga.mk 0 0) 0 0)).take m63).length)) (Gb O O) O (G8 (hK62 _ _ (H4b 4 O O (fun hn_=>Gx ?_)))))
   obtain rfl:=Option.some.inj h
   exact⟨[.vec 1061 (s_q+1) 4 (((blank s48.2.2 m61 (s48.2.2.length - m61) (G2.mk (Ga.mk 0 0) 0 0)).take m63).length)],[(1061,.vec 86 4 (s_q+1) (((blank s48.2.2 m61 (s48.2.2.length - m61) (G2.mk (Ga.mk 0 0) 0 0)).take m63).map G2.av))],⟨⟨_,O,.vec⟩,G⟩,O,⟨⟨_,O,.conv (.same O)⟩,G⟩,(s_q+1),congrArg (fun n_:Nat=>(.vec 1061 (s_q+1) 4 n_:AV)) (hn_.trans (List.length_map _)),O⟩
end
end Go.Proofs.YteoeccjboahfgaaGreat
