/-
 Models of functions of the program,and that they return what the models say.
-/
import Derived.Test.YteogacmpgdpjlaaGreatXM
set_option maxRecDepth 100000
namespace Go.Proofs.YteogacmpgdpjlaaGreat
open Go.RowKit
noncomputable section
structure Gw where
 id:Int
 in_:Bool
 deriving DecidableEq,Inhabited
def Gw.cs (x:Gw):List AV:=[G0 x.id,BL x.in_]
def Gw.av (x:Gw):AV:=.agg x.cs
abbrev Ec:=LS 2 Gw.av
namespace XPF
open XAF
open XLF
open XSF
open XMF
theorem tq_72 (a b:Hh):H61 En 4 72 [.int .i64 a.Bay,.int .i64 a.Phase,.int .i64 a.Lifts,.int .i64 a.Covers] [.int .i64 b.Bay,.int .i64 b.Phase,.int .i64 b.Lifts,.int .i64 b.Covers]=some (decide (a=b)):=by
 refine(show _=some ((a.Bay==b.Bay)&&((a.Phase==b.Phase)&&((a.Lifts==b.Lifts)&&((a.Covers==b.Covers)&&true)))) by kernel_rfl).trans (congrArg some ?_)
 rw [Bool.eq_iff_iff]
 simp only [Bool.and_eq_true,beq_iff_eq,decide_eq_true_eq,Bool.and_true]
 constructor
 ·intro h; obtain⟨_,_,_,_⟩:=a; obtain⟨_,_,_,_⟩:=b; simp_all
 ·intro h; subst h; simp
theorem J09:G30 En 72=true:=by kernel_rfl
theorem Qfc:Hb En 10=true:=by kernel_rfl
theorem Qb3:Hb En 100=true:=by kernel_rfl
theorem Qb2:Hb En 101=true:=by kernel_rfl
theorem Qb1:Hb En 102=true:=by kernel_rfl
theorem Qb0:Hb En 103=true:=by kernel_rfl
theorem Qaf:Hb En 104=true:=by kernel_rfl
theorem Qae:Hb En 105=true:=by kernel_rfl
theorem Jca:Hb En 106=true:=by kernel_rfl
theorem Qad:Hb En 107=true:=by kernel_rfl
theorem J08:Hb En 108=true:=by kernel_rfl
theorem Zu:Hb En 109=true:=by kernel_rfl
theorem Q2b:Hb En 11=true:=by kernel_rfl
theorem Qac:Hb En 110=true:=by kernel_rfl
theorem Jc9:Hb En 111=true:=by kernel_rfl
theorem Qfb:Hb En 12=true:=by kernel_rfl
theorem Qfa:Hb En 13=true:=by kernel_rfl
theorem Q2a:Hb En 14=true:=by kernel_rfl
theorem H89:Hb En 145=true:=by kernel_rfl
theorem Jc5:Hb En 146=true:=by kernel_rfl
theorem Jc4:Hb En 147=true:=by kernel_rfl
theorem Jc3:Hb En 148=true:=by kernel_rfl
theorem Qf9:Hb En 15=true:=by kernel_rfl
theorem Q29:Hb En 16=true:=by kernel_rfl
theorem Q28:Hb En 17=true:=by kernel_rfl
theorem Qf8:Hb En 18=true:=by kernel_rfl
theorem Q27:Hb En 19=true:=by kernel_rfl
theorem Qf0:Hb En 29=true:=by kernel_rfl
theorem Hd4:Hb En 30=true:=by kernel_rfl
theorem Q24:Hb En 31=true:=by kernel_rfl
theorem Qef:Hb En 32=true:=by kernel_rfl
theorem Qee:Hb En 33=true:=by kernel_rfl
theorem Qed:Hb En 34=true:=by kernel_rfl
theorem Qec:Hb En 35=true:=by kernel_rfl
theorem Qeb:Hb En 36=true:=by kernel_rfl
theorem Qea:Hb En 37=true:=by kernel_rfl
theorem tf_call_4:Hb En 4=true:=by kernel_rfl
theorem Q71:Hb En 5=true:=by kernel_rfl
theorem Q19:Hb En 59=true:=by kernel_rfl
theorem tf_call_6:Hb En 6=true:=by kernel_rfl
theorem Gdb:Hb En 60=true:=by kernel_rfl
theorem Qe3:Hb En 61=true:=by kernel_rfl
theorem Q18:Hb En 62=true:=by kernel_rfl
theorem Qe2:Hb En 63=true:=by kernel_rfl
theorem Q17:Hb En 64=true:=by kernel_rfl
theorem Qe1:Hb En 65=true:=by kernel_rfl
theorem Q16:Hb En 66=true:=by kernel_rfl
theorem Q14:Hb En 68=true:=by kernel_rfl
theorem Qe0:Hb En 69=true:=by kernel_rfl
theorem tf_call_7:Hb En 7=true:=by kernel_rfl
theorem Q70:Hb En 8=true:=by kernel_rfl
theorem Q6f:Hb En 9=true:=by kernel_rfl
theorem Q0f:Hb En 99=true:=by kernel_rfl
theorem Q8b:G19 En 123 2 16=true:=by kernel_rfl
theorem tf_elem_4:G19 En 4 1 1=true:=by kernel_rfl
theorem Ja0:En.eqGuardType En.depth 72=false:=by kernel_rfl
theorem G09:Qa En 123 0 0=true:=by kernel_rfl
theorem Gf3:Qa En 123 1 1=true:=by kernel_rfl
theorem Q68:placesOf En 123=some [(0,1),(1,1)]:=by kernel_rfl
theorem Q7d:placesOf En 32=some [(0,1),(1,1),(2,4),(6,1),(7,1),(8,1),(9,4)]:=by kernel_rfl
theorem Q6c:Yp En 4 1=true:=by kernel_rfl
theorem Qq:sliceB En 119 123 2=true:=by kernel_rfl
theorem Hce:sliceB En 126 4 1=true:=by kernel_rfl
theorem Q82:(En.info? 123).bind (fun i=>i.zero.map Value.cells)=some (List.toArray [.int .i64 0,.bool false]):=by kernel_rfl
theorem tf_zero_4:(En.info? 4).bind (fun i=>i.zero.map Value.cells)=some (List.toArray [.bool false]):=by kernel_rfl
theorem Q7a:Yo En 123 2=true:=by kernel_rfl
theorem Jbd:Yo En 32 13=true:=by kernel_rfl
end XPF
open XAF
open XLF
open XSF
open XMF
open XPF

def G31 (s:H8) (boxes:List H2):Option Bool:=
 bif (((decide (12 < (s.Columns.length:Int)))||(decide (12 < (s.Covers.length:Int))))||(decide (30 < (boxes.length:Int)))) then
 (some false)
 else
 (each (fun y21 i21 (s21:Unit) nx21=>
   bif ((decide (12 < (y21.Plugs.length:Int)))||(decide (10 < y21.Tiers))) then
   (some false)
   else
   (nx21 ()))
  (fun(s21:Unit)=>
   each (fun y44 i44 (s44:Unit) nx44=>
    bif decide (12 < (y44.Rows.length:Int)) then
    (some false)
    else
    (nx44 ()))
   (fun(s44:Unit)=>
    some true) s.Covers 0 ()) s.Columns 0 ())
theorem He9 (s:H8) (boxes:List H2) (r:Bool) (h:G31 s boxes=some r):Pure En 4 [.agg (H8.cs s),E3 boxes] (·=BL r):=by
 unfold G31 at h
 refine H0 [.tmp 4] Tryz.func4 O O (Jr fun hK1=>(JLh (.ptr 1003 0) (Jq (cs:=(H8.cs s)) 1003 O O O O O) O (JLm (BL false) O (G8 (hK1 (Gx [(1,E3 boxes),(2,Ed s)] [] 1003 rfl rfl rfl G rfl (by exact⟨.conv (.same rfl),.ptr,G⟩) (Js fun hK2=>?_)))))))
 refine Jr fun hK3=>(JLh (Ed s) (Ga Hi O O O) O (JLh (E5 s.Columns) (Gh Ho O O O) O (JLl H7 O O O fun hm11=>(JLh (BL (decide (12 < (s.Columns.length:Int)))) (G4d O O O) O (JLm (BL (decide (12 < (s.Columns.length:Int)))) O (JLo (.dptr [E4 s.Covers,G0 s.Light.Kilos,G0 s.Light.X,G0 s.Light.Y,G0 s.Light.Z,E7 s.Rows,E6 s.Frames,E8 s.Tanks,G0 s.G3.Tolerance,G0 s.G3.Trim,G0 s.G3.List_,G0 s.G3.Stability]) [] O .scf G (fun hc=>Ga Jp O O O) O (JLo (E4 s.Covers) [14] O .scf ⟨Ua,G⟩ (fun hc=>Gh Q4 O O O) O (JLo (Em s.Covers.length) [15] O .scf ⟨Ua,G⟩ (fun hc=>Qx (f:=Ge.av) (xs:=s.Covers) Hu O O) O (JLo (BL (decide (12 < (s.Covers.length:Int)))) [16] O .scf ⟨Ua,G⟩ (fun hc=>G4d O O O) O (JLh (BL ((decide (12 < (s.Columns.length:Int)))||(decide (12 < (s.Covers.length:Int))))) (Y7 O O O O) O (JLm (BL ((decide (12 < (s.Columns.length:Int)))||(decide (12 < (s.Covers.length:Int))))) O (JLo (E3 boxes) [] O .scf G (fun hc=>G5 O O) O (JLo (Em boxes.length) [20] O .scf ⟨Ua,G⟩ (fun hc=>Qx (f:=H2.av) (xs:=boxes) Jy O O) O ?_)))))))))))))
 refine JLo (BL (decide (30 < (boxes.length:Int)))) [21] O .scf ⟨Ua,G⟩ (fun hc=>G4d O O O) O (JLh (BL (((decide (12 < (s.Columns.length:Int)))||(decide (12 < (s.Covers.length:Int))))||(decide (30 < (boxes.length:Int))))) (Y7 O O O O) O (G8 (hK3 (JCc O h (fun h hb=>?_) (fun h hb=>?_)))))
 ·
  refine Jr fun hK4=>(JLm (BL false) O (G8 (hK4 (Gt (fin1 BL h)))))
 ·
  refine Gm (hK2 (Js fun hK5=>Jr fun hK6=>(JLh (Ed s) (Ga Hi O O O) O (JLh (E5 s.Columns) (Gh Ho O O O) O (JLl H7 O O O fun hm26=>(JLm (G0 0) O (G8 (hK6 (Gk ?_)))))))))
  obtain⟨b21,kx21,hb21,hkx21,h⟩:=J4 h
  refine H6 (fun i21 (s21:Unit)=>each b21 kx21 (List.drop i21 s.Columns) i21 s21=some r) (fun i21 s21=>[(2,Ed s),(25,E5 s.Columns),(26,Em s.Columns.length),(27,Em i21)]) (fun i21 s21=>[]) (fun i21=>s.Columns.length - i21) 0 () h ⟨(by repeat' constructor),G,rfl⟩ ?_
  clear h
  intro i21 s21 hi21 K21 e21
  refine Jr fun hK22=>(JLh (BL (decide ((i21:Int) < (s.Columns.length:Int)))) (Hy O O O) O (G8 (hK22 (Js fun hK23=>Gj O (fun hb=>?_) (fun hb=>?_)))))
  ·
   have hk21:=Je hb
   obtain⟨y21,nx21,hy21,hn21,h⟩:=Hs hi21 hk21
   replace h:=Y8 hb21 h
   refine Gm (hK23 (Js fun hK24=>Gk (Jr fun hK25=>(JLh (Ef y21) (Gs (f:=G4.av) (xs:=s.Columns) (y:=y21) O O O H7 hy21 O) O (JLh (.agg (G4.cs y21)) (Gi Yc O O O) O (JLh (.ptr 1004 0) (Ju 1004 12 G5e O O) O (Ja (u:=.junk) (J0 (u:=.agg (G4.cs y21)) (ds:=(G4.cs y21)) Ga0 O O O O O O O O) (G8 (hK25 ?_)))))))))
   refine Gx [(2,Ed s),(6,Ef y21),(25,E5 s.Columns),(26,Em s.Columns.length),(27,Em i21)] [] 1004 rfl rfl rfl G rfl (by repeat' (first | exact .ptr | constructor)) ?_
   refine Jr fun hK26=>(JLh (.dptr ((G4.cs y21).drop 8)) (Ga Rq O O O) O (JLh (E1 y21.Plugs) (Gh J2 O O O) O (JLl H4 O O O fun hm33=>(JLh (BL (decide (12 < (y21.Plugs.length:Int)))) (G4d O O O) O (JLm (BL (decide (12 < (y21.Plugs.length:Int)))) O (JLo (.dptr ((G4.cs y21).drop 3)) [] O .scf G (fun hc=>Ga G26 O O O) O (JLo (G0 y21.Tiers) [36] O .scf ⟨Ua,G⟩ (fun hc=>Gh Gc O O O) O (JLo (BL (decide (10 < y21.Tiers))) [37] O .scf ⟨Ua,G⟩ (fun hc=>G4d O O O) O (JLh (BL ((decide (12 < (y21.Plugs.length:Int)))||(decide (10 < y21.Tiers)))) (Y7 O O O O) O (G8 (hK26 (JCc O h (fun h hb=>?_) (fun h hb=>?_)))))))))))))
   ·
    refine Jr fun hK27=>(JLm (BL false) O (G8 (hK27 (Gt (fin1 BL h)))))
   ·
    refine Gm (hK24 (G2 (JLh (G0 ((i21+1:Nat):Int)) (Hx (Hc hk21 hm26) O O O) O (JLm (G0 ((i21+1:Nat):Int)) O (G8 (e21 _ _ (i21+1) () (app1 hn21 h) (by omega) ⟨(by repeat' constructor),G,rfl⟩))))))
  ·
   have h:=app1 hkx21 (Ht hi21 (H9 hb))
   refine Hd (hK5 (Js fun hK28=>Jr fun hK29=>(JLh (.dptr [E4 s.Covers,G0 s.Light.Kilos,G0 s.Light.X,G0 s.Light.Y,G0 s.Light.Z,E7 s.Rows,E6 s.Frames,E8 s.Tanks,G0 s.G3.Tolerance,G0 s.G3.Trim,G0 s.G3.List_,G0 s.G3.Stability]) (Ga Jp O O O) O (JLh (E4 s.Covers) (Gh Q4 O O O) O (JLl Hu O O O fun hm43=>(JLm (G0 0) O (G8 (hK29 (Gk ?_)))))))))
   obtain⟨b44,kx44,hb44,hkx44,h⟩:=J4 h
   refine H6 (fun i44 (s44:Unit)=>each b44 kx44 (List.drop i44 s.Covers) i44 s44=some r) (fun i44 s44=>[(42,E4 s.Covers),(43,Em s.Covers.length),(44,Em i44)]) (fun i44 s44=>[]) (fun i44=>s.Covers.length - i44) 0 () h ⟨⟨.same O,.same O,.same O,G⟩,G,O⟩ ?_
   clear h
   intro i44 s44 hi44 K44 e44
   refine Jr fun hK45=>(JLh (BL (decide ((i44:Int) < (s.Covers.length:Int)))) (Hy O O O) O (G8 (hK45 (Js fun hK46=>Gj O (fun hb=>?_) (fun hb=>?_)))))
   ·
    have hk44:=Je hb
    obtain⟨y44,nx44,hy44,hn44,h⟩:=Hs hi44 hk44
    replace h:=Y8 hb44 h
    refine Gm (hK46 (Js fun hK47=>Gk (Jr fun hK48=>(JLh (.dptr [G0 y44.Bay,E1 y44.Rows]) (Gs (f:=Ge.av) (xs:=s.Covers) (y:=y44) O O O Hu hy44 O) O (JLh (.agg [G0 y44.Bay,E1 y44.Rows]) (Gi Z8 O O O) O (JLh (.ptr 1005 0) (Ju 1005 2 G7b O O) O (Ja (u:=.junk) (J0 (u:=.agg [G0 y44.Bay,E1 y44.Rows]) (ds:=[G0 y44.Bay,E1 y44.Rows]) Gd9 O O O O O O O O) (G8 (hK48 (Gx [(8,.dptr [G0 y44.Bay,E1 y44.Rows]),(42,E4 s.Covers),(43,Em s.Covers.length),(44,Em i44)] [] 1005 rfl rfl rfl G rfl (by repeat' (first | exact .ptr | constructor)) ?_))))))))))
    refine Jr fun hK49=>(JLh (.dptr [E1 y44.Rows]) (Ga Qd O O O) O (JLh (E1 y44.Rows) (Gh J2 O O O) O (JLl H4 O O O fun hm50=>(JLh (BL (decide (12 < (y44.Rows.length:Int)))) (G4d O O O) O (G8 (hK49 (JCc O h (fun h hb=>?_) (fun h hb=>?_))))))))
    ·
     refine Jr fun hK50=>(JLm (BL false) O (G8 (hK50 (Gt (fin1 BL h)))))
    ·
     refine Gm (hK47 (G2 (JLh (G0 ((i44+1:Nat):Int)) (Hx (Hc hk44 hm43) O O O) O (JLm (G0 ((i44+1:Nat):Int)) O (G8 (e44 _ _ (i44+1) () (app1 hn44 h) (by omega) ⟨⟨.same rfl,.same rfl,.same rfl,G⟩,G,rfl⟩))))))
   ·
    have h:=app1 hkx44 (Ht hi44 (H9 hb))
    refine Hd (hK28 (Jr fun hK51=>(JLm (BL true) O (G8 (hK51 (Gt (fin1 BL h)))))))

def G6a :Option H8:=
 some (H8.mk ([(G4.mk 0 0 false 2 0 0 0 0 [] 0 0 0),(G4.mk 0 1 false 2 0 0 0 0 [] 0 0 0),(G4.mk 0 0 true 3 0 0 0 0 [] 0 0 0),(G4.mk 0 1 true 3 0 0 0 0 [] 0 0 0),(G4.mk 1 1 true 4 0 0 0 0 [] 0 0 0)]) ([(Ge.mk 0 [0,1])]) (Light.mk 0 0 0 0) [] [] [] (G3.mk 0 0 0 0))
theorem H6b  (r:H8) (h:G6a =some r):Pure En 15 [] (·=.agg (H8.cs r)):=by
 unfold G6a at h
 refine H0 [.cell 0 32] Tryz.func15 O O (Jr fun hK1=>(JLh (.ptr 1018 0) (G15 1018 [E5 ([]:List G4),E4 ([]:List Ge),G0 0,G0 0,G0 0,G0 0,E7 ([]:List Row),E6 ([]:List Frame),E8 ([]:List Gp),G0 0,G0 0,G0 0,G0 0] [.slice none 0 0,.slice none 0 0,.int .i64 0,.int .i64 0,.int .i64 0,.int .i64 0,.slice none 0 0,.slice none 0 0,.slice none 0 0,.int .i64 0,.int .i64 0,.int .i64 0,.int .i64 0] J4f ⟨.inr ⟨_,O,O⟩,.inr ⟨_,O,O⟩,.inl O,.inl O,.inl O,.inl O,.inr ⟨_,O,O⟩,.inr ⟨_,O,O⟩,.inr ⟨_,O,O⟩,.inl O,.inl O,.inl O,.inl O,G⟩ O O) O (G8 (hK1 ?_))))
 refine Jr fun hK2=>(JLh (.agg [G0 0,G0 0,BL false,G0 2,G0 0,G0 0,G0 0,G0 0,E1 ([]:List Int),G0 0,G0 0,G0 0]) (Ji (cs:=[G0 0,G0 0,BL false,G0 2,G0 0,G0 0,G0 0,G0 0,E1 ([]:List Int),G0 0,G0 0,G0 0]) [(0,1),(1,1),(2,1),(3,1),(4,1),(5,1),(6,1),(7,1),(8,1),(9,1),(10,1),(11,1)] [G0 0,G0 0,BL false,G0 0,G0 0,G0 0,G0 0,G0 0,E1 ([]:List Int),G0 0,G0 0,G0 0] [.int .i64 0,.int .i64 0,.bool false,.int .i64 0,.int .i64 0,.int .i64 0,.int .i64 0,.int .i64 0,.slice none 0 0,.int .i64 0,.int .i64 0,.int .i64 0] Gb0 G9f ⟨.inl O,.inl O,.inl O,.inl O,.inl O,.inl O,.inl O,.inl O,.inr ⟨_,O,O⟩,.inl O,.inl O,.inl O,G⟩ O O) O (JLh (.agg [G0 0,G0 1,BL false,G0 2,G0 0,G0 0,G0 0,G0 0,E1 ([]:List Int),G0 0,G0 0,G0 0]) (Ji (cs:=[G0 0,G0 1,BL false,G0 2,G0 0,G0 0,G0 0,G0 0,E1 ([]:List Int),G0 0,G0 0,G0 0]) [(0,1),(1,1),(2,1),(3,1),(4,1),(5,1),(6,1),(7,1),(8,1),(9,1),(10,1),(11,1)] [G0 0,G0 0,BL false,G0 0,G0 0,G0 0,G0 0,G0 0,E1 ([]:List Int),G0 0,G0 0,G0 0] [.int .i64 0,.int .i64 0,.bool false,.int .i64 0,.int .i64 0,.int .i64 0,.int .i64 0,.int .i64 0,.slice none 0 0,.int .i64 0,.int .i64 0,.int .i64 0] Gb0 G9f ⟨.inl O,.inl O,.inl O,.inl O,.inl O,.inl O,.inl O,.inl O,.inr ⟨_,O,O⟩,.inl O,.inl O,.inl O,G⟩ O O) O (JLh (.agg [G0 0,G0 0,BL true,G0 3,G0 0,G0 0,G0 0,G0 0,E1 ([]:List Int),G0 0,G0 0,G0 0]) (Ji (cs:=[G0 0,G0 0,BL true,G0 3,G0 0,G0 0,G0 0,G0 0,E1 ([]:List Int),G0 0,G0 0,G0 0]) [(0,1),(1,1),(2,1),(3,1),(4,1),(5,1),(6,1),(7,1),(8,1),(9,1),(10,1),(11,1)] [G0 0,G0 0,BL false,G0 0,G0 0,G0 0,G0 0,G0 0,E1 ([]:List Int),G0 0,G0 0,G0 0] [.int .i64 0,.int .i64 0,.bool false,.int .i64 0,.int .i64 0,.int .i64 0,.int .i64 0,.int .i64 0,.slice none 0 0,.int .i64 0,.int .i64 0,.int .i64 0] Gb0 G9f ⟨.inl O,.inl O,.inl O,.inl O,.inl O,.inl O,.inl O,.inl O,.inr ⟨_,O,O⟩,.inl O,.inl O,.inl O,G⟩ O O) O (JLh (.agg [G0 0,G0 1,BL true,G0 3,G0 0,G0 0,G0 0,G0 0,E1 ([]:List Int),G0 0,G0 0,G0 0]) (Ji (cs:=[G0 0,G0 1,BL true,G0 3,G0 0,G0 0,G0 0,G0 0,E1 ([]:List Int),G0 0,G0 0,G0 0]) [(0,1),(1,1),(2,1),(3,1),(4,1),(5,1),(6,1),(7,1),(8,1),(9,1),(10,1),(11,1)] [G0 0,G0 0,BL false,G0 0,G0 0,G0 0,G0 0,G0 0,E1 ([]:List Int),G0 0,G0 0,G0 0] [.int .i64 0,.int .i64 0,.bool false,.int .i64 0,.int .i64 0,.int .i64 0,.int .i64 0,.int .i64 0,.slice none 0 0,.int .i64 0,.int .i64 0,.int .i64 0] Gb0 G9f ⟨.inl O,.inl O,.inl O,.inl O,.inl O,.inl O,.inl O,.inl O,.inr ⟨_,O,O⟩,.inl O,.inl O,.inl O,G⟩ O O) O (JLh (.agg [G0 1,G0 1,BL true,G0 4,G0 0,G0 0,G0 0,G0 0,E1 ([]:List Int),G0 0,G0 0,G0 0]) (Ji (cs:=[G0 1,G0 1,BL true,G0 4,G0 0,G0 0,G0 0,G0 0,E1 ([]:List Int),G0 0,G0 0,G0 0]) [(0,1),(1,1),(2,1),(3,1),(4,1),(5,1),(6,1),(7,1),(8,1),(9,1),(10,1),(11,1)] [G0 0,G0 0,BL false,G0 0,G0 0,G0 0,G0 0,G0 0,E1 ([]:List Int),G0 0,G0 0,G0 0] [.int .i64 0,.int .i64 0,.bool false,.int .i64 0,.int .i64 0,.int .i64 0,.int .i64 0,.int .i64 0,.slice none 0 0,.int .i64 0,.int .i64 0,.int .i64 0] Gb0 G9f ⟨.inl O,.inl O,.inl O,.inl O,.inl O,.inl O,.inl O,.inl O,.inr ⟨_,O,O⟩,.inl O,.inl O,.inl O,G⟩ O O) O (JLh (E5 ([(G4.mk 0 0 false 2 0 0 0 0 [] 0 0 0),(G4.mk 0 1 false 2 0 0 0 0 [] 0 0 0),(G4.mk 0 0 true 3 0 0 0 0 [] 0 0 0),(G4.mk 0 1 true 3 0 0 0 0 [] 0 0 0),(G4.mk 1 1 true 4 0 0 0 0 [] 0 0 0)])) (Hv (xs:=[.agg [G0 0,G0 0,BL false,G0 2,G0 0,G0 0,G0 0,G0 0,E1 ([]:List Int),G0 0,G0 0,G0 0],.agg [G0 0,G0 1,BL false,G0 2,G0 0,G0 0,G0 0,G0 0,E1 ([]:List Int),G0 0,G0 0,G0 0],.agg [G0 0,G0 0,BL true,G0 3,G0 0,G0 0,G0 0,G0 0,E1 ([]:List Int),G0 0,G0 0,G0 0],.agg [G0 0,G0 1,BL true,G0 3,G0 0,G0 0,G0 0,G0 0,E1 ([]:List Int),G0 0,G0 0,G0 0],.agg [G0 1,G0 1,BL true,G0 4,G0 0,G0 0,G0 0,G0 0,E1 ([]:List Int),G0 0,G0 0,G0 0]]) O ⟨O,O,O,O,O,O,O,O,O,O,G⟩ H7 G5e O O O O) O (JLh (E1 [0,1]) (Hv (xs:=[G0 0,G0 1]) O ⟨O,O,O,O,G⟩ H4 G67 O O O O) O (JLh (.agg [G0 0,E1 [0,1]]) (Ji (cs:=[G0 0,E1 [0,1]]) [(0,1),(1,1)] [G0 0,E1 ([]:List Int)] [.int .i64 0,.slice none 0 0] J75 Hcd ⟨.inl O,.inr ⟨_,O,O⟩,G⟩ O O) O (JLh (E4 ([(Ge.mk 0 [0,1])])) (Hv (xs:=[.agg [G0 0,E1 [0,1]]]) O ⟨O,O,G⟩ Hu G7b O O O O) O (JLh (.agg [E5 ([(G4.mk 0 0 false 2 0 0 0 0 [] 0 0 0),(G4.mk 0 1 false 2 0 0 0 0 [] 0 0 0),(G4.mk 0 0 true 3 0 0 0 0 [] 0 0 0),(G4.mk 0 1 true 3 0 0 0 0 [] 0 0 0),(G4.mk 1 1 true 4 0 0 0 0 [] 0 0 0)]),E4 ([(Ge.mk 0 [0,1])]),G0 0,G0 0,G0 0,G0 0,E7 ([]:List Row),E6 ([]:List Frame),E8 ([]:List Gp),G0 0,G0 0,G0 0,G0 0]) (Ji (cs:=[E5 ([(G4.mk 0 0 false 2 0 0 0 0 [] 0 0 0),(G4.mk 0 1 false 2 0 0 0 0 [] 0 0 0),(G4.mk 0 0 true 3 0 0 0 0 [] 0 0 0),(G4.mk 0 1 true 3 0 0 0 0 [] 0 0 0),(G4.mk 1 1 true 4 0 0 0 0 [] 0 0 0)]),E4 ([(Ge.mk 0 [0,1])]),G0 0,G0 0,G0 0,G0 0,E7 ([]:List Row),E6 ([]:List Frame),E8 ([]:List Gp),G0 0,G0 0,G0 0,G0 0]) [(0,1),(1,1),(2,4),(6,1),(7,1),(8,1),(9,4)] [E5 ([]:List G4),E4 ([]:List Ge),G0 0,G0 0,G0 0,G0 0,E7 ([]:List Row),E6 ([]:List Frame),E8 ([]:List Gp),G0 0,G0 0,G0 0,G0 0] [.slice none 0 0,.slice none 0 0,.int .i64 0,.int .i64 0,.int .i64 0,.int .i64 0,.slice none 0 0,.slice none 0 0,.slice none 0 0,.int .i64 0,.int .i64 0,.int .i64 0,.int .i64 0] Q7d J4f ⟨.inr ⟨_,O,O⟩,.inr ⟨_,O,O⟩,.inl O,.inl O,.inl O,.inl O,.inr ⟨_,O,O⟩,.inr ⟨_,O,O⟩,.inr ⟨_,O,O⟩,.inl O,.inl O,.inl O,.inl O,G⟩ O O) O (Ja (u:=.junk) (J0 (u:=.agg [E5 ([(G4.mk 0 0 false 2 0 0 0 0 [] 0 0 0),(G4.mk 0 1 false 2 0 0 0 0 [] 0 0 0),(G4.mk 0 0 true 3 0 0 0 0 [] 0 0 0),(G4.mk 0 1 true 3 0 0 0 0 [] 0 0 0),(G4.mk 1 1 true 4 0 0 0 0 [] 0 0 0)]),E4 ([(Ge.mk 0 [0,1])]),G0 0,G0 0,G0 0,G0 0,E7 ([]:List Row),E6 ([]:List Frame),E8 ([]:List Gp),G0 0,G0 0,G0 0,G0 0]) (ds:=[E5 ([(G4.mk 0 0 false 2 0 0 0 0 [] 0 0 0),(G4.mk 0 1 false 2 0 0 0 0 [] 0 0 0),(G4.mk 0 0 true 3 0 0 0 0 [] 0 0 0),(G4.mk 0 1 true 3 0 0 0 0 [] 0 0 0),(G4.mk 1 1 true 4 0 0 0 0 [] 0 0 0)]),E4 ([(Ge.mk 0 [0,1])]),G0 0,G0 0,G0 0,G0 0,E7 ([]:List Row),E6 ([]:List Frame),E8 ([]:List Gp),G0 0,G0 0,G0 0,G0 0]) Hd0 O O O O O O O O) (G8 (hK2 ?_)))))))))))))
 refine Gt (⟨[.agg [E5 ([(G4.mk 0 0 false 2 0 0 0 0 [] 0 0 0),(G4.mk 0 1 false 2 0 0 0 0 [] 0 0 0),(G4.mk 0 0 true 3 0 0 0 0 [] 0 0 0),(G4.mk 0 1 true 3 0 0 0 0 [] 0 0 0),(G4.mk 1 1 true 4 0 0 0 0 [] 0 0 0)]),E4 ([(Ge.mk 0 [0,1])]),G0 0,G0 0,G0 0,G0 0,E7 ([]:List Row),E6 ([]:List Frame),E8 ([]:List Gp),G0 0,G0 0,G0 0,G0 0]],[],G,O,⟨⟨_,⟨_,_,_,_,O,O,O,.inl ⟨J1,O⟩⟩,.conv (.same O)⟩,G⟩,O,congrArg (fun r:H8=>(.agg (H8.cs r):AV)) (Option.some.inj h)⟩)

def G6e (box:Int) (column:Int) (tier:Int):Option G6:=
 some (G6.mk box (Slot.mk column tier 0))
theorem H07 (box:Int) (column:Int) (tier:Int) (r:G6) (h:G6e box column tier=some r):Pure En 16 [G0 box,G0 column,G0 tier] (·=.agg (G6.cs r)):=by
 unfold G6e at h
 refine H0 [.cell 6 62] Tryz.func16 O O (Jr fun hK1=>(JLh (.ptr 1019 0) (G15 1019 [G0 0,G0 0,G0 0,U8 0] [.int .i64 0,.int .i64 0,.int .i64 0,.int .u8 0] Hcb ⟨.inl O,.inl O,.inl O,.inl O,G⟩ O O) O (G8 (hK1 ?_))))
 refine Jr fun hK2=>(JLm (G0 box) O (JLm (G0 column) O (JLm (G0 tier) O (JLh (.agg [G0 column,G0 tier,U8 0]) (Ji (cs:=[G0 column,G0 tier,U8 0]) [(0,1),(1,1),(2,1)] [G0 0,G0 0,U8 0] [.int .i64 0,.int .i64 0,.int .u8 0] Hd2 Hcc ⟨.inl O,.inl O,.inl O,G⟩ O O) O (JLh (.agg [G0 box,G0 column,G0 tier,U8 0]) (Ji (cs:=[G0 box,G0 column,G0 tier,U8 0]) [(0,1),(1,3)] [G0 0,G0 0,G0 0,U8 0] [.int .i64 0,.int .i64 0,.int .i64 0,.int .u8 0] J74 Hcb ⟨.inl O,.inl O,.inl O,.inl O,G⟩ O O) O (Ja (u:=.junk) (J0 (u:=.agg [G0 box,G0 column,G0 tier,U8 0]) (ds:=[G0 box,G0 column,G0 tier,U8 0]) Z4 O O O O O O O O) (G8 (hK2 (Gt ?_)))))))))
 exact⟨[.agg [G0 box,G0 column,G0 tier,U8 0]],[],G,O,⟨⟨_,⟨_,_,_,_,O,O,O,.inl ⟨Qv,O⟩⟩,.conv (.same O)⟩,G⟩,O,congrArg (fun r:G6=>(.agg (G6.cs r):AV)) (Option.some.inj h)⟩

def Yd (a:List Move) (b:List Move):Option Bool:=
 bif decide ((a.length:Int)≠(b.length:Int)) then
 (some false)
 else
 (each (fun y24 i24 (s24:Unit) nx24=>
   Jc b (i24:Int) fun y29=>
   bif (!decide (y24=y29)) then
   (some false)
   else
   (nx24 ()))
  (fun(s24:Unit)=>
   some true) a 0 ())
theorem Ga9 (a:List Move) (b:List Move) (r:Bool) (h:Yd a b=some r):Pure En 11 [E2 a,E2 b] (·=BL r):=by
 unfold Yd at h
 refine H0 [.tmp 4] Tryz.func11 O O (Jr fun hK1=>(JLm (BL false) O (G8 (hK1 (Js fun hK2=>Jr fun hK3=>(JLm (E2 a) O (JLl Hr O O O fun hm7=>(JLm (E2 b) O (JLl Hr O O O fun hm9=>(JLh (BL (decide ((a.length:Int)≠(b.length:Int)))) (G56 O O O) O (G8 (hK3 (JCc O h (fun h hb=>?_) (fun h hb=>?_))))))))))))))
 ·
  refine Jr fun hK4=>(JLm (BL false) O (G8 (hK4 (Gt (fin1 BL h)))))
 ·
  refine Gm (hK2 (Js fun hK5=>Jr fun hK6=>(JLm (G0 0) O (G8 (hK6 (Gk ?_))))))
  obtain⟨b24,kx24,hb24,hkx24,h⟩:=J4 h
  refine H6 (fun i24 (s24:Unit)=>each b24 kx24 (List.drop i24 a) i24 s24=some r) (fun i24 s24=>[(0,E2 a),(1,E2 b),(5,Em i24)]) (fun i24 s24=>[]) (fun i24=>a.length - i24) 0 () h ⟨⟨.same O,.same O,.same O,G⟩,G,O⟩ ?_
  clear h
  intro i24 s24 hi24 K24 e24
  refine Js fun hK25=>Jr fun hK26=>(JLm (Em i24) O (JLm (E2 a) O (JLl Hr O O O fun hm13=>(JLh (BL (decide ((i24:Int) < (a.length:Int)))) (Hy O O O) O (G8 (hK26 (Gj O (fun hb=>?_) (fun hb=>?_))))))))
  ·
   have hk24:=Je hb
   obtain⟨y24,nx24,hy24,hn24,h⟩:=Hs hi24 hk24
   replace h:=Y8 hb24 h
   refine Gm (hK25 (Js fun hK27=>Gk (Js fun hK28=>?_)))
   obtain⟨m30,y29,hm30,hy29,h⟩:=R1 h
   refine JC_d0 Jb (by kernel_rfl) (Dq (E2 a) (G5 O O) O (Dq (Em i24) (G5 O O) O (Dq (Eg y24) (Gs (f:=Move.av) (xs:=a) (y:=y24) O O O Hr hy24 O) O (Dq (.agg (Move.cs y24)) (Gi Gb1 O O O) O (Dq (E2 b) (G5 O O) O (Dq (Em i24) (G5 O O) O (Dq (Eg y29) (Gs (f:=Move.av) (xs:=b) (y:=y29) O O O Hr hy29 hm30) O (Dq (.agg (Move.cs y29)) (Gi Gb1 O O O) O (Dq (BL (!decide (y24=y29))) (J3d (vs:=[.int .u8 y24.Kind,.int .i64 y24.H2,.int .i64 y24.Slot.G4,.int .i64 y24.Slot.Tier,.int .u8 y24.Slot.Half,.int .i64 y24.Ge]) (us:=[.int .u8 y29.Kind,.int .i64 y29.H2,.int .i64 y29.Slot.G4,.int .i64 y29.Slot.Tier,.int .u8 y29.Slot.Half,.int .i64 y29.Ge]) 4 O (tq_69 y24 y29) J0a Ja1 O O O) O (Dnil ?_))))))))))
   refine hK28 (JCc O h (fun h hb=>?_) (fun h hb=>?_))
   ·
    refine Jr fun hK31=>(JLm (BL false) O (G8 (hK31 (Gt (fin1 BL h)))))
   ·
    refine Gm (hK27 (G2 (JLm (Em i24) O (JLh (G0 ((i24+1:Nat):Int)) (Hx (Hc hk24 hm13) O O O) O (JLm (G0 ((i24+1:Nat):Int)) O (G8 (e24 _ _ (i24+1) () (app1 hn24 h) (by omega) ⟨⟨.same rfl,.same rfl,.same rfl,G⟩,G,rfl⟩)))))))
  ·
   have h:=app1 hkx24 (Ht hi24 (H9 hb))
   refine Hd (hK5 (Jr fun hK32=>(JLm (BL true) O (G8 (hK32 (Gt (fin1 BL h)))))))

def Gc1 (a:List Move) (b:List Move):Option Bool:=
 bnd (Yd a b) fun r3=>
 some r3
theorem Hf2 (a:List Move) (b:List Move) (r:Bool) (h:Gc1 a b=some r):Pure En 18 [E2 a,E2 b] (·=BL r):=by
 unfold Gc1 at h
 refine H0 [.tmp 4] Tryz.func18 O O (Jr fun hK1=>(JLm (BL false) O (G8 (hK1 (Jr fun hK2=>(JLm (E2 a) O (JLm (E2 b) O ?_)))))))
 obtain⟨r3,hr3,h⟩:=Gf h
 refine JLh (BL r3) (Gq O (Ga9 a b r3 hr3) Q2b ⟨O,O,O,O,G⟩) O (JLm (BL r3) O (G8 (hK2 (Gt (fin1 BL h)))))

def G11 (F:Nat) :Option Bool:=
 bnd (G6a) fun r3=>
 bnd (G6e 1 0 0) fun r6=>
 bnd (G6e 2 3 0) fun r7=>
 bnd (G7f F r3 [(H2.mk 1 ByteArray.empty 40 false 0 0 0 0 false),(H2.mk 2 ByteArray.empty 40 false 0 0 0 0 false)] [r6,r7] [r7]) fun r9=>
 bnd (G2a r3 r9.1) fun r11=>
 Yn (r9.2+r11.2) fun v13=>
 bnd (bif decide (v13=0) then Gc1 r9.1 [(Move.mk 2 2 r7.Slot 0),(Move.mk 1 0 (Slot.mk 0 0 0) 0),(Move.mk 2 1 r6.Slot 0),(Move.mk 4 0 (Slot.mk 0 0 0) 0),(Move.mk 3 2 r7.Slot 0)] else some default) fun r14=>
 bnd (bif ((decide (v13=0))&&r14) then G6c r9.1 else some default) fun r15=>
 bnd (bif ((((decide (v13=0))&&r14)&&(decide (r15=3)))&&(decide ((r11.1.length:Int)=2))) then Jc r11.1 0 some else some default) fun y16=>
 bnd (bif (((((decide (v13=0))&&r14)&&(decide (r15=3)))&&(decide ((r11.1.length:Int)=2)))&&(decide (y16=(Hh.mk 0 1 2 1)))) then Jc r11.1 1 some else some default) fun y17=>
 some ((((((decide (v13=0))&&r14)&&(decide (r15=3)))&&(decide ((r11.1.length:Int)=2)))&&(decide (y16=(Hh.mk 0 1 2 1))))&&(decide (y17=(Hh.mk 0 2 1 1))))
theorem Gcb (F:Nat)  (r:Bool) (h:G11 F =some r):Pure En 5 [] (·=BL r):=by
 unfold G11 at h
 refine H0 [.tmp 0] Tryz.func5 O O (Jr fun hK1=>(JLm (BL false) O (G8 (hK1 (Jr fun hK2=>?_)))))
 obtain⟨r3,hr3,h⟩:=Gf h
 refine JLh (.agg (H8.cs r3)) (Gq O (H6b  r3 hr3) Qf9 G) O (JLh (.ptr 1006 0) (Ju 1006 13 Jbd O O) O (Ja (u:=.junk) (J0 (u:=.agg (H8.cs r3)) (ds:=(H8.cs r3)) Hd0 O O O O O O O O) (G8 (hK2 (Gx [(1,Ed r3)] [] 1006 rfl rfl rfl G rfl (by exact⟨.ptr,G⟩) ?_)))))
 refine Jr fun hK4=>(JLh (.agg [G0 1,ST ByteArray.empty,U8 40,BL false,G0 0,G0 0,G0 0,U8 0,BL false]) (Ji (cs:=[G0 1,ST ByteArray.empty,U8 40,BL false,G0 0,G0 0,G0 0,U8 0,BL false]) [(0,1),(1,1),(2,1),(3,1),(4,1),(5,1),(6,1),(7,1),(8,1)] [G0 0,ST ByteArray.empty,U8 0,BL false,G0 0,G0 0,G0 0,U8 0,BL false] [.int .i64 0,.string ByteArray.empty,.int .u8 0,.bool false,.int .i64 0,.int .i64 0,.int .i64 0,.int .u8 0,.bool false] Gf0 G9e ⟨.inl O,.inl O,.inl O,.inl O,.inl O,.inl O,.inl O,.inl O,.inl O,G⟩ O O) O (JLh (.agg [G0 2,ST ByteArray.empty,U8 40,BL false,G0 0,G0 0,G0 0,U8 0,BL false]) (Ji (cs:=[G0 2,ST ByteArray.empty,U8 40,BL false,G0 0,G0 0,G0 0,U8 0,BL false]) [(0,1),(1,1),(2,1),(3,1),(4,1),(5,1),(6,1),(7,1),(8,1)] [G0 0,ST ByteArray.empty,U8 0,BL false,G0 0,G0 0,G0 0,U8 0,BL false] [.int .i64 0,.string ByteArray.empty,.int .u8 0,.bool false,.int .i64 0,.int .i64 0,.int .i64 0,.int .u8 0,.bool false] Gf0 G9e ⟨.inl O,.inl O,.inl O,.inl O,.inl O,.inl O,.inl O,.inl O,.inl O,G⟩ O O) O (JLh (E3 [(H2.mk 1 ByteArray.empty 40 false 0 0 0 0 false),(H2.mk 2 ByteArray.empty 40 false 0 0 0 0 false)]) (Hv (xs:=[.agg [G0 1,ST ByteArray.empty,U8 40,BL false,G0 0,G0 0,G0 0,U8 0,BL false],.agg [G0 2,ST ByteArray.empty,U8 40,BL false,G0 0,G0 0,G0 0,U8 0,BL false]]) O ⟨O,O,O,O,G⟩ Jy Gdf O O O O) O (JLm (E3 [(H2.mk 1 ByteArray.empty 40 false 0 0 0 0 false),(H2.mk 2 ByteArray.empty 40 false 0 0 0 0 false)]) O (G8 (hK4 ?_))))))
 refine Jr fun hK5=>?_
 obtain⟨r6,hr6,h⟩:=Gf h
 refine JLh (.agg (G6.cs r6)) (Gq O (H07 1 0 0 r6 hr6) Q29 ⟨O,O,O,O,O,O,G⟩) O ?_
 obtain⟨r7,hr7,h⟩:=Gf h
 refine JLh (.agg (G6.cs r7)) (Gq O (H07 2 3 0 r7 hr7) Q29 ⟨O,O,O,O,O,O,G⟩) O (JLh (.ptr 1007 0) (Ju 1007 4 Rv O O) O (JLh (.ptr 1008 0) (Ju 1008 4 Rv O O) O (Ja (u:=.junk) (J0 (u:=.agg (G6.cs r6)) (ds:=[G0 r6.H2,G0 r6.Slot.G4,G0 r6.Slot.Tier,U8 r6.Slot.Half]) Z4 O O O O O O O O) (Ja (u:=.junk) (J0 (u:=.agg (G6.cs r7)) (ds:=[G0 r7.H2,G0 r7.Slot.G4,G0 r7.Slot.Tier,U8 r7.Slot.Half]) Z4 O O O O O O O O) (G8 (hK5 ?_))))))
 refine Gx [(1,Ed r3),(2,E3 [(H2.mk 1 ByteArray.empty 40 false 0 0 0 0 false),(H2.mk 2 ByteArray.empty 40 false 0 0 0 0 false)]),(3,Ee r6),(4,.ptr 1008 0)] [(1008,.box 62 [G0 r7.H2,G0 r7.Slot.G4,G0 r7.Slot.Tier,U8 r7.Slot.Half])] 1007 rfl rfl rfl ⟨⟨_,rfl,.boxEq rfl rfl⟩,G⟩ rfl (by repeat' (first | exact .ptr | constructor)) (Gx [(1,Ed r3),(2,E3 [(H2.mk 1 ByteArray.empty 40 false 0 0 0 0 false),(H2.mk 2 ByteArray.empty 40 false 0 0 0 0 false)]),(3,Ee r6),(4,Ee r7)] [] 1008 rfl rfl rfl G rfl (by repeat' (first | exact .ptr | constructor)) ?_)
 refine Jr fun hK8=>(JLh (.agg (H8.cs r3)) (Gi J1 O O O) O (JLm (E3 [(H2.mk 1 ByteArray.empty 40 false 0 0 0 0 false),(H2.mk 2 ByteArray.empty 40 false 0 0 0 0 false)]) O (JLh (.agg (G6.cs r6)) (Gi Qv O O O) O (JLh (.agg (G6.cs r7)) (Gi Qv O O O) O (JLh (E0 [r6,r7]) (Hv (xs:=[.agg (G6.cs r6),.agg (G6.cs r7)]) O ⟨O,O,O,O,G⟩ Gz Rv O O O O) O (JLh (.agg (G6.cs r7)) (Gi Qv O O O) O (JLh (E0 [r7]) (Hv (xs:=[.agg (G6.cs r7)]) O ⟨O,O,G⟩ Gz Rv O O O O) O ?_)))))))
 obtain⟨r9,hr9,h⟩:=Gf h
 refine JLh (.tup [E2 r9.1,G0 r9.2]) (Gq O (J23 F r3 [(H2.mk 1 ByteArray.empty 40 false 0 0 0 0 false),(H2.mk 2 ByteArray.empty 40 false 0 0 0 0 false)] [r6,r7] [r7] r9 hr9) Q6f ⟨O,O,O,O,O,O,O,O,G⟩) O (JLm (.tup [E2 r9.1,G0 r9.2]) O (JLh (E2 r9.1) (Jn O O O) O (JLh (G0 r9.2) (Jn O O O) O (JLm (E2 r9.1) O (JLm (G0 r9.2) O (G8 (hK8 (Jr fun hK10=>(JLh (.agg (H8.cs r3)) (Gi J1 O O O) O (JLm (E2 r9.1) O ?_))))))))))
 obtain⟨r11,hr11,h⟩:=Gf h
 refine JLh (.tup [Ea r11.1,G0 r11.2]) (Gq O (Hec.down r3 r9.1 r11 hr11) Q28 ⟨O,O,O,O,G⟩) O (JLm (.tup [Ea r11.1,G0 r11.2]) O (JLh (Ea r11.1) (Jn O O O) O (JLh (G0 r11.2) (Jn O O O) O (JLm (Ea r11.1) O (JLm (G0 r11.2) O (G8 (hK10 (Jr fun hK12=>(JLm (G0 r9.2) O (JLm (G0 r11.2) O ?_))))))))))
 obtain⟨v13,hv13,h⟩:=Jh h
 refine JLh (G0 v13) (Hx hv13 O O O) O (JLh (BL (decide (v13=0))) (Jk O O O) O (JLm (BL (decide (v13=0))) O (JLo (E2 r9.1) [] O .sct G (fun hc=>G5 O O) O (JLo (.dptr ((G6.cs r7).drop 1)) [] O .sct G (fun hc=>Ga Hg O O O) O (JLo (.agg ((G6.cs r7).drop 1)) [38] O .sct ⟨Ua,G⟩ (fun hc=>Gi Jg O O O) O (JLo (.agg [U8 2,G0 2,G0 r7.Slot.G4,G0 r7.Slot.Tier,U8 r7.Slot.Half,G0 0]) [39] O .sct ⟨Ua,G⟩ (fun hc=>Ji (cs:=[U8 2,G0 2,G0 r7.Slot.G4,G0 r7.Slot.Tier,U8 r7.Slot.Half,G0 0]) [(0,1),(1,1),(2,3),(5,1)] [U8 0,G0 0,G0 0,G0 0,U8 0,G0 0] [.int .u8 0,.int .i64 0,.int .i64 0,.int .i64 0,.int .u8 0,.int .i64 0] G25 G4f ⟨.inl O,.inl O,.inl O,.inl O,.inl O,.inl O,G⟩ O O) O (JLo (.agg [U8 1,G0 0,G0 0,G0 0,U8 0,G0 0]) [] O .sct G (fun hc=>Ji (cs:=[U8 1,G0 0,G0 0,G0 0,U8 0,G0 0]) [(0,1),(1,1),(2,3),(5,1)] [U8 0,G0 0,G0 0,G0 0,U8 0,G0 0] [.int .u8 0,.int .i64 0,.int .i64 0,.int .i64 0,.int .u8 0,.int .i64 0] G25 G4f ⟨.inl O,.inl O,.inl O,.inl O,.inl O,.inl O,G⟩ O O) O (JLo (.dptr ((G6.cs r6).drop 1)) [] O .sct G (fun hc=>Ga Hg O O O) O (JLo (.agg ((G6.cs r6).drop 1)) [42] O .sct ⟨Ua,G⟩ (fun hc=>Gi Jg O O O) O (JLo (.agg [U8 2,G0 1,G0 r6.Slot.G4,G0 r6.Slot.Tier,U8 r6.Slot.Half,G0 0]) [43] O .sct ⟨Ua,G⟩ (fun hc=>Ji (cs:=[U8 2,G0 1,G0 r6.Slot.G4,G0 r6.Slot.Tier,U8 r6.Slot.Half,G0 0]) [(0,1),(1,1),(2,3),(5,1)] [U8 0,G0 0,G0 0,G0 0,U8 0,G0 0] [.int .u8 0,.int .i64 0,.int .i64 0,.int .i64 0,.int .u8 0,.int .i64 0] G25 G4f ⟨.inl O,.inl O,.inl O,.inl O,.inl O,.inl O,G⟩ O O) O (JLo (.agg [U8 4,G0 0,G0 0,G0 0,U8 0,G0 0]) [] O .sct G (fun hc=>Ji (cs:=[U8 4,G0 0,G0 0,G0 0,U8 0,G0 0]) [(0,1),(1,1),(2,3),(5,1)] [U8 0,G0 0,G0 0,G0 0,U8 0,G0 0] [.int .u8 0,.int .i64 0,.int .i64 0,.int .i64 0,.int .u8 0,.int .i64 0] G25 G4f ⟨.inl O,.inl O,.inl O,.inl O,.inl O,.inl O,G⟩ O O) O (JLo (.dptr ((G6.cs r7).drop 1)) [] O .sct G (fun hc=>Ga Hg O O O) O (JLo (.agg ((G6.cs r7).drop 1)) [46] O .sct ⟨Ua,G⟩ (fun hc=>Gi Jg O O O) O ?_)))))))))))))
 refine JLo (.agg [U8 3,G0 2,G0 r7.Slot.G4,G0 r7.Slot.Tier,U8 r7.Slot.Half,G0 0]) [47] O .sct ⟨Ua,G⟩ (fun hc=>Ji (cs:=[U8 3,G0 2,G0 r7.Slot.G4,G0 r7.Slot.Tier,U8 r7.Slot.Half,G0 0]) [(0,1),(1,1),(2,3),(5,1)] [U8 0,G0 0,G0 0,G0 0,U8 0,G0 0] [.int .u8 0,.int .i64 0,.int .i64 0,.int .i64 0,.int .u8 0,.int .i64 0] G25 G4f ⟨.inl O,.inl O,.inl O,.inl O,.inl O,.inl O,G⟩ O O) O (JLo (E2 [(Move.mk 2 2 r7.Slot 0),(Move.mk 1 0 (Slot.mk 0 0 0) 0),(Move.mk 2 1 r6.Slot 0),(Move.mk 4 0 (Slot.mk 0 0 0) 0),(Move.mk 3 2 r7.Slot 0)]) [40,41,44,45,48] O .sct ⟨Ua,Ua,Ua,Ua,Ua,G⟩ (fun hc=>Hv (xs:=[.agg [U8 2,G0 2,G0 r7.Slot.G4,G0 r7.Slot.Tier,U8 r7.Slot.Half,G0 0],.agg [U8 1,G0 0,G0 0,G0 0,U8 0,G0 0],.agg [U8 2,G0 1,G0 r6.Slot.G4,G0 r6.Slot.Tier,U8 r6.Slot.Half,G0 0],.agg [U8 4,G0 0,G0 0,G0 0,U8 0,G0 0],.agg [U8 3,G0 2,G0 r7.Slot.G4,G0 r7.Slot.Tier,U8 r7.Slot.Half,G0 0]]) O ⟨O,O,O,O,O,O,O,O,O,O,G⟩ Hr G7a O O O O) O ?_)
 obtain⟨r14,hr14,h⟩:=Gf h
 refine JLo (BL r14) [37,49] O .sct ⟨Ua,Ua,G⟩ (fun hc=>Gq (args:=[E2 r9.1,E2 [(Move.mk 2 2 r7.Slot 0),(Move.mk 1 0 (Slot.mk 0 0 0) 0),(Move.mk 2 1 r6.Slot 0),(Move.mk 4 0 (Slot.mk 0 0 0) 0),(Move.mk 3 2 r7.Slot 0)]]) O (Hf2 r9.1 [(Move.mk 2 2 r7.Slot 0),(Move.mk 1 0 (Slot.mk 0 0 0) 0),(Move.mk 2 1 r6.Slot 0),(Move.mk 4 0 (Slot.mk 0 0 0) 0),(Move.mk 3 2 r7.Slot 0)] r14 (Gv hc hr14)) Qf8 ⟨O,O,O,O,G⟩) O (JLh (BL ((decide (v13=0))&&r14)) (J3 O O O O) O (JLm (BL ((decide (v13=0))&&r14)) O (JLo (E2 r9.1) [] O .sct G (fun hc=>G5 O O) O ?_)))
 obtain⟨r15,hr15,h⟩:=Gf h
 refine JLo (G0 r15) [53] O .sct ⟨Ua,G⟩ (fun hc=>Gq (args:=[E2 r9.1]) O (Hf0 r9.1 r15 (Gv hc hr15)) Q27 ⟨O,O,G⟩) O (JLo (BL (decide (r15=3))) [54] O .sct ⟨Ua,G⟩ (fun hc=>Jk O O O) O (JLh (BL (((decide (v13=0))&&r14)&&(decide (r15=3)))) (J3 O O O O) O (JLm (BL (((decide (v13=0))&&r14)&&(decide (r15=3)))) O (JLo (Ea r11.1) [] O .sct G (fun hc=>G5 O O) O (JLo (Em r11.1.length) [58] O .sct ⟨Ua,G⟩ (fun hc=>Qx (f:=Hh.av) (xs:=r11.1) G18 O O) O (JLo (BL (decide ((r11.1.length:Int)=2))) [59] O .sct ⟨Ua,G⟩ (fun hc=>Jk O O O) O (JLh (BL ((((decide (v13=0))&&r14)&&(decide (r15=3)))&&(decide ((r11.1.length:Int)=2)))) (J3 O O O O) O (JLm (BL ((((decide (v13=0))&&r14)&&(decide (r15=3)))&&(decide ((r11.1.length:Int)=2)))) O (JLo (Ea r11.1) [] O .sct G (fun hc=>G5 O O) O ?_)))))))))
 obtain⟨y16,hy16,h⟩:=Gf h
 refine JLo (Ek y16) [63] O .sct ⟨Ua,G⟩ (fun hc=>(match Jm (Gv hc hy16) with | ⟨_,hm_,hy_⟩=>Gs (f:=Hh.av) (xs:=r11.1) (y:=y16) O O O G18 hy_ hm_)) O (JLo (.agg (Hh.cs y16)) [64] O .sct ⟨Ua,G⟩ (fun hc=>Gi H0a O O O) O (JLo (.agg [G0 0,G0 1,G0 2,G0 1]) [] O .sct G (fun hc=>Ji (cs:=[G0 0,G0 1,G0 2,G0 1]) [(0,1),(1,1),(2,1),(3,1)] [G0 0,G0 0,G0 0,G0 0] [.int .i64 0,.int .i64 0,.int .i64 0,.int .i64 0] H40 Hca ⟨.inl O,.inl O,.inl O,.inl O,G⟩ O O) O (JLo (BL (decide (y16=(Hh.mk 0 1 2 1)))) [65,66] O .sct ⟨Ua,Ua,G⟩ (fun hc=>G81 (vs:=[.int .i64 y16.Bay,.int .i64 y16.Phase,.int .i64 y16.Lifts,.int .i64 y16.Covers]) (us:=[.int .i64 0,.int .i64 1,.int .i64 2,.int .i64 1]) 4 O (tq_72 y16 (Hh.mk 0 1 2 1)) J09 Ja0 O O O) O (JLh (BL (((((decide (v13=0))&&r14)&&(decide (r15=3)))&&(decide ((r11.1.length:Int)=2)))&&(decide (y16=(Hh.mk 0 1 2 1))))) (J3 O O O O) O (JLm (BL (((((decide (v13=0))&&r14)&&(decide (r15=3)))&&(decide ((r11.1.length:Int)=2)))&&(decide (y16=(Hh.mk 0 1 2 1))))) O (JLo (Ea r11.1) [] O .sct G (fun hc=>G5 O O) O ?_))))))
 obtain⟨y17,hy17,h⟩:=Gf h
 refine JLo (Ek y17) [70] O .sct ⟨Ua,G⟩ (fun hc=>(match Jm (Gv hc hy17) with | ⟨_,hm_,hy_⟩=>Gs (f:=Hh.av) (xs:=r11.1) (y:=y17) O O O G18 hy_ hm_)) O (JLo (.agg (Hh.cs y17)) [71] O .sct ⟨Ua,G⟩ (fun hc=>Gi H0a O O O) O (JLo (.agg [G0 0,G0 2,G0 1,G0 1]) [] O .sct G (fun hc=>Ji (cs:=[G0 0,G0 2,G0 1,G0 1]) [(0,1),(1,1),(2,1),(3,1)] [G0 0,G0 0,G0 0,G0 0] [.int .i64 0,.int .i64 0,.int .i64 0,.int .i64 0] H40 Hca ⟨.inl O,.inl O,.inl O,.inl O,G⟩ O O) O (JLo (BL (decide (y17=(Hh.mk 0 2 1 1)))) [72,73] O .sct ⟨Ua,Ua,G⟩ (fun hc=>G81 (vs:=[.int .i64 y17.Bay,.int .i64 y17.Phase,.int .i64 y17.Lifts,.int .i64 y17.Covers]) (us:=[.int .i64 0,.int .i64 2,.int .i64 1,.int .i64 1]) 4 O (tq_72 y17 (Hh.mk 0 2 1 1)) J09 Ja0 O O O) O (JLh (BL ((((((decide (v13=0))&&r14)&&(decide (r15=3)))&&(decide ((r11.1.length:Int)=2)))&&(decide (y16=(Hh.mk 0 1 2 1))))&&(decide (y17=(Hh.mk 0 2 1 1))))) (J3 O O O O) O (JLm (BL ((((((decide (v13=0))&&r14)&&(decide (r15=3)))&&(decide ((r11.1.length:Int)=2)))&&(decide (y16=(Hh.mk 0 1 2 1))))&&(decide (y17=(Hh.mk 0 2 1 1))))) O (G8 (hK12 ?_)))))))
 refine Gt (fin1 BL h)

def J7 (n:Int) (low:Int) (high:Int):Option Bool:=
 some ((decide (low≤n))&&(decide (n≤high)))
theorem Jd (n:Int) (low:Int) (high:Int) (r:Bool) (h:J7 n low high=some r):Pure En 109 [G0 n,G0 low,G0 high] (·=BL r):=by
 unfold J7 at h
 refine H0 [.tmp 6] Tryz.func109 O O (Jr fun hK1=>(JLm (BL false) O (G8 (hK1 (Jr fun hK2=>(JLm (G0 n) O (JLm (G0 low) O (JLh (BL (decide (low≤n))) (G06 O O O) O (JLm (BL (decide (low≤n))) O (JLo (G0 n) [] O .sct G (fun hc=>G5 O O) O (JLo (G0 high) [] O .sct G (fun hc=>G5 O O) O (JLo (BL (decide (n≤high))) [11,12] O .sct ⟨Ua,Ua,G⟩ (fun hc=>H97 O O O) O (JLh (BL ((decide (low≤n))&&(decide (n≤high)))) (J3 O O O O) O (JLm (BL ((decide (low≤n))&&(decide (n≤high)))) O (G8 (hK2 (Gt (fin1 BL h))))))))))))))))))

def Zw (c:G4):Option Bool:=
 each (fun y41 i41 (s41:Unit) nx41=>
  bif ((decide (y41 < 0))||(decide (c.Tiers≤y41))) then
  (some false)
  else
  (bnd (bif decide (0 < (i41:Int)) then Yn ((i41:Int) - 1) some else some 0) fun v49=>
   bnd (bif decide (0 < (i41:Int)) then Jc c.Plugs v49 some else some default) fun y50=>
   bif ((decide (0 < (i41:Int)))&&(decide (y41≤y50))) then
   (some false)
   else
   (nx41 ())))
 (fun(s41:Unit)=>
  bnd (J7 c.X (-500000) 500000) fun r53=>
  bnd (bif r53 then J7 c.Y (-500000) 500000 else some default) fun r54=>
  bnd (bif (r53&&r54) then J7 c.Z (-500000) 500000 else some default) fun r55=>
  bnd (J7 c.Kilos20 0 500000000) fun r57=>
  bnd (bif r57 then J7 c.Kilos40 0 500000000 else some default) fun r58=>
  bnd (bif (r57&&r58) then J7 c.Lash 0 1000000000000 else some default) fun r59=>
  bnd (J7 c.Bay 0 39) fun r61=>
  bnd (bif r61 then J7 c.Row 0 30 else some default) fun r62=>
  bnd (bif (r61&&r62) then J7 c.Tiers 1 10 else some default) fun r63=>
  bnd (bif ((r61&&r62)&&r63) then J7 c.Height 0 40000 else some default) fun r64=>
  some (((((r61&&r62)&&r63)&&r64)&&((r57&&r58)&&r59))&&((r53&&r54)&&r55))) c.Plugs 0 ()
theorem H7e (c:G4) (r:Bool) (h:Zw c=some r):Pure En 110 [.agg (G4.cs c)] (·=BL r):=by
 unfold Zw at h
 refine H0 [.tmp 2] Tryz.func110 O O (Jr fun hK1=>(JLh (.ptr 1159 0) (Jq (cs:=(G4.cs c)) 1159 O O O O O) O (JLm (BL false) O (G8 (hK1 (Gx [(1,Ef c)] [] 1159 rfl rfl rfl G rfl (by exact⟨.ptr,G⟩) (Js fun hK2=>Jr fun hK3=>(JLm (G0 0) O (G8 (hK3 (Gk ?_)))))))))))
 obtain⟨b41,kx41,hb41,hkx41,h⟩:=J4 h
 refine H6 (fun i41 (s41:Unit)=>each b41 kx41 (List.drop i41 c.Plugs) i41 s41=some r) (fun i41 s41=>[(1,Ef c),(3,Em i41)]) (fun i41 s41=>[]) (fun i41=>c.Plugs.length - i41) 0 () h ⟨⟨.same O,.same O,G⟩,G,O⟩ ?_
 clear h
 intro i41 s41 hi41 K41 e41
 refine Js fun hK42=>Jr fun hK43=>(JLm (Em i41) O (JLh (.dptr [E1 c.Plugs,G0 c.X,G0 c.Y,G0 c.Z]) (Ga Rq O O O) O (JLh (E1 c.Plugs) (Gh J2 O O O) O (JLl H4 O O O fun hm9=>(JLh (BL (decide ((i41:Int) < (c.Plugs.length:Int)))) (Hy O O O) O (G8 (hK43 (Gj O (fun hb=>?_) (fun hb=>?_)))))))))
 ·
  have hk41:=Je hb
  obtain⟨y41,nx41,hy41,hn41,h⟩:=Hs hi41 hk41
  replace h:=Y8 hb41 h
  refine Gm (hK42 (Js fun hK44=>Gk (Js fun hK45=>Js fun hK46=>?_)))
  refine JC_d0 Jb (by kernel_rfl) (Dq (.dptr [E1 c.Plugs,G0 c.X,G0 c.Y,G0 c.Z]) (Ga Rq O O O) O (Dq (E1 c.Plugs) (Gh J2 O O O) O (Dq (Em i41) (G5 O O) O (Dq (.dptr [G0 y41]) (Gs (f:=G0) (xs:=c.Plugs) (y:=y41) O O O H4 hy41 O) O (Dq (G0 y41) (Gh Gc O O O) O (Dq (BL (decide (y41 < 0))) (Hy O O O) O (Dq (BL (decide (y41 < 0))) (G5 O O) O (Do (.dptr [E1 c.Plugs,G0 c.X,G0 c.Y,G0 c.Z]) [] O .scf G (fun hc=>Ga Rq O O O) O (Do (E1 c.Plugs) [20] O .scf ⟨Ua,G⟩ (fun hc=>Gh J2 O O O) O (Do (Em i41) [] O .scf G (fun hc=>G5 O O) O (Do (.dptr [G0 y41]) [21,22] O .scf ⟨Ua,Ua,G⟩ (fun hc=>Gs (f:=G0) (xs:=c.Plugs) (y:=y41) O O O H4 hy41 O) O (Do (G0 y41) [23] O .scf ⟨Ua,G⟩ (fun hc=>Gh Gc O O O) O (Do (.dptr [G0 c.Tiers,G0 c.Height,G0 c.Kilos20,G0 c.Kilos40,G0 c.Lash,E1 c.Plugs,G0 c.X,G0 c.Y,G0 c.Z]) [] O .scf G (fun hc=>Ga G26 O O O) O ?_)))))))))))))
  refine Do (G0 c.Tiers) [25] O .scf ⟨Ua,G⟩ (fun hc=>Gh Gc O O O) O (Do (BL (decide (c.Tiers≤y41))) [24,26] O .scf ⟨Ua,Ua,G⟩ (fun hc=>G06 O O O) O (Dq (BL ((decide (y41 < 0))||(decide (c.Tiers≤y41)))) (Y7 O O O O) O (Dnil (hK46 (JCc O h (fun h hb=>?_) (fun h hb=>?_))))))
  ·
   refine Jr fun hK47=>(JLm (BL false) O (G8 (hK47 (Gt (fin1 BL h)))))
  ·
   refine Gm (hK45 (Js fun hK48=>?_))
   obtain⟨v49,hv49,h⟩:=Gf h
   obtain⟨y50,hy50,h⟩:=Gf h
   refine JC_d0 Jb (by kernel_rfl) (Dq (Em i41) (G5 O O) O (Dq (BL (decide (0 < (i41:Int)))) (G4d O O O) O (Dq (BL (decide (0 < (i41:Int)))) (G5 O O) O (Do (.dptr [E1 c.Plugs,G0 c.X,G0 c.Y,G0 c.Z]) [] O .sct G (fun hc=>Ga Rq O O O) O (Do (E1 c.Plugs) [32] O .sct ⟨Ua,G⟩ (fun hc=>Gh J2 O O O) O (Do (Em i41) [] O .sct G (fun hc=>G5 O O) O (Do (G0 v49) [34] O .sct ⟨Ua,G⟩ (fun hc=>G6d (G1c (Gv hc hv49)) O O O) O (Do (.dptr [G0 y50]) [33,35] O .sct ⟨Ua,Ua,G⟩ (fun hc=>(match Jm (Gv hc hy50) with | ⟨_,hm_,hy_⟩=>Gs (f:=G0) (xs:=c.Plugs) (y:=y50) O O O H4 hy_ hm_)) O (Do (G0 y50) [36] O .sct ⟨Ua,G⟩ (fun hc=>Gh Gc O O O) O (Do (.dptr [E1 c.Plugs,G0 c.X,G0 c.Y,G0 c.Z]) [] O .sct G (fun hc=>Ga Rq O O O) O (Do (E1 c.Plugs) [38] O .sct ⟨Ua,G⟩ (fun hc=>Gh J2 O O O) O (Do (Em i41) [] O .sct G (fun hc=>G5 O O) O (Do (.dptr [G0 y41]) [39,40] O .sct ⟨Ua,Ua,G⟩ (fun hc=>Gs (f:=G0) (xs:=c.Plugs) (y:=y41) O O O H4 hy41 O) O ?_)))))))))))))
   refine Do (G0 y41) [41] O .sct ⟨Ua,G⟩ (fun hc=>Gh Gc O O O) O (Do (BL (decide (y41≤y50))) [37,42] O .sct ⟨Ua,Ua,G⟩ (fun hc=>G06 O O O) O (Dq (BL ((decide (0 < (i41:Int)))&&(decide (y41≤y50)))) (J3 O O O O) O (Dnil (hK48 (JCc O h (fun h hb=>?_) (fun h hb=>?_))))))
   ·
    refine Jr fun hK51=>(JLm (BL false) O (G8 (hK51 (Gt (fin1 BL h)))))
   ·
    refine Gm (hK44 (G2 (JLm (Em i41) O (JLh (G0 ((i41+1:Nat):Int)) (Hx (Hc hk41 hm9) O O O) O (JLm (G0 ((i41+1:Nat):Int)) O (G8 (e41 _ _ (i41+1) () (app1 hn41 h) (by omega) ⟨⟨.same rfl,.same rfl,G⟩,G,rfl⟩)))))))
 ·
  have h:=app1 hkx41 (Ht hi41 (H9 hb))
  refine Hd (hK2 (Jr fun hK52=>(JLh (.dptr [G0 c.X,G0 c.Y,G0 c.Z]) (Ga H17 O O O) O (JLh (G0 c.X) (Gh Gc O O O) O ?_))))
  obtain⟨r53,hr53,h⟩:=Gf h
  refine JLh (BL r53) (Gq O (Jd c.X (-500000) 500000 r53 hr53) Zu ⟨O,O,O,O,O,O,G⟩) O (JLm (BL r53) O (JLo (.dptr [G0 c.Y,G0 c.Z]) [] O .sct G (fun hc=>Ga Gf2 O O O) O (JLo (G0 c.Y) [49] O .sct ⟨Ua,G⟩ (fun hc=>Gh Gc O O O) O ?_)))
  obtain⟨r54,hr54,h⟩:=Gf h
  refine JLo (BL r54) [50] O .sct ⟨Ua,G⟩ (fun hc=>Gq (args:=[G0 c.Y,G0 (-500000),G0 500000]) O (Jd c.Y (-500000) 500000 r54 (Gv hc hr54)) Zu ⟨O,O,O,O,O,O,G⟩) O (JLh (BL (r53&&r54)) (J3 O O O O) O (JLm (BL (r53&&r54)) O (JLo (.dptr [G0 c.Z]) [] O .sct G (fun hc=>Ga Gf1 O O O) O (JLo (G0 c.Z) [54] O .sct ⟨Ua,G⟩ (fun hc=>Gh Gc O O O) O ?_))))
  obtain⟨r55,hr55,h⟩:=Gf h
  refine JLo (BL r55) [55] O .sct ⟨Ua,G⟩ (fun hc=>Gq (args:=[G0 c.Z,G0 (-500000),G0 500000]) O (Jd c.Z (-500000) 500000 r55 (Gv hc hr55)) Zu ⟨O,O,O,O,O,O,G⟩) O (JLh (BL ((r53&&r54)&&r55)) (J3 O O O O) O (JLm (BL ((r53&&r54)&&r55)) O (G8 (hK52 (Jr fun hK56=>(JLh (.dptr [G0 c.Kilos20,G0 c.Kilos40,G0 c.Lash,E1 c.Plugs,G0 c.X,G0 c.Y,G0 c.Z]) (Ga H1a O O O) O (JLh (G0 c.Kilos20) (Gh Gc O O O) O ?_)))))))
  obtain⟨r57,hr57,h⟩:=Gf h
  refine JLh (BL r57) (Gq O (Jd c.Kilos20 0 500000000 r57 hr57) Zu ⟨O,O,O,O,O,O,G⟩) O (JLm (BL r57) O (JLo (.dptr [G0 c.Kilos40,G0 c.Lash,E1 c.Plugs,G0 c.X,G0 c.Y,G0 c.Z]) [] O .sct G (fun hc=>Ga H19 O O O) O (JLo (G0 c.Kilos40) [62] O .sct ⟨Ua,G⟩ (fun hc=>Gh Gc O O O) O ?_)))
  obtain⟨r58,hr58,h⟩:=Gf h
  refine JLo (BL r58) [63] O .sct ⟨Ua,G⟩ (fun hc=>Gq (args:=[G0 c.Kilos40,G0 0,G0 500000000]) O (Jd c.Kilos40 0 500000000 r58 (Gv hc hr58)) Zu ⟨O,O,O,O,O,O,G⟩) O (JLh (BL (r57&&r58)) (J3 O O O O) O (JLm (BL (r57&&r58)) O (JLo (.dptr [G0 c.Lash,E1 c.Plugs,G0 c.X,G0 c.Y,G0 c.Z]) [] O .sct G (fun hc=>Ga H18 O O O) O (JLo (G0 c.Lash) [67] O .sct ⟨Ua,G⟩ (fun hc=>Gh Gc O O O) O ?_))))
  obtain⟨r59,hr59,h⟩:=Gf h
  refine JLo (BL r59) [68] O .sct ⟨Ua,G⟩ (fun hc=>Gq (args:=[G0 c.Lash,G0 0,G0 1000000000000]) O (Jd c.Lash 0 1000000000000 r59 (Gv hc hr59)) Zu ⟨O,O,O,O,O,O,G⟩) O (JLh (BL ((r57&&r58)&&r59)) (J3 O O O O) O (JLm (BL ((r57&&r58)&&r59)) O (G8 (hK56 (Jr fun hK60=>(JLh (Ef c) (Ga Rr O O O) O (JLh (G0 c.Bay) (Gh Gc O O O) O ?_)))))))
  obtain⟨r61,hr61,h⟩:=Gf h
  refine JLh (BL r61) (Gq O (Jd c.Bay 0 39 r61 hr61) Zu ⟨O,O,O,O,O,O,G⟩) O (JLm (BL r61) O (JLo (.dptr [G0 c.Row,BL c.Deck,G0 c.Tiers,G0 c.Height,G0 c.Kilos20,G0 c.Kilos40,G0 c.Lash,E1 c.Plugs,G0 c.X,G0 c.Y,G0 c.Z]) [] O .sct G (fun hc=>Ga G27 O O O) O (JLo (G0 c.Row) [75] O .sct ⟨Ua,G⟩ (fun hc=>Gh Gc O O O) O ?_)))
  obtain⟨r62,hr62,h⟩:=Gf h
  refine JLo (BL r62) [76] O .sct ⟨Ua,G⟩ (fun hc=>Gq (args:=[G0 c.Row,G0 0,G0 30]) O (Jd c.Row 0 30 r62 (Gv hc hr62)) Zu ⟨O,O,O,O,O,O,G⟩) O (JLh (BL (r61&&r62)) (J3 O O O O) O (JLm (BL (r61&&r62)) O (JLo (.dptr [G0 c.Tiers,G0 c.Height,G0 c.Kilos20,G0 c.Kilos40,G0 c.Lash,E1 c.Plugs,G0 c.X,G0 c.Y,G0 c.Z]) [] O .sct G (fun hc=>Ga G26 O O O) O (JLo (G0 c.Tiers) [80] O .sct ⟨Ua,G⟩ (fun hc=>Gh Gc O O O) O ?_))))
  obtain⟨r63,hr63,h⟩:=Gf h
  refine JLo (BL r63) [81] O .sct ⟨Ua,G⟩ (fun hc=>Gq (args:=[G0 c.Tiers,G0 1,G0 10]) O (Jd c.Tiers 1 10 r63 (Gv hc hr63)) Zu ⟨O,O,O,O,O,O,G⟩) O (JLh (BL ((r61&&r62)&&r63)) (J3 O O O O) O (JLm (BL ((r61&&r62)&&r63)) O (JLo (.dptr [G0 c.Height,G0 c.Kilos20,G0 c.Kilos40,G0 c.Lash,E1 c.Plugs,G0 c.X,G0 c.Y,G0 c.Z]) [] O .sct G (fun hc=>Ga G49 O O O) O (JLo (G0 c.Height) [85] O .sct ⟨Ua,G⟩ (fun hc=>Gh Gc O O O) O ?_))))
  obtain⟨r64,hr64,h⟩:=Gf h
  refine JLo (BL r64) [86] O .sct ⟨Ua,G⟩ (fun hc=>Gq (args:=[G0 c.Height,G0 0,G0 40000]) O (Jd c.Height 0 40000 r64 (Gv hc hr64)) Zu ⟨O,O,O,O,O,O,G⟩) O (JLh (BL (((r61&&r62)&&r63)&&r64)) (J3 O O O O) O (JLm (BL (((r61&&r62)&&r63)&&r64)) O (JLo (BL ((r57&&r58)&&r59)) [] O .sct G (fun hc=>G5 O O) O (JLh (BL ((((r61&&r62)&&r63)&&r64)&&((r57&&r58)&&r59))) (J3 O O O O) O (JLm (BL ((((r61&&r62)&&r63)&&r64)&&((r57&&r58)&&r59))) O (JLo (BL ((r53&&r54)&&r55)) [] O .sct G (fun hc=>G5 O O) O (JLh (BL (((((r61&&r62)&&r63)&&r64)&&((r57&&r58)&&r59))&&((r53&&r54)&&r55))) (J3 O O O O) O (JLm (BL (((((r61&&r62)&&r63)&&r64)&&((r57&&r58)&&r59))&&((r53&&r54)&&r55))) O (G8 (hK60 (Gt (fin1 BL h))))))))))))

def Qi (rows:List Int) (row:Int):Option Bool:=
 each (fun y17 i17 (s17:Unit) nx17=>
  bif decide (y17=row) then
  (some true)
  else
  (nx17 ()))
 (fun(s17:Unit)=>
  some false) rows 0 ()
theorem Gbd (rows:List Int) (row:Int) (r:Bool) (h:Qi rows row=some r):Pure En 111 [E1 rows,G0 row] (·=BL r):=by
 unfold Qi at h
 refine H0 [.tmp 4] Tryz.func111 O O (Jr fun hK1=>(JLm (BL false) O (G8 (hK1 (Js fun hK2=>Jr fun hK3=>(JLm (G0 0) O (G8 (hK3 (Gk ?_)))))))))
 obtain⟨b17,kx17,hb17,hkx17,h⟩:=J4 h
 refine H6 (fun i17 (s17:Unit)=>each b17 kx17 (List.drop i17 rows) i17 s17=some r) (fun i17 s17=>[(0,E1 rows),(1,G0 row),(5,Em i17)]) (fun i17 s17=>[]) (fun i17=>rows.length - i17) 0 () h ⟨⟨.same O,.same O,.same O,G⟩,G,O⟩ ?_
 clear h
 intro i17 s17 hi17 K17 e17
 refine Js fun hK18=>Jr fun hK19=>(JLm (Em i17) O (JLm (E1 rows) O (JLl H4 O O O fun hm8=>(JLh (BL (decide ((i17:Int) < (rows.length:Int)))) (Hy O O O) O (G8 (hK19 (Gj O (fun hb=>?_) (fun hb=>?_))))))))
 ·
  have hk17:=Je hb
  obtain⟨y17,nx17,hy17,hn17,h⟩:=Hs hi17 hk17
  replace h:=Y8 hb17 h
  refine Gm (hK18 (Js fun hK20=>Gk (Jr fun hK21=>(JLm (E1 rows) O (JLm (Em i17) O (JLh (.dptr [G0 y17]) (Gs (f:=G0) (xs:=rows) (y:=y17) O O O H4 hy17 O) O (JLh (G0 y17) (Gh Gc O O O) O (JLm (G0 row) O (JLh (BL (decide (y17=row))) (Jk O O O) O (G8 (hK21 (JCc O h (fun h hb=>?_) (fun h hb=>?_)))))))))))))
  ·
   refine Jr fun hK22=>(JLm (BL true) O (G8 (hK22 (Gt (fin1 BL h)))))
  ·
   refine Gm (hK20 (G2 (JLm (Em i17) O (JLh (G0 ((i17+1:Nat):Int)) (Hx (Hc hk17 hm8) O O O) O (JLm (G0 ((i17+1:Nat):Int)) O (G8 (e17 _ _ (i17+1) () (app1 hn17 h) (by omega) ⟨⟨.same rfl,.same rfl,.same rfl,G⟩,G,rfl⟩)))))))
 ·
  have h:=app1 hkx17 (Ht hi17 (H9 hb))
  refine Hd (hK2 (Jr fun hK23=>(JLm (BL false) O (G8 (hK23 (Gt (fin1 BL h)))))))

def Y4 (F:Nat) (s:H8):Option Bool:=
 bnd (J7 (s.Columns.length:Int) 1 200) fun r4=>
 bif ((!r4)||(decide (40 < (s.Covers.length:Int)))) then
 (some false)
 else
 (each (fun y8 i8 (s8:Unit) nx8=>
   bnd (Zw y8) fun r14=>
   bif (!r14) then
   (some false)
   else
   (need (decide ((i8:Int)≤9223372036854775807)) <|
    upto (fun i34 (s34:Unit) nx34=>
     Jc s.Columns (i34:Int) fun y39=>
     bnd (bif decide (y39.Bay=y8.Bay) then Jc s.Columns (i34:Int) some else some default) fun y41=>
     bnd (bif ((decide (y39.Bay=y8.Bay))&&(decide (y41.Row=y8.Row))) then Jc s.Columns (i34:Int) some else some default) fun y42=>
     bif (((decide (y39.Bay=y8.Bay))&&(decide (y41.Row=y8.Row)))&&(y42.Deck==y8.Deck)) then
     (some false)
     else
     (nx34 ()))
    (fun(s34:Unit)=>
     nx8 ()) (i8:Int).toNat 0 ()))
  (fun(s8:Unit)=>
   each (fun y46 i46 (s46:Unit) nx46=>
    bnd (J7 y46.Bay 0 39) fun r53=>
    bif ((!r53)||(decide ((y46.Rows.length:Int)=0))) then
    (some false)
    else
    (each (fun y56 i56 (s56:Unit) nx56=>
      bnd (J7 y56 0 30) fun r62=>
      bnd (bif ((!(!r62))&&(decide (0 < (i56:Int)))) then Yn ((i56:Int) - 1) some else some 0) fun v63=>
      bnd (bif ((!(!r62))&&(decide (0 < (i56:Int)))) then Jc y46.Rows v63 some else some default) fun y64=>
      bif ((!r62)||((decide (0 < (i56:Int)))&&(decide (y56≤y64)))) then
      (some false)
      else
      (need (decide ((i46:Int)≤9223372036854775807)) <|
       upto (fun i84 (s84:Unit) nx84=>
        Jc s.Covers (i84:Int) fun y89=>
        bnd (bif decide (y89.Bay=y46.Bay) then Jc s.Covers (i84:Int) some else some default) fun y91=>
        bnd (bif decide (y89.Bay=y46.Bay) then Qi y91.Rows y56 else some default) fun r92=>
        bif ((decide (y89.Bay=y46.Bay))&&r92) then
        (some false)
        else
        (nx84 ()))
       (fun(s84:Unit)=>
        nx56 ()) (i46:Int).toNat 0 ()))
     (fun(s56:Unit)=>
      nx46 ()) y46.Rows 0 ()))
   (fun(s46:Unit)=>
    some true) s.Covers 0 ()) s.Columns 0 ())
theorem Gca (F:Nat) (s:H8) (r:Bool) (h:Y4 F s=some r):Pure En 68 [.agg (H8.cs s)] (·=BL r):=by
 unfold Y4 at h
 refine H0 [.tmp 2] Tryz.func68 O O (Jr fun hK1=>(JLh (.ptr 1108 0) (Jq (cs:=(H8.cs s)) 1108 O O O O O) O (JLm (BL false) O (G8 (hK1 (Gx [(1,Ed s)] [] 1108 rfl rfl rfl G rfl (by exact⟨.ptr,G⟩) (Js fun hK2=>?_)))))))
 refine Jr fun hK3=>(JLh (Ed s) (Ga Hi O O O) O (JLh (E5 s.Columns) (Gh Ho O O O) O (JLl H7 O O O fun hm11=>?_)))
 obtain⟨r4,hr4,h⟩:=Gf h
 refine JLh (BL r4) (Gq O (Jd (s.Columns.length:Int) 1 200 r4 hr4) Zu ⟨O,O,O,O,O,O,G⟩) O (JLh (BL (!r4)) (R9 (b:=r4) O O) O (JLm (BL (!r4)) O (JLo (.dptr [E4 s.Covers,G0 s.Light.Kilos,G0 s.Light.X,G0 s.Light.Y,G0 s.Light.Z,E7 s.Rows,E6 s.Frames,E8 s.Tanks,G0 s.G3.Tolerance,G0 s.G3.Trim,G0 s.G3.List_,G0 s.G3.Stability]) [] O .scf G (fun hc=>Ga Jp O O O) O (JLo (E4 s.Covers) [15] O .scf ⟨Ua,G⟩ (fun hc=>Gh Q4 O O O) O (JLo (Em s.Covers.length) [16] O .scf ⟨Ua,G⟩ (fun hc=>Qx (f:=Ge.av) (xs:=s.Covers) Hu O O) O (JLo (BL (decide (40 < (s.Covers.length:Int)))) [17] O .scf ⟨Ua,G⟩ (fun hc=>G4d O O O) O (JLh (BL ((!r4)||(decide (40 < (s.Covers.length:Int))))) (Y7 O O O O) O (G8 (hK3 ?_)))))))))
 refine JCc O h (fun h hb=>?_) (fun h hb=>?_)
 ·
  refine Jr fun hK5=>(JLm (BL false) O (G8 (hK5 (Gt (fin1 BL h)))))
 ·
  refine Gm (hK2 (Js fun hK6=>Jr fun hK7=>(JLm (G0 0) O (G8 (hK7 (Gk ?_))))))
  obtain⟨b8,kx8,hb8,hkx8,h⟩:=J4 h
  refine H6 (fun i8 (s8:Unit)=>each b8 kx8 (List.drop i8 s.Columns) i8 s8=some r) (fun i8 s8=>[(1,Ed s),(3,Em i8)]) (fun i8 s8=>[]) (fun i8=>s.Columns.length - i8) 0 () h ⟨⟨.same O,.same O,G⟩,G,O⟩ ?_
  clear h
  intro i8 s8 hi8 K8 e8
  refine Js fun hK9=>Jr fun hK10=>(JLm (Em i8) O (JLh (Ed s) (Ga Hi O O O) O (JLh (E5 s.Columns) (Gh Ho O O O) O (JLl H7 O O O fun hm23=>(JLh (BL (decide ((i8:Int) < (s.Columns.length:Int)))) (Hy O O O) O (G8 (hK10 (Gj O (fun hb=>?_) (fun hb=>?_)))))))))
  ·
   have hk8:=Je hb
   obtain⟨y8,nx8,hy8,hn8,h⟩:=Hs hi8 hk8
   replace h:=Y8 hb8 h
   refine Gm (hK9 (Js fun hK11=>Gk (Js fun hK12=>Jr fun hK13=>(JLh (Ed s) (Ga Hi O O O) O (JLh (E5 s.Columns) (Gh Ho O O O) O (JLm (Em i8) O (JLh (Ef y8) (Gs (f:=G4.av) (xs:=s.Columns) (y:=y8) O O O H7 hy8 O) O (JLh (.agg (G4.cs y8)) (Gi Yc O O O) O ?_))))))))
   obtain⟨r14,hr14,h⟩:=Gf h
   refine JLh (BL r14) (Gq O (H7e y8 r14 hr14) Qac ⟨O,O,G⟩) O (JLh (BL (!r14)) (R9 (b:=r14) O O) O (G8 (hK13 (JCc O h (fun h hb=>?_) (fun h hb=>?_)))))
   ·
    refine Jr fun hK15=>(JLm (BL false) O (G8 (hK15 (Gt (fin1 BL h)))))
   ·
    refine Gm (hK12 (Jr fun hK16=>(JLm (G0 0) O (G8 (hK16 (Gk ?_))))))
    obtain⟨hx34,h⟩:=Hz h
    obtain⟨b34,kx34,hb34,hkx34,h⟩:=G44 h
    refine H6 (fun i34 (s34:Unit)=>upto b34 kx34 ((i8:Int).toNat - i34) i34 s34=some r) (fun i34 s34=>[(1,Ed s),(3,Em i8),(4,Em i34)]) (fun i34 s34=>[]) (fun i34=>(i8:Int).toNat - i34) 0 () h ⟨⟨.same O,.same O,.same O,G⟩,G,O⟩ ?_
    clear h
    intro i34 s34 hi34 K34 e34
    refine Js fun hK35=>Jr fun hK36=>(JLm (Em i34) O (JLm (Em i8) O (JLh (BL (decide ((i34:Int) < (i8:Int)))) (Hy O O O) O (G8 (hK36 (Gj O (fun hb=>?_) (fun hb=>?_)))))))
    ·
     have hk34:=G0b hb
     obtain⟨nx34,hn34,h⟩:=G07 hi34 hk34
     replace h:=H9f hb34 h
     refine Gm (hK35 (Js fun hK37=>Gk (Js fun hK38=>?_)))
     obtain⟨m40,y39,hm40,hy39,h⟩:=R1 h
     obtain⟨y41,hy41,h⟩:=Gf h
     obtain⟨y42,hy42,h⟩:=Gf h
     refine JC_d0 Jb (by kernel_rfl) (Dq (Ed s) (Ga Hi O O O) O (Dq (E5 s.Columns) (Gh Ho O O O) O (Dq (Em i34) (G5 O O) O (Dq (Ef y39) (Gs (f:=G4.av) (xs:=s.Columns) (y:=y39) O O O H7 hy39 hm40) O (Dq (Ef y39) (Ga Rr O O O) O (Dq (G0 y39.Bay) (Gh Gc O O O) O (Dq (Ed s) (Ga Hi O O O) O (Dq (E5 s.Columns) (Gh Ho O O O) O (Dq (Em i8) (G5 O O) O (Dq (Ef y8) (Gs (f:=G4.av) (xs:=s.Columns) (y:=y8) O O O H7 hy8 O) O (Dq (Ef y8) (Ga Rr O O O) O (Dq (G0 y8.Bay) (Gh Gc O O O) O (Dq (BL (decide (y39.Bay=y8.Bay))) (Jk O O O) O ?_)))))))))))))
     refine Dq (BL (decide (y39.Bay=y8.Bay))) (G5 O O) O (Do (Ed s) [] O .sct G (fun hc=>Ga Hi O O O) O (Do (E5 s.Columns) [53] O .sct ⟨Ua,G⟩ (fun hc=>Gh Ho O O O) O (Do (Em i34) [] O .sct G (fun hc=>G5 O O) O (Do (Ef y41) [54,55] O .sct ⟨Ua,Ua,G⟩ (fun hc=>(match Jm (Gv hc hy41) with | ⟨_,hm_,hy_⟩=>Gs (f:=G4.av) (xs:=s.Columns) (y:=y41) O O O H7 hy_ hm_)) O (Do (.dptr ((G4.cs y41).drop 1)) [56] O .sct ⟨Ua,G⟩ (fun hc=>Ga G27 O O O) O (Do (G0 y41.Row) [57] O .sct ⟨Ua,G⟩ (fun hc=>Gh Gc O O O) O (Do (Ed s) [] O .sct G (fun hc=>Ga Hi O O O) O (Do (E5 s.Columns) [59] O .sct ⟨Ua,G⟩ (fun hc=>Gh Ho O O O) O (Do (Em i8) [] O .sct G (fun hc=>G5 O O) O (Do (Ef y8) [60,61] O .sct ⟨Ua,Ua,G⟩ (fun hc=>Gs (f:=G4.av) (xs:=s.Columns) (y:=y8) O O O H7 hy8 O) O (Do (.dptr ((G4.cs y8).drop 1)) [62] O .sct ⟨Ua,G⟩ (fun hc=>Ga G27 O O O) O (Do (G0 y8.Row) [63] O .sct ⟨Ua,G⟩ (fun hc=>Gh Gc O O O) O (Do (BL (decide (y41.Row=y8.Row))) [58,64] O .sct ⟨Ua,Ua,G⟩ (fun hc=>Jk O O O) O ?_)))))))))))))
     refine Dq (BL ((decide (y39.Bay=y8.Bay))&&(decide (y41.Row=y8.Row)))) (J3 O O O O) O (Dq (BL ((decide (y39.Bay=y8.Bay))&&(decide (y41.Row=y8.Row)))) (G5 O O) O (Do (Ed s) [] O .sct G (fun hc=>Ga Hi O O O) O (Do (E5 s.Columns) [68] O .sct ⟨Ua,G⟩ (fun hc=>Gh Ho O O O) O (Do (Em i34) [] O .sct G (fun hc=>G5 O O) O (Do (Ef y42) [69,70] O .sct ⟨Ua,Ua,G⟩ (fun hc=>(match Jm (Gv hc hy42) with | ⟨_,hm_,hy_⟩=>Gs (f:=G4.av) (xs:=s.Columns) (y:=y42) O O O H7 hy_ hm_)) O (Do (.dptr ((G4.cs y42).drop 2)) [71] O .sct ⟨Ua,G⟩ (fun hc=>Ga Yb O O O) O (Do (BL y42.Deck) [72] O .sct ⟨Ua,G⟩ (fun hc=>Gh R5 O O O) O (Do (Ed s) [] O .sct G (fun hc=>Ga Hi O O O) O (Do (E5 s.Columns) [74] O .sct ⟨Ua,G⟩ (fun hc=>Gh Ho O O O) O (Do (Em i8) [] O .sct G (fun hc=>G5 O O) O (Do (Ef y8) [75,76] O .sct ⟨Ua,Ua,G⟩ (fun hc=>Gs (f:=G4.av) (xs:=s.Columns) (y:=y8) O O O H7 hy8 O) O (Do (.dptr ((G4.cs y8).drop 2)) [77] O .sct ⟨Ua,G⟩ (fun hc=>Ga Yb O O O) O (Do (BL y8.Deck) [78] O .sct ⟨Ua,G⟩ (fun hc=>Gh R5 O O O) O ?_)))))))))))))
     refine Do (BL (y42.Deck==y8.Deck)) [73,79] O .sct ⟨Ua,Ua,G⟩ (fun hc=>J2a Ge1 O O O) O (Dq (BL (((decide (y39.Bay=y8.Bay))&&(decide (y41.Row=y8.Row)))&&(y42.Deck==y8.Deck))) (J3 O O O O) O (Dnil (hK38 (JCc O h (fun h hb=>?_) (fun h hb=>?_)))))
     ·
      refine Jr fun hK43=>(JLm (BL false) O (G8 (hK43 (Gt (fin1 BL h)))))
     ·
      refine Gm (hK37 (G2 (JLm (Em i34) O (JLh (G0 ((i34+1:Nat):Int)) (Hx (Hc hk34 (Yt hx34)) O O O) O (JLm (G0 ((i34+1:Nat):Int)) O (G8 (e34 _ _ (i34+1) () (app1 hn34 h) (by omega) ⟨⟨.same rfl,.same rfl,.same rfl,G⟩,G,rfl⟩)))))))
    ·
     have h:=app1 hkx34 (G08 hi34 (Qr hb))
     refine Hd (hK11 (G2 (JLm (Em i8) O (JLh (G0 ((i8+1:Nat):Int)) (Hx (Hc hk8 hm23) O O O) O (JLm (G0 ((i8+1:Nat):Int)) O (G8 (e8 _ _ (i8+1) () (app1 hn8 h) (by omega) ⟨⟨.same rfl,.same rfl,G⟩,G,rfl⟩)))))))
  ·
   have h:=app1 hkx8 (Ht hi8 (H9 hb))
   refine Hd (hK6 (Js fun hK44=>Jr fun hK45=>(JLm (G0 0) O (G8 (hK45 (Gk ?_))))))
   obtain⟨b46,kx46,hb46,hkx46,h⟩:=J4 h
   refine H6 (fun i46 (s46:Unit)=>each b46 kx46 (List.drop i46 s.Covers) i46 s46=some r) (fun i46 s46=>[(1,Ed s),(5,Em i46)]) (fun i46 s46=>[]) (fun i46=>s.Covers.length - i46) 0 () h ⟨⟨.same O,.same O,G⟩,G,O⟩ ?_
   clear h
   intro i46 s46 hi46 K46 e46
   refine Js fun hK47=>Jr fun hK48=>(JLm (Em i46) O (JLh (.dptr [E4 s.Covers,G0 s.Light.Kilos,G0 s.Light.X,G0 s.Light.Y,G0 s.Light.Z,E7 s.Rows,E6 s.Frames,E8 s.Tanks,G0 s.G3.Tolerance,G0 s.G3.Trim,G0 s.G3.List_,G0 s.G3.Stability]) (Ga Jp O O O) O (JLh (E4 s.Covers) (Gh Q4 O O O) O (JLl Hu O O O fun hm85=>(JLh (BL (decide ((i46:Int) < (s.Covers.length:Int)))) (Hy O O O) O (G8 (hK48 (Gj O (fun hb=>?_) (fun hb=>?_)))))))))
   ·
    have hk46:=Je hb
    obtain⟨y46,nx46,hy46,hn46,h⟩:=Hs hi46 hk46
    replace h:=Y8 hb46 h
    refine Gm (hK47 (Js fun hK49=>Gk (Jr fun hK50=>(JLh (.dptr [E4 s.Covers,G0 s.Light.Kilos,G0 s.Light.X,G0 s.Light.Y,G0 s.Light.Z,E7 s.Rows,E6 s.Frames,E8 s.Tanks,G0 s.G3.Tolerance,G0 s.G3.Trim,G0 s.G3.List_,G0 s.G3.Stability]) (Ga Jp O O O) O (JLh (E4 s.Covers) (Gh Q4 O O O) O (JLm (Em i46) O (JLh (.dptr [G0 y46.Bay,E1 y46.Rows]) (Gs (f:=Ge.av) (xs:=s.Covers) (y:=y46) O O O Hu hy46 O) O (JLh (.agg [G0 y46.Bay,E1 y46.Rows]) (Gi Z8 O O O) O (JLh (.ptr 1109 0) (Ju 1109 2 G7b O O) O (Ja (u:=.junk) (J0 (u:=.agg [G0 y46.Bay,E1 y46.Rows]) (ds:=[G0 y46.Bay,E1 y46.Rows]) Gd9 O O O O O O O O) (G8 (hK50 ?_))))))))))))
    refine Gx [(1,Ed s),(5,Em i46),(6,.dptr [G0 y46.Bay,E1 y46.Rows])] [] 1109 rfl rfl rfl G rfl (by exact⟨.conv (.same rfl),.conv (.same rfl),.ptr,G⟩) (Js fun hK51=>Jr fun hK52=>(JLh (.dptr [G0 y46.Bay,E1 y46.Rows]) (Ga Ya O O O) O (JLh (G0 y46.Bay) (Gh Gc O O O) O ?_)))
    obtain⟨r53,hr53,h⟩:=Gf h
    refine JLh (BL r53) (Gq O (Jd y46.Bay 0 39 r53 hr53) Zu ⟨O,O,O,O,O,O,G⟩) O (JLh (BL (!r53)) (R9 (b:=r53) O O) O (JLm (BL (!r53)) O (JLo (.dptr [E1 y46.Rows]) [] O .scf G (fun hc=>Ga Qd O O O) O (JLo (E1 y46.Rows) [99] O .scf ⟨Ua,G⟩ (fun hc=>Gh J2 O O O) O (JLo (Em y46.Rows.length) [100] O .scf ⟨Ua,G⟩ (fun hc=>Qx (f:=G0) (xs:=y46.Rows) H4 O O) O (JLo (BL (decide ((y46.Rows.length:Int)=0))) [101] O .scf ⟨Ua,G⟩ (fun hc=>Jk O O O) O (JLh (BL ((!r53)||(decide ((y46.Rows.length:Int)=0)))) (Y7 O O O O) O (G8 (hK52 (JCc O h (fun h hb=>?_) (fun h hb=>?_)))))))))))
    ·
     refine Jr fun hK54=>(JLm (BL false) O (G8 (hK54 (Gt (fin1 BL h)))))
    ·
     refine Gm (hK51 (Jr fun hK55=>(JLm (G0 0) O (G8 (hK55 (Gk ?_))))))
     obtain⟨b56,kx56,hb56,hkx56,h⟩:=J4 h
     refine H6 (fun i56 (s56:Unit)=>each b56 kx56 (List.drop i56 y46.Rows) i56 s56=some r) (fun i56 s56=>[(1,Ed s),(5,Em i46),(6,.dptr [G0 y46.Bay,E1 y46.Rows]),(7,Em i56)]) (fun i56 s56=>[]) (fun i56=>y46.Rows.length - i56) 0 () h ⟨(by repeat' constructor),G,rfl⟩ ?_
     clear h
     intro i56 s56 hi56 K56 e56
     refine Js fun hK57=>Jr fun hK58=>(JLm (Em i56) O (JLh (.dptr [E1 y46.Rows]) (Ga Qd O O O) O (JLh (E1 y46.Rows) (Gh J2 O O O) O (JLl H4 O O O fun hm107=>(JLh (BL (decide ((i56:Int) < (y46.Rows.length:Int)))) (Hy O O O) O (G8 (hK58 (Gj O (fun hb=>?_) (fun hb=>?_)))))))))
     ·
      have hk56:=Je hb
      obtain⟨y56,nx56,hy56,hn56,h⟩:=Hs hi56 hk56
      replace h:=Y8 hb56 h
      refine Gm (hK57 (Js fun hK59=>Gk (Js fun hK60=>Js fun hK61=>?_)))
      obtain⟨r62,hr62,h⟩:=Gf h
      obtain⟨v63,hv63,h⟩:=Gf h
      obtain⟨y64,hy64,h⟩:=Gf h
      refine JC_d0 Jb (by kernel_rfl) (Dq (.dptr [E1 y46.Rows]) (Ga Qd O O O) O (Dq (E1 y46.Rows) (Gh J2 O O O) O (Dq (Em i56) (G5 O O) O (Dq (.dptr [G0 y56]) (Gs (f:=G0) (xs:=y46.Rows) (y:=y56) O O O H4 hy56 O) O (Dq (G0 y56) (Gh Gc O O O) O (Dq (BL r62) (Gq (args:=[G0 y56,G0 0,G0 30]) O (Jd y56 0 30 r62 hr62) Zu ⟨O,O,O,O,O,O,G⟩) O (Dq (BL (!r62)) (R9 (b:=r62) O O) O (Dq (BL (!r62)) (G5 O O) O (Do (Em i56) [] O .scf G (fun hc=>G5 O O) O (Do (BL (decide (0 < (i56:Int)))) [119] O .scf ⟨Ua,G⟩ (fun hc=>G4d O O O) O (Do (BL (decide (0 < (i56:Int)))) [120] O .scf ⟨Ua,G⟩ (fun hc=>G5 O O) O (Do (.dptr [E1 y46.Rows]) [] O .optt G (fun hc=>Ga Qd O O O) O (Do (E1 y46.Rows) [122] O .optt ⟨Ua,G⟩ (fun hc=>Gh J2 O O O) O ?_)))))))))))))
      refine Do (Em i56) [] O .optt G (fun hc=>G5 O O) O (Do (G0 v63) [124] O .optt ⟨Ua,G⟩ (fun hc=>G6d (G1c (Gv hc hv63)) O O O) O (Do (.dptr [G0 y64]) [123,125] O .optt ⟨Ua,Ua,G⟩ (fun hc=>(match Jm (Gv hc hy64) with | ⟨_,hm_,hy_⟩=>Gs (f:=G0) (xs:=y46.Rows) (y:=y64) O O O H4 hy_ hm_)) O (Do (G0 y64) [126] O .optt ⟨Ua,G⟩ (fun hc=>Gh Gc O O O) O (Do (.dptr [E1 y46.Rows]) [] O .optt G (fun hc=>Ga Qd O O O) O (Do (E1 y46.Rows) [128] O .optt ⟨Ua,G⟩ (fun hc=>Gh J2 O O O) O (Do (Em i56) [] O .optt G (fun hc=>G5 O O) O (Do (.dptr [G0 y56]) [129,130] O .optt ⟨Ua,Ua,G⟩ (fun hc=>Gs (f:=G0) (xs:=y46.Rows) (y:=y56) O O O H4 hy56 O) O (Do (G0 y56) [131] O .optt ⟨Ua,G⟩ (fun hc=>Gh Gc O O O) O (Do (BL (decide (y56≤y64))) [127,132] O .optt ⟨Ua,Ua,G⟩ (fun hc=>G06 O O O) O (Dg (.opt (!(!r62)) (BL ((decide (0 < (i56:Int)))&&(decide (y56≤y64))))) (Gg [(121,BL (decide (0 < (i56:Int)))),(133,_)] O O O .scf ⟨.all id,.part,G⟩ (fun hc=>J3 O O O O) O) O (Dq (BL ((!r62)||((decide (0 < (i56:Int)))&&(decide (y56≤y64))))) (Y7 O O O O) O (Dnil ?_))))))))))))
      refine hK61 (JCc O h (fun h hb=>?_) (fun h hb=>?_))
      ·
       refine Jr fun hK65=>(JLm (BL false) O (G8 (hK65 (Gt (fin1 BL h)))))
      ·
       refine Gm (hK60 (Jr fun hK66=>(JLm (G0 0) O (G8 (hK66 (Gk ?_))))))
       obtain⟨hx84,h⟩:=Hz h
       obtain⟨b84,kx84,hb84,hkx84,h⟩:=G44 h
       refine H6 (fun i84 (s84:Unit)=>upto b84 kx84 ((i46:Int).toNat - i84) i84 s84=some r) (fun i84 s84=>[(1,Ed s),(5,Em i46),(6,.dptr [G0 y46.Bay,E1 y46.Rows]),(7,Em i56),(8,Em i84)]) (fun i84 s84=>[]) (fun i84=>(i46:Int).toNat - i84) 0 () h ⟨(by repeat' constructor),G,rfl⟩ ?_
       clear h
       intro i84 s84 hi84 K84 e84
       refine Js fun hK85=>Jr fun hK86=>(JLm (Em i84) O (JLm (Em i46) O (JLh (BL (decide ((i84:Int) < (i46:Int)))) (Hy O O O) O (G8 (hK86 (Gj O (fun hb=>?_) (fun hb=>?_)))))))
       ·
        have hk84:=G0b hb
        obtain⟨nx84,hn84,h⟩:=G07 hi84 hk84
        replace h:=H9f hb84 h
        refine Gm (hK85 (Js fun hK87=>Gk (Js fun hK88=>?_)))
        obtain⟨m90,y89,hm90,hy89,h⟩:=R1 h
        obtain⟨y91,hy91,h⟩:=Gf h
        obtain⟨r92,hr92,h⟩:=Gf h
        refine JC_d0 Jb (by kernel_rfl) (Dq (.dptr [E4 s.Covers,G0 s.Light.Kilos,G0 s.Light.X,G0 s.Light.Y,G0 s.Light.Z,E7 s.Rows,E6 s.Frames,E8 s.Tanks,G0 s.G3.Tolerance,G0 s.G3.Trim,G0 s.G3.List_,G0 s.G3.Stability]) (Ga Jp O O O) O (Dq (E4 s.Covers) (Gh Q4 O O O) O (Dq (Em i84) (G5 O O) O (Dq (.dptr [G0 y89.Bay,E1 y89.Rows]) (Gs (f:=Ge.av) (xs:=s.Covers) (y:=y89) O O O Hu hy89 hm90) O (Dq (.dptr [G0 y89.Bay,E1 y89.Rows]) (Ga Ya O O O) O (Dq (G0 y89.Bay) (Gh Gc O O O) O (Dq (.dptr [G0 y46.Bay,E1 y46.Rows]) (Ga Ya O O O) O (Dq (G0 y46.Bay) (Gh Gc O O O) O (Dq (BL (decide (y89.Bay=y46.Bay))) (Jk O O O) O (Dq (BL (decide (y89.Bay=y46.Bay))) (G5 O O) O (Do (.dptr [E4 s.Covers,G0 s.Light.Kilos,G0 s.Light.X,G0 s.Light.Y,G0 s.Light.Z,E7 s.Rows,E6 s.Frames,E8 s.Tanks,G0 s.G3.Tolerance,G0 s.G3.Trim,G0 s.G3.List_,G0 s.G3.Stability]) [] O .sct G (fun hc=>Ga Jp O O O) O (Do (E4 s.Covers) [151] O .sct ⟨Ua,G⟩ (fun hc=>Gh Q4 O O O) O (Do (Em i84) [] O .sct G (fun hc=>G5 O O) O ?_)))))))))))))
        refine Do (.dptr [G0 y91.Bay,E1 y91.Rows]) [152,153] O .sct ⟨Ua,Ua,G⟩ (fun hc=>(match Jm (Gv hc hy91) with | ⟨_,hm_,hy_⟩=>Gs (f:=Ge.av) (xs:=s.Covers) (y:=y91) O O O Hu hy_ hm_)) O (Do (.dptr [E1 y91.Rows]) [154] O .sct ⟨Ua,G⟩ (fun hc=>Ga Qd O O O) O (Do (E1 y91.Rows) [155] O .sct ⟨Ua,G⟩ (fun hc=>Gh J2 O O O) O (Do (.dptr [E1 y46.Rows]) [] O .sct G (fun hc=>Ga Qd O O O) O (Do (E1 y46.Rows) [157] O .sct ⟨Ua,G⟩ (fun hc=>Gh J2 O O O) O (Do (Em i56) [] O .sct G (fun hc=>G5 O O) O (Do (.dptr [G0 y56]) [158,159] O .sct ⟨Ua,Ua,G⟩ (fun hc=>Gs (f:=G0) (xs:=y46.Rows) (y:=y56) O O O H4 hy56 O) O (Do (G0 y56) [160] O .sct ⟨Ua,G⟩ (fun hc=>Gh Gc O O O) O (Do (BL r92) [156,161] O .sct ⟨Ua,Ua,G⟩ (fun hc=>Gq (args:=[E1 y91.Rows,G0 y56]) O (Gbd y91.Rows y56 r92 (Gv hc hr92)) Jc9 ⟨O,O,O,O,G⟩) O (Dq (BL ((decide (y89.Bay=y46.Bay))&&r92)) (J3 O O O O) O (Dnil ?_))))))))))
        refine hK88 (JCc O h (fun h hb=>?_) (fun h hb=>?_))
        ·
         refine Jr fun hK93=>(JLm (BL false) O (G8 (hK93 (Gt (fin1 BL h)))))
        ·
         refine Gm (hK87 (G2 (JLm (Em i84) O (JLh (G0 ((i84+1:Nat):Int)) (Hx (Hc hk84 (Yt hx84)) O O O) O (JLm (G0 ((i84+1:Nat):Int)) O (G8 (e84 _ _ (i84+1) () (app1 hn84 h) (by omega) ⟨(by repeat' constructor),G,rfl⟩)))))))
       ·
        have h:=app1 hkx84 (G08 hi84 (Qr hb))
        refine Hd (hK59 (G2 (JLm (Em i56) O (JLh (G0 ((i56+1:Nat):Int)) (Hx (Hc hk56 hm107) O O O) O (JLm (G0 ((i56+1:Nat):Int)) O (G8 (e56 _ _ (i56+1) () (app1 hn56 h) (by omega) ⟨(by repeat' constructor),G,rfl⟩)))))))
     ·
      have h:=app1 hkx56 (Ht hi56 (H9 hb))
      refine Hd (hK49 (G2 (JLm (Em i46) O (JLh (G0 ((i46+1:Nat):Int)) (Hx (Hc hk46 hm85) O O O) O (JLm (G0 ((i46+1:Nat):Int)) O (G8 (e46 _ _ (i46+1) () (app1 hn46 h) (by omega) ⟨⟨.same rfl,.same rfl,G⟩,G,rfl⟩)))))))
   ·
    have h:=app1 hkx46 (Ht hi46 (H9 hb))
    refine Hd (hK44 (Jr fun hK94=>(JLm (BL true) O (G8 (hK94 (Gt (fin1 BL h)))))))

def Zb (boxes:List H2) (id_:Int):Option (H2×Bool):=
 each (fun y21 i21 (s21:Unit) nx21=>
  bif decide (y21.ID=id_) then
  (some (y21,true))
  else
  (nx21 ()))
 (fun(s21:Unit)=>
  some ((H2.mk 0 ByteArray.empty 0 false 0 0 0 0 false),false)) boxes 0 ()
theorem Ge7 (boxes:List H2) (id_:Int) (r:H2×Bool) (h:Zb boxes id_=some r):Pure En 99 [E3 boxes,G0 id_] (·=.tup [.agg (H2.cs r.1),BL r.2]):=by
 unfold Zb at h
 refine H0 [.cell 4 58,.tmp 5] Tryz.func99 O O (Jr fun hK1=>(JLh (.ptr 1145 0) (G15 1145 [G0 0,ST ByteArray.empty,U8 0,BL false,G0 0,G0 0,G0 0,U8 0,BL false] [.int .i64 0,.string ByteArray.empty,.int .u8 0,.bool false,.int .i64 0,.int .i64 0,.int .i64 0,.int .u8 0,.bool false] G9e ⟨.inl O,.inl O,.inl O,.inl O,.inl O,.inl O,.inl O,.inl O,.inl O,G⟩ O O) O (JLm (BL false) O (G8 (hK1 (Js fun hK2=>Jr fun hK3=>(JLm (G0 0) O (G8 (hK3 (Gk ?_))))))))))
 obtain⟨b21,kx21,hb21,hkx21,h⟩:=J4 h
 refine H6 (fun i21 (s21:Unit)=>each b21 kx21 (List.drop i21 boxes) i21 s21=some r) (fun i21 s21=>[(0,E3 boxes),(1,G0 id_),(4,.ptr 1145 0),(6,Em i21)]) (fun i21 s21=>[(1145,.box 58 [G0 0,ST ByteArray.empty,U8 0,BL false,G0 0,G0 0,G0 0,U8 0,BL false])]) (fun i21=>boxes.length - i21) 0 () h ⟨(by repeat' constructor),⟨⟨_,rfl,.boxL rfl (by repeat' constructor)⟩,G⟩,rfl⟩ ?_
 clear h
 intro i21 s21 hi21 K21 e21
 refine Js fun hK22=>Jr fun hK23=>(JLm (Em i21) O (JLm (E3 boxes) O (JLl Jy O O O fun hm9=>(JLh (BL (decide ((i21:Int) < (boxes.length:Int)))) (Hy O O O) O (G8 (hK23 (Gj O (fun hb=>?_) (fun hb=>?_))))))))
 ·
  have hk21:=Je hb
  obtain⟨y21,nx21,hy21,hn21,h⟩:=Hs hi21 hk21
  replace h:=Y8 hb21 h
  refine Gm (hK22 (Js fun hK24=>Gk (Jr fun hK25=>(JLm (E3 boxes) O (JLm (Em i21) O (JLh (Eh y21) (Gs (f:=H2.av) (xs:=boxes) (y:=y21) O O O Jy hy21 O) O (JLh (Eh y21) (Ga H9a O O O) O (JLh (G0 y21.ID) (Gh Gc O O O) O (JLm (G0 id_) O (JLh (BL (decide (y21.ID=id_))) (Jk O O O) O (G8 (hK25 (JCc O h (fun h hb=>?_) (fun h hb=>?_))))))))))))))
  ·
   refine Jr fun hK26=>(JLm (E3 boxes) O (JLm (Em i21) O (JLh (Eh y21) (Gs (f:=H2.av) (xs:=boxes) (y:=y21) O O O Jy hy21 O) O (JLh (.agg (H2.cs y21)) (Gi G5b O O O) O (Ja (u:=.junk) (J0 (u:=.agg (H2.cs y21)) (ds:=(H2.cs y21)) G7c O O O O O O O O) (JLm (BL true) O (G8 (hK26 (Gt (⟨[.agg (H2.cs y21),BL true],[],G,O,⟨⟨_,⟨_,_,_,_,O,O,O,.inl ⟨G5b,O⟩⟩,.conv (.same O)⟩,⟨_,O,.conv (.same O)⟩,G⟩,O,congrArg (fun r:H2×Bool=>(.tup [.agg (H2.cs r.1),BL r.2]:AV)) (Option.some.inj h)⟩))))))))))
  ·
   refine Gm (hK24 (G2 (JLm (Em i21) O (JLh (G0 ((i21+1:Nat):Int)) (Hx (Hc hk21 hm9) O O O) O (JLm (G0 ((i21+1:Nat):Int)) O (G8 (e21 _ _ (i21+1) () (app1 hn21 h) (by omega) ⟨(by repeat' constructor),⟨⟨_,rfl,.boxL rfl (by repeat' constructor)⟩,G⟩,rfl⟩)))))))
 ·
  have h:=app1 hkx21 (Ht hi21 (H9 hb))
  refine Hd (hK2 ?_)
  refine Jr fun hK27=>(JLh (.agg [G0 0,ST ByteArray.empty,U8 0,BL false,G0 0,G0 0,G0 0,U8 0,BL false]) (Ji (cs:=[G0 0,ST ByteArray.empty,U8 0,BL false,G0 0,G0 0,G0 0,U8 0,BL false]) [(0,1),(1,1),(2,1),(3,1),(4,1),(5,1),(6,1),(7,1),(8,1)] [G0 0,ST ByteArray.empty,U8 0,BL false,G0 0,G0 0,G0 0,U8 0,BL false] [.int .i64 0,.string ByteArray.empty,.int .u8 0,.bool false,.int .i64 0,.int .i64 0,.int .i64 0,.int .u8 0,.bool false] Gf0 G9e ⟨.inl O,.inl O,.inl O,.inl O,.inl O,.inl O,.inl O,.inl O,.inl O,G⟩ O O) O (Ja (u:=.junk) (J0 (u:=.agg [G0 0,ST ByteArray.empty,U8 0,BL false,G0 0,G0 0,G0 0,U8 0,BL false]) (ds:=[G0 0,ST ByteArray.empty,U8 0,BL false,G0 0,G0 0,G0 0,U8 0,BL false]) G7c O O O O O O O O) (JLm (BL false) O (G8 (hK27 ?_)))))
  refine Gt (⟨[.agg [G0 0,ST ByteArray.empty,U8 0,BL false,G0 0,G0 0,G0 0,U8 0,BL false],BL false],[],G,O,⟨⟨_,⟨_,_,_,_,O,O,O,.inl ⟨G5b,O⟩⟩,.conv (.same O)⟩,⟨_,O,.conv (.same O)⟩,G⟩,O,congrArg (fun r:H2×Bool=>(.tup [.agg (H2.cs r.1),BL r.2]:AV)) (Option.some.inj h)⟩)

def G0f (s:H8) (x:Slot) (size:Int):Option Bool:=
 bnd (bif (!(((decide (x.G4 < 0))||(decide ((s.Columns.length:Int)≤x.G4)))||(decide (x.Tier < 0)))) then Jc s.Columns x.G4 some else some default) fun y4=>
 bif ((((decide (x.G4 < 0))||(decide ((s.Columns.length:Int)≤x.G4)))||(decide (x.Tier < 0)))||(decide (y4.Tiers≤x.Tier))) then
 (some false)
 else
 (some (((decide (size=40))&&(decide (x.Half=0)))||((decide (size=20))&&((decide (x.Half=1))||(decide (x.Half=2))))))
theorem Ha7 (s:H8) (x:Slot) (size:Int) (r:Bool) (h:G0f s x size=some r):Pure En 100 [.agg (H8.cs s),.agg [G0 x.G4,G0 x.Tier,U8 x.Half],G0 size] (·=BL r):=by
 unfold G0f at h
 refine H0 [.tmp 6] Tryz.func100 O O (Jr fun hK1=>(JLh (.ptr 1146 0) (Jq (cs:=(H8.cs s)) 1146 O O O O O) O (JLh (.ptr 1147 0) (Jq (cs:=[G0 x.G4,G0 x.Tier,U8 x.Half]) 1147 O O O O O) O (JLm (BL false) O (G8 (hK1 ?_))))))
 refine Gx [(2,G0 size),(3,Ed s),(4,.ptr 1147 0)] [(1147,.box 60 [G0 x.G4,G0 x.Tier,U8 x.Half])] 1146 rfl rfl rfl ⟨⟨_,rfl,.boxEq rfl rfl⟩,G⟩ rfl (by exact⟨.conv (.same rfl),.ptr,.conv (.same rfl),G⟩) ?_
 refine Gx [(2,G0 size),(3,Ed s),(4,.dptr [G0 x.G4,G0 x.Tier,U8 x.Half])] [] 1147 rfl rfl rfl G rfl (by exact⟨.conv (.same rfl),.conv (.same rfl),.ptr,G⟩) (Js fun hK2=>Js fun hK3=>?_)
 obtain⟨y4,hy4,h⟩:=Gf h
 refine JC_d0 Jb (by kernel_rfl) (Dq (.dptr [G0 x.G4,G0 x.Tier,U8 x.Half]) (Ga Hk O O O) O (Dq (G0 x.G4) (Gh Gc O O O) O (Dq (BL (decide (x.G4 < 0))) (Hy O O O) O (Dq (BL (decide (x.G4 < 0))) (G5 O O) O (Do (.dptr [G0 x.G4,G0 x.Tier,U8 x.Half]) [] O .scf G (fun hc=>Ga Hk O O O) O (Do (G0 x.G4) [11] O .scf ⟨Ua,G⟩ (fun hc=>Gh Gc O O O) O (Do (Ed s) [] O .scf G (fun hc=>Ga Hi O O O) O (Do (E5 s.Columns) [13] O .scf ⟨Ua,G⟩ (fun hc=>Gh Ho O O O) O (Do (Em s.Columns.length) [14] O .scf ⟨Ua,G⟩ (fun hc=>Qx (f:=G4.av) (xs:=s.Columns) H7 O O) O (Do (BL (decide ((s.Columns.length:Int)≤x.G4))) [12,15] O .scf ⟨Ua,Ua,G⟩ (fun hc=>G06 O O O) O (Dq (BL ((decide (x.G4 < 0))||(decide ((s.Columns.length:Int)≤x.G4)))) (Y7 O O O O) O (Dq (BL ((decide (x.G4 < 0))||(decide ((s.Columns.length:Int)≤x.G4)))) (G5 O O) O (Do (.dptr [G0 x.Tier,U8 x.Half]) [] O .scf G (fun hc=>Ga J9 O O O) O ?_)))))))))))))
 refine Do (G0 x.Tier) [19] O .scf ⟨Ua,G⟩ (fun hc=>Gh Gc O O O) O (Do (BL (decide (x.Tier < 0))) [20] O .scf ⟨Ua,G⟩ (fun hc=>Hy O O O) O (Dq (BL (((decide (x.G4 < 0))||(decide ((s.Columns.length:Int)≤x.G4)))||(decide (x.Tier < 0)))) (Y7 O O O O) O (Dq (BL (((decide (x.G4 < 0))||(decide ((s.Columns.length:Int)≤x.G4)))||(decide (x.Tier < 0)))) (G5 O O) O (Do (.dptr [G0 x.Tier,U8 x.Half]) [] O .scf G (fun hc=>Ga J9 O O O) O (Do (G0 x.Tier) [24] O .scf ⟨Ua,G⟩ (fun hc=>Gh Gc O O O) O (Do (Ed s) [] O .scf G (fun hc=>Ga Hi O O O) O (Do (E5 s.Columns) [26] O .scf ⟨Ua,G⟩ (fun hc=>Gh Ho O O O) O (Do (.dptr [G0 x.G4,G0 x.Tier,U8 x.Half]) [] O .scf G (fun hc=>Ga Hk O O O) O (Do (G0 x.G4) [28] O .scf ⟨Ua,G⟩ (fun hc=>Gh Gc O O O) O (Do (Ef y4) [27,29] O .scf ⟨Ua,Ua,G⟩ (fun hc=>(match Jm (Gv hc hy4) with | ⟨_,hm_,hy_⟩=>Gs (f:=G4.av) (xs:=s.Columns) (y:=y4) O O O H7 hy_ hm_)) O (Do (.dptr ((G4.cs y4).drop 3)) [30] O .scf ⟨Ua,G⟩ (fun hc=>Ga G26 O O O) O (Do (G0 y4.Tiers) [31] O .scf ⟨Ua,G⟩ (fun hc=>Gh Gc O O O) O (Do (BL (decide (y4.Tiers≤x.Tier))) [25,32] O .scf ⟨Ua,Ua,G⟩ (fun hc=>G06 O O O) O ?_)))))))))))))
 refine Dq (BL ((((decide (x.G4 < 0))||(decide ((s.Columns.length:Int)≤x.G4)))||(decide (x.Tier < 0)))||(decide (y4.Tiers≤x.Tier)))) (Y7 O O O O) O (Dnil (hK3 (JCc O h (fun h hb=>?_) (fun h hb=>?_))))
 ·
  refine Jr fun hK5=>(JLm (BL false) O (G8 (hK5 (Gt (fin1 BL h)))))
 ·
  refine Gm (hK2 (Jr fun hK6=>(JLm (G0 size) O (JLh (BL (decide (size=40))) (Jk O O O) O (JLm (BL (decide (size=40))) O (JLo (.dptr [U8 x.Half]) [] O .sct G (fun hc=>Ga Jo O O O) O (JLo (U8 x.Half) [38] O .sct ⟨Ua,G⟩ (fun hc=>Gh J5 O O O) O (JLo (BL (decide (x.Half=0))) [39] O .sct ⟨Ua,G⟩ (fun hc=>Jk O O O) O (JLh (BL ((decide (size=40))&&(decide (x.Half=0)))) (J3 O O O O) O (JLm (BL ((decide (size=40))&&(decide (x.Half=0)))) O (JLo (G0 size) [] O .scf G (fun hc=>G5 O O) O (JLo (BL (decide (size=20))) [43] O .scf ⟨Ua,G⟩ (fun hc=>Jk O O O) O (JLo (BL (decide (size=20))) [44] O .scf ⟨Ua,G⟩ (fun hc=>G5 O O) O (JLo (.dptr [U8 x.Half]) [] O .optt G (fun hc=>Ga Jo O O O) O (JLo (U8 x.Half) [46] O .optt ⟨Ua,G⟩ (fun hc=>Gh J5 O O O) O ?_)))))))))))))))
  refine JLo (BL (decide (x.Half=1))) [47] O .optt ⟨Ua,G⟩ (fun hc=>Jk O O O) O (JLo (BL (decide (x.Half=1))) [48] O .optt ⟨Ua,G⟩ (fun hc=>G5 O O) O (JLo (.dptr [U8 x.Half]) [] O .optf G (fun hc=>Ga Jo O O O) O (JLo (U8 x.Half) [50] O .optf ⟨Ua,G⟩ (fun hc=>Gh J5 O O O) O (JLo (BL (decide (x.Half=2))) [51] O .optf ⟨Ua,G⟩ (fun hc=>Jk O O O) O (Gb (u:=BL ((decide (x.Half=1))||(decide (x.Half=2)))) [(49,BL (decide (x.Half=1))),(52,_)] O O O .optt ⟨.all id,.part,G⟩ (fun hc=>Y7 O O O O) ?_)))))
  refine Gb (u:=BL ((decide (size=20))&&((decide (x.Half=1))||(decide (x.Half=2))))) [(45,BL (decide (size=20))),(53,_)] O O O .scf ⟨.all id,.part,G⟩ (fun hc=>J3 O O O O) ?_
  refine JLh (BL (((decide (size=40))&&(decide (x.Half=0)))||((decide (size=20))&&((decide (x.Half=1))||(decide (x.Half=2)))))) (Y7 O O O O) O (JLm (BL (((decide (size=40))&&(decide (x.Half=0)))||((decide (size=20))&&((decide (x.Half=1))||(decide (x.Half=2)))))) O (G8 (hK6 (Gt (fin1 BL h)))))

def G0e (l:List G6):Option (List Slot):=
 each (fun y16 i16 (s16:(List Slot)) nx16=>
  need (decide ((s16.length+[y16.Slot].length)*24≤140737488355328∧s16.length+[y16.Slot].length≤maxLen)) <|
  nx16 (s16++[y16.Slot]))
 (fun(s16:(List Slot))=>
  some s16) l 0 []
theorem Ha6 (l:List G6) (r:(List Slot)) (h:G0e l=some r):Pure En 102 [E0 l] (·=E9 r):=by
 unfold G0e at h
 refine H0 [.tmp 2] Tryz.func102 O O (Jr fun hK1=>(JLh (E9 ([]:List Slot)) (Q2 3 O O) O (G8 (hK1 (Jr fun hK2=>(JLh (OW 1149 3 Slot.av ([]:List Slot)) (H02 1149 60 3 O O O) O (G8 (hK2 (Js fun hK3=>Jr fun hK4=>(JLm (G0 0) O (G8 (hK4 (Gk ?_)))))))))))))
 obtain⟨b16,kx16,hb16,hkx16,h⟩:=J4 h
 refine H6 (fun i16 (s16:(List Slot))=>each b16 kx16 (List.drop i16 l) i16 s16=some r) (fun i16 s16=>[(0,E0 l),(3,OW 1149 3 Slot.av s16),(4,Em i16)]) (fun i16 s16=>[(1149,.spare 60 3 s16.length s16.length)]) (fun i16=>l.length - i16) 0 [] h ⟨⟨.same O,.same O,.same O,G⟩,⟨⟨_,O,.same⟩,G⟩,O⟩ ?_
 clear h
 intro i16 s16 hi16 K16 e16
 refine Js fun hK17=>Jr fun hK18=>(JLm (Em i16) O (JLm (E0 l) O (JLl Gz O O O fun hm7=>(JLh (BL (decide ((i16:Int) < (l.length:Int)))) (Hy O O O) O (G8 (hK18 (Gj O (fun hb=>?_) (fun hb=>?_))))))))
 ·
  have hk16:=Je hb
  obtain⟨y16,nx16,hy16,hn16,h⟩:=Hs hi16 hk16
  replace h:=Y8 hb16 h
  refine Gm (hK17 (Js fun hK19=>Gk (G2 (JLm (OW 1149 3 Slot.av s16) O (JLm (E0 l) O (JLm (Em i16) O (JLh (Ee y16) (Gs (f:=G6.av) (xs:=l) (y:=y16) O O O Gz hy16 O) O (JLh (.dptr ((G6.cs y16).drop 1)) (Ga Hg O O O) O (JLh (.agg ((G6.cs y16).drop 1)) (Gi Jg O O O) O (JLh (E9 [y16.Slot]) (Hv (xs:=[.agg ((G6.cs y16).drop 1)]) O ⟨O,O,G⟩ Yu Gde O O O O) O ?_))))))))))
  obtain⟨ha20,h⟩:=Hz h
  refine JLh (OW 1149 3 Slot.av (s16++[y16.Slot])) (Y0 (f:=Slot.av) (xs:=s16) (ys:=[y16.Slot]) O O O O Yu Q0e ha20 (fun _=>O) (.inl O) O) O (JLm (OW 1149 3 Slot.av (s16++[y16.Slot])) O (G8 (hK19 (G2 (JLm (Em i16) O (JLh (G0 ((i16+1:Nat):Int)) (Hx (Hc hk16 hm7) O O O) O (JLm (G0 ((i16+1:Nat):Int)) O (G8 (e16 _ _ (i16+1) (s16++[y16.Slot]) (app1 hn16 h) (by omega) ⟨⟨.same rfl,.same rfl,.same rfl,G⟩,⟨⟨_,rfl,.same⟩,G⟩,rfl⟩)))))))))
 ·
  have h:=app1 hkx16 (Ht hi16 (H9 hb))
  refine Hd (hK3 (Jr fun hK21=>(JLm (OW 1149 3 Slot.av s16) O (JLm (OW 1149 3 Slot.av s16) O (G8 (hK21 (Gt (fin1l (fun r:(List Slot)=>(E9 r:AV)) h))))))))

def Rw (l:List Slot) (x:Slot) (half:Int):Option Bool:=
 each (fun y23 i23 (s23:Unit) nx23=>
  bnd (bif decide (y23.G4=x.G4) then Yn (x.Tier - 1) some else some 0) fun v28=>
  bif (((decide (y23.G4=x.G4))&&(decide (y23.Tier=v28)))&&(decide (y23.Half=half))) then
  (some true)
  else
  (nx23 ()))
 (fun(s23:Unit)=>
  some false) l 0 ()
theorem G47 (l:List Slot) (x:Slot) (half:Int) (r:Bool) (h:Rw l x half=some r):Pure En 145 [E9 l,.agg [G0 x.G4,G0 x.Tier,U8 x.Half],U8 half] (·=BL r):=by
 unfold Rw at h
 refine H0 [.tmp 6] Tryz.func145 O O (Jr fun hK1=>(JLh (.ptr 1183 0) (Jq (cs:=[G0 x.G4,G0 x.Tier,U8 x.Half]) 1183 O O O O O) O (JLm (BL false) O (G8 (hK1 (Gx [(0,E9 l),(2,U8 half),(4,.dptr [G0 x.G4,G0 x.Tier,U8 x.Half])] [] 1183 rfl rfl rfl G rfl (by exact⟨.conv (.same rfl),.conv (.same rfl),.ptr,G⟩) (Js fun hK2=>Jr fun hK3=>(JLm (G0 0) O (G8 (hK3 (Gk ?_)))))))))))
 obtain⟨b23,kx23,hb23,hkx23,h⟩:=J4 h
 refine H6 (fun i23 (s23:Unit)=>each b23 kx23 (List.drop i23 l) i23 s23=some r) (fun i23 s23=>[(0,E9 l),(2,U8 half),(4,.dptr [G0 x.G4,G0 x.Tier,U8 x.Half]),(7,Em i23)]) (fun i23 s23=>[]) (fun i23=>l.length - i23) 0 () h ⟨(by repeat' constructor),G,rfl⟩ ?_
 clear h
 intro i23 s23 hi23 K23 e23
 refine Js fun hK24=>Jr fun hK25=>(JLm (Em i23) O (JLm (E9 l) O (JLl Yu O O O fun hm10=>(JLh (BL (decide ((i23:Int) < (l.length:Int)))) (Hy O O O) O (G8 (hK25 (Gj O (fun hb=>?_) (fun hb=>?_))))))))
 ·
  have hk23:=Je hb
  obtain⟨y23,nx23,hy23,hn23,h⟩:=Hs hi23 hk23
  replace h:=Y8 hb23 h
  refine Gm (hK24 (Js fun hK26=>Gk (Js fun hK27=>?_)))
  obtain⟨v28,hv28,h⟩:=Gf h
  refine JC_d0 Jb (by kernel_rfl) (Dq (E9 l) (G5 O O) O (Dq (Em i23) (G5 O O) O (Dq (Ei y23) (Gs (f:=Slot.av) (xs:=l) (y:=y23) O O O Yu hy23 O) O (Dq (Ei y23) (Ga Hk O O O) O (Dq (G0 y23.G4) (Gh Gc O O O) O (Dq (.dptr [G0 x.G4,G0 x.Tier,U8 x.Half]) (Ga Hk O O O) O (Dq (G0 x.G4) (Gh Gc O O O) O (Dq (BL (decide (y23.G4=x.G4))) (Jk O O O) O (Dq (BL (decide (y23.G4=x.G4))) (G5 O O) O (Do (E9 l) [] O .sct G (fun hc=>G5 O O) O (Do (Em i23) [] O .sct G (fun hc=>G5 O O) O (Do (Ei y23) [23,24] O .sct ⟨Ua,Ua,G⟩ (fun hc=>Gs (f:=Slot.av) (xs:=l) (y:=y23) O O O Yu hy23 O) O (Do (.dptr [G0 y23.Tier,U8 y23.Half]) [25] O .sct ⟨Ua,G⟩ (fun hc=>Ga J9 O O O) O ?_)))))))))))))
  refine Do (G0 y23.Tier) [26] O .sct ⟨Ua,G⟩ (fun hc=>Gh Gc O O O) O (Do (.dptr [G0 x.Tier,U8 x.Half]) [] O .sct G (fun hc=>Ga J9 O O O) O (Do (G0 x.Tier) [28] O .sct ⟨Ua,G⟩ (fun hc=>Gh Gc O O O) O (Do (G0 v28) [29] O .sct ⟨Ua,G⟩ (fun hc=>G6d (G1c (Gv hc hv28)) O O O) O (Do (BL (decide (y23.Tier=v28))) [27,30] O .sct ⟨Ua,Ua,G⟩ (fun hc=>Jk O O O) O (Dq (BL ((decide (y23.G4=x.G4))&&(decide (y23.Tier=v28)))) (J3 O O O O) O (Dq (BL ((decide (y23.G4=x.G4))&&(decide (y23.Tier=v28)))) (G5 O O) O (Do (E9 l) [] O .sct G (fun hc=>G5 O O) O (Do (Em i23) [] O .sct G (fun hc=>G5 O O) O (Do (Ei y23) [34,35] O .sct ⟨Ua,Ua,G⟩ (fun hc=>Gs (f:=Slot.av) (xs:=l) (y:=y23) O O O Yu hy23 O) O (Do (.dptr [U8 y23.Half]) [36] O .sct ⟨Ua,G⟩ (fun hc=>Ga Jo O O O) O (Do (U8 y23.Half) [37] O .sct ⟨Ua,G⟩ (fun hc=>Gh J5 O O O) O (Do (U8 half) [] O .sct G (fun hc=>G5 O O) O (Do (BL (decide (y23.Half=half))) [38,39] O .sct ⟨Ua,Ua,G⟩ (fun hc=>Jk O O O) O ?_)))))))))))))
  refine Dq (BL (((decide (y23.G4=x.G4))&&(decide (y23.Tier=v28)))&&(decide (y23.Half=half)))) (J3 O O O O) O (Dnil (hK27 (JCc O h (fun h hb=>?_) (fun h hb=>?_))))
  ·
   refine Jr fun hK29=>(JLm (BL true) O (G8 (hK29 (Gt (fin1 BL h)))))
  ·
   refine Gm (hK26 (G2 (JLm (Em i23) O (JLh (G0 ((i23+1:Nat):Int)) (Hx (Hc hk23 hm10) O O O) O (JLm (G0 ((i23+1:Nat):Int)) O (G8 (e23 _ _ (i23+1) () (app1 hn23 h) (by omega) ⟨(by repeat' constructor),G,rfl⟩)))))))
 ·
  have h:=app1 hkx23 (Ht hi23 (H9 hb))
  refine Hd (hK2 (Jr fun hK30=>(JLm (BL false) O (G8 (hK30 (Gt (fin1 BL h)))))))

def G20 (x:Slot) (l:List Slot):Option Bool:=
 bif decide (x.Tier≤0) then
 (some true)
 else
 (bif decide (x.Half=0) then
  (bnd (Rw l x 0) fun r8=>
   bnd (bif (!r8) then Rw l x 1 else some default) fun r9=>
   bnd (bif ((!r8)&&r9) then Rw l x 2 else some default) fun r10=>
   some (r8||(r9&&r10)))
  else
  (bnd (Rw l x x.Half) fun r12=>
   some r12))
theorem Hbe (x:Slot) (l:List Slot) (r:Bool) (h:G20 x l=some r):Pure En 101 [.agg [G0 x.G4,G0 x.Tier,U8 x.Half],E9 l] (·=BL r):=by
 unfold G20 at h
 refine H0 [.tmp 4] Tryz.func101 O O (Jr fun hK1=>(JLh (.ptr 1148 0) (Jq (cs:=[G0 x.G4,G0 x.Tier,U8 x.Half]) 1148 O O O O O) O (JLm (BL false) O (G8 (hK1 (Gx [(1,E9 l),(2,.dptr [G0 x.G4,G0 x.Tier,U8 x.Half])] [] 1148 rfl rfl rfl G rfl (by exact⟨.conv (.same rfl),.ptr,G⟩) (Js fun hK2=>Jr fun hK3=>(JLh (.dptr [G0 x.Tier,U8 x.Half]) (Ga J9 O O O) O (JLh (G0 x.Tier) (Gh Gc O O O) O (JLh (BL (decide (x.Tier≤0))) (H97 O O O) O (G8 (hK3 (JCc O h (fun h hb=>?_) (fun h hb=>?_))))))))))))))
 ·
  refine Jr fun hK4=>(JLm (BL true) O (G8 (hK4 (Gt (fin1 BL h)))))
 ·
  refine Gm (hK2 (Js fun hK5=>Jr fun hK6=>(JLh (.dptr [U8 x.Half]) (Ga Jo O O O) O (JLh (U8 x.Half) (Gh J5 O O O) O (JLh (BL (decide (x.Half=0))) (Jk O O O) O (G8 (hK6 (JCc O h (fun h hb=>?_) (fun h hb=>?_)))))))))
  ·
   refine Jr fun hK7=>(JLm (E9 l) O (JLh (.agg [G0 x.G4,G0 x.Tier,U8 x.Half]) (Gi Jg O O O) O ?_))
   obtain⟨r8,hr8,h⟩:=Gf h
   refine JLh (BL r8) (Gq O (G47 l x 0 r8 hr8) H89 ⟨O,O,O,O,O,O,G⟩) O (JLm (BL r8) O (JLo (E9 l) [] O .scf G (fun hc=>G5 O O) O (JLo (.agg [G0 x.G4,G0 x.Tier,U8 x.Half]) [] O .scf G (fun hc=>Gi Jg O O O) O ?_)))
   obtain⟨r9,hr9,h⟩:=Gf h
   refine JLo (BL r9) [15,16] O .scf ⟨Ua,Ua,G⟩ (fun hc=>Gq (args:=[E9 l,.agg [G0 x.G4,G0 x.Tier,U8 x.Half],U8 1]) O (G47 l x 1 r9 (Gv hc hr9)) H89 ⟨O,O,O,O,O,O,G⟩) O (JLo (BL r9) [17] O .scf ⟨Ua,G⟩ (fun hc=>G5 O O) O (JLo (E9 l) [] O .optt G (fun hc=>G5 O O) O (JLo (.agg [G0 x.G4,G0 x.Tier,U8 x.Half]) [] O .optt G (fun hc=>Gi Jg O O O) O ?_)))
   obtain⟨r10,hr10,h⟩:=Gf h
   refine JLo (BL r10) [19,20] O .optt ⟨Ua,Ua,G⟩ (fun hc=>Gq (args:=[E9 l,.agg [G0 x.G4,G0 x.Tier,U8 x.Half],U8 2]) O (G47 l x 2 r10 (Gv hc hr10)) H89 ⟨O,O,O,O,O,O,G⟩) O (Gb (u:=BL (r9&&r10)) [(18,BL r9),(21,_)] O O O .scf ⟨.all id,.part,G⟩ (fun hc=>J3 O O O O) ?_)
   refine JLh (BL (r8||(r9&&r10))) (Y7 O O O O) O (JLm (BL (r8||(r9&&r10))) O (G8 (hK7 (Gt (fin1 BL h)))))
  ·
   refine Gm (hK5 (Jr fun hK11=>(JLm (E9 l) O (JLh (.agg [G0 x.G4,G0 x.Tier,U8 x.Half]) (Gi Jg O O O) O (JLh (.dptr [U8 x.Half]) (Ga Jo O O O) O (JLh (U8 x.Half) (Gh J5 O O O) O ?_))))))
   obtain⟨r12,hr12,h⟩:=Gf h
   refine JLh (BL r12) (Gq O (G47 l x x.Half r12 hr12) H89 ⟨O,O,O,O,O,O,G⟩) O (JLm (BL r12) O (G8 (hK11 (Gt (fin1 BL h)))))

def Re (a:Int) (b:Int):Option Bool:=
 some (((decide (a=b))||(decide (a=0)))||(decide (b=0)))
theorem Gbc (a:Int) (b:Int) (r:Bool) (h:Re a b=some r):Pure En 146 [U8 a,U8 b] (·=BL r):=by
 unfold Re at h
 refine H0 [.tmp 4] Tryz.func146 O O (Jr fun hK1=>(JLm (BL false) O (G8 (hK1 (Jr fun hK2=>(JLm (U8 a) O (JLm (U8 b) O (JLh (BL (decide (a=b))) (Jk O O O) O (JLm (BL (decide (a=b))) O (JLo (U8 a) [] O .scf G (fun hc=>G5 O O) O (JLo (BL (decide (a=0))) [9] O .scf ⟨Ua,G⟩ (fun hc=>Jk O O O) O (JLh (BL ((decide (a=b))||(decide (a=0)))) (Y7 O O O O) O (JLm (BL ((decide (a=b))||(decide (a=0)))) O (JLo (U8 b) [] O .scf G (fun hc=>G5 O O) O (JLo (BL (decide (b=0))) [13] O .scf ⟨Ua,G⟩ (fun hc=>Jk O O O) O (JLh (BL (((decide (a=b))||(decide (a=0)))||(decide (b=0)))) (Y7 O O O O) O (JLm (BL (((decide (a=b))||(decide (a=0)))||(decide (b=0)))) O (G8 (hK2 (Gt (fin1 BL h)))))))))))))))))))))

def G1f (a:Slot) (b:Slot):Option Bool:=
 bnd (bif ((decide (a.G4=b.G4))&&(decide (a.Tier=b.Tier))) then Re a.Half b.Half else some default) fun r3=>
 some (((decide (a.G4=b.G4))&&(decide (a.Tier=b.Tier)))&&r3)
theorem Hbd (a:Slot) (b:Slot) (r:Bool) (h:G1f a b=some r):Pure En 103 [.agg [G0 a.G4,G0 a.Tier,U8 a.Half],.agg [G0 b.G4,G0 b.Tier,U8 b.Half]] (·=BL r):=by
 unfold G1f at h
 refine H0 [.tmp 4] Tryz.func103 O O (Jr fun hK1=>(JLh (.ptr 1150 0) (Jq (cs:=[G0 a.G4,G0 a.Tier,U8 a.Half]) 1150 O O O O O) O (JLh (.ptr 1151 0) (Jq (cs:=[G0 b.G4,G0 b.Tier,U8 b.Half]) 1151 O O O O O) O (JLm (BL false) O (G8 (hK1 (Gx [(2,.dptr [G0 a.G4,G0 a.Tier,U8 a.Half]),(3,.ptr 1151 0)] [(1151,.box 60 [G0 b.G4,G0 b.Tier,U8 b.Half])] 1150 rfl rfl rfl ⟨⟨_,rfl,.boxEq rfl rfl⟩,G⟩ rfl (by exact⟨.ptr,.conv (.same rfl),G⟩) (Gx [(2,.dptr [G0 a.G4,G0 a.Tier,U8 a.Half]),(3,.dptr [G0 b.G4,G0 b.Tier,U8 b.Half])] [] 1151 rfl rfl rfl G rfl (by exact⟨.conv (.same rfl),.ptr,G⟩) ?_))))))))
 refine Jr fun hK2=>(JLh (.dptr [G0 a.G4,G0 a.Tier,U8 a.Half]) (Ga Hk O O O) O (JLh (G0 a.G4) (Gh Gc O O O) O (JLh (.dptr [G0 b.G4,G0 b.Tier,U8 b.Half]) (Ga Hk O O O) O (JLh (G0 b.G4) (Gh Gc O O O) O (JLh (BL (decide (a.G4=b.G4))) (Jk O O O) O (JLm (BL (decide (a.G4=b.G4))) O (JLo (.dptr [G0 a.Tier,U8 a.Half]) [] O .sct G (fun hc=>Ga J9 O O O) O (JLo (G0 a.Tier) [11] O .sct ⟨Ua,G⟩ (fun hc=>Gh Gc O O O) O (JLo (.dptr [G0 b.Tier,U8 b.Half]) [] O .sct G (fun hc=>Ga J9 O O O) O (JLo (G0 b.Tier) [13] O .sct ⟨Ua,G⟩ (fun hc=>Gh Gc O O O) O (JLo (BL (decide (a.Tier=b.Tier))) [12,14] O .sct ⟨Ua,Ua,G⟩ (fun hc=>Jk O O O) O (JLh (BL ((decide (a.G4=b.G4))&&(decide (a.Tier=b.Tier)))) (J3 O O O O) O (JLm (BL ((decide (a.G4=b.G4))&&(decide (a.Tier=b.Tier)))) O ?_)))))))))))))
 refine JLo (.dptr [U8 a.Half]) [] O .sct G (fun hc=>Ga Jo O O O) O (JLo (U8 a.Half) [18] O .sct ⟨Ua,G⟩ (fun hc=>Gh J5 O O O) O (JLo (.dptr [U8 b.Half]) [] O .sct G (fun hc=>Ga Jo O O O) O (JLo (U8 b.Half) [20] O .sct ⟨Ua,G⟩ (fun hc=>Gh J5 O O O) O ?_)))
 obtain⟨r3,hr3,h⟩:=Gf h
 refine JLo (BL r3) [19,21] O .sct ⟨Ua,Ua,G⟩ (fun hc=>Gq (args:=[U8 a.Half,U8 b.Half]) O (Gbc a.Half b.Half r3 (Gv hc hr3)) Jc5 ⟨O,O,O,O,G⟩) O (JLh (BL (((decide (a.G4=b.G4))&&(decide (a.Tier=b.Tier)))&&r3)) (J3 O O O O) O (JLm (BL (((decide (a.G4=b.G4))&&(decide (a.Tier=b.Tier)))&&r3)) O (G8 (hK2 (Gt (fin1 BL h))))))

def Rc (boxes:List H2) (l:List G6) (column:Int) (half:Int):Option Int:=
 each (fun y42 i42 (s42:Int) nx42=>
  jp (fun kj45=>
   bnd (Zb boxes y42.H2) fun r47=>
   bif (((!r47.2)||(decide (y42.Slot.G4≠column)))||((decide (y42.Slot.Half≠half))&&(decide (y42.Slot.Half≠0)))) then
   (kj45 s42)
   else
   (bif r47.1.High then
    (Yn (s42+2896) fun v51=>
     kj45 v51)
    else
    (Yn (s42+2591) fun v52=>
     kj45 v52))) fun(j45:Int)=>
  nx42 j45)
 (fun(s42:Int)=>
  some s42) l 0 0
theorem Gbb (boxes:List H2) (l:List G6) (column:Int) (half:Int) (r:Int) (h:Rc boxes l column half=some r):Pure En 147 [E3 boxes,E0 l,G0 column,U8 half] (·=G0 r):=by
 unfold Rc at h
 refine H0 [.tmp 8] Tryz.func147 O O (Jr fun hK1=>(JLm (G0 0) O (G8 (hK1 (Jr fun hK2=>(JLm (G0 0) O (G8 (hK2 (Js fun hK3=>Jr fun hK4=>(JLm (G0 0) O (G8 (hK4 (Gk ?_)))))))))))))
 obtain⟨b42,kx42,hb42,hkx42,h⟩:=J4 h
 refine H6 (fun i42 (s42:Int)=>each b42 kx42 (List.drop i42 l) i42 s42=some r) (fun i42 s42=>[(0,E3 boxes),(1,E0 l),(2,G0 column),(3,U8 half),(9,G0 s42),(10,Em i42)]) (fun i42 s42=>[]) (fun i42=>l.length - i42) 0 0 h ⟨(by repeat' constructor),G,rfl⟩ ?_
 clear h
 intro i42 s42 hi42 K42 e42
 refine Js fun hK43=>Jr fun hK44=>(JLm (Em i42) O (JLm (E0 l) O (JLl Gz O O O fun hm15=>(JLh (BL (decide ((i42:Int) < (l.length:Int)))) (Hy O O O) O (G8 (hK44 (Gj O (fun hb=>?_) (fun hb=>?_))))))))
 ·
  have hk42:=Je hb
  obtain⟨y42,nx42,hy42,hn42,h⟩:=Hs hi42 hk42
  replace h:=Y8 hb42 h
  refine Gm (hK43 ?_)
  obtain⟨kj45,hkj45,h⟩:=Zf h
  refine Rt (fun j45:Int=>kj45 j45=some r) (fun j45=>[(0,E3 boxes),(1,E0 l),(2,G0 column),(3,U8 half),(9,G0 j45),(10,Em i42)]) (fun j45=>[]) (fun Kj45 ej45=>?_) ?_
  ·
   refine Gk (Jr fun hK46=>(JLm (E3 boxes) O (JLm (E0 l) O (JLm (Em i42) O (JLh (Ee y42) (Gs (f:=G6.av) (xs:=l) (y:=y42) O O O Gz hy42 O) O (JLh (Ee y42) (Ga Q7 O O O) O (JLh (G0 y42.H2) (Gh Gc O O O) O ?_)))))))
   obtain⟨r47,hr47,h⟩:=Gf h
   refine JLh (.tup [.agg (H2.cs r47.1),BL r47.2]) (Gq O (Ge7 boxes y42.H2 r47 hr47) Q0f ⟨O,O,O,O,G⟩) O (JLm (.tup [.agg (H2.cs r47.1),BL r47.2]) O (JLh (.agg (H2.cs r47.1)) (Jn O O O) O (JLh (BL r47.2) (Jn O O O) O (JLh (.ptr 1184 0) (Ju 1184 9 Gdf O O) O (Ja (u:=.junk) (J0 (u:=.agg (H2.cs r47.1)) (ds:=(H2.cs r47.1)) G7c O O O O O O O O) (JLm (BL r47.2) O (G8 (hK46 (Gx [(0,E3 boxes),(1,E0 l),(2,G0 column),(3,U8 half),(9,G0 s42),(10,Em i42),(11,Eh r47.1),(12,BL r47.2)] [] 1184 rfl rfl rfl G rfl (by repeat' (first | exact .ptr | constructor)) ?_)))))))))
   refine Js fun hK48=>?_
   refine Jr fun hK49=>(JLm (BL r47.2) O (JLh (BL (!r47.2)) (R9 (b:=r47.2) O O) O (JLm (BL (!r47.2)) O (JLo (E0 l) [] O .scf G (fun hc=>G5 O O) O (JLo (Em i42) [] O .scf G (fun hc=>G5 O O) O (JLo (Ee y42) [32,33] O .scf ⟨Ua,Ua,G⟩ (fun hc=>Gs (f:=G6.av) (xs:=l) (y:=y42) O O O Gz hy42 O) O (JLo (.dptr ((G6.cs y42).drop 1)) [34] O .scf ⟨Ua,G⟩ (fun hc=>Ga Hg O O O) O (JLo (.dptr ((G6.cs y42).drop 1)) [35] O .scf ⟨Ua,G⟩ (fun hc=>Ga Hk O O O) O (JLo (G0 y42.Slot.G4) [36] O .scf ⟨Ua,G⟩ (fun hc=>Gh Gc O O O) O (JLo (G0 column) [] O .scf G (fun hc=>G5 O O) O (JLo (BL (decide (y42.Slot.G4≠column))) [37,38] O .scf ⟨Ua,Ua,G⟩ (fun hc=>G56 O O O) O (JLh (BL ((!r47.2)||(decide (y42.Slot.G4≠column)))) (Y7 O O O O) O (JLm (BL ((!r47.2)||(decide (y42.Slot.G4≠column)))) O ?_)))))))))))))
   refine JLo (E0 l) [] O .scf G (fun hc=>G5 O O) O (JLo (Em i42) [] O .scf G (fun hc=>G5 O O) O (JLo (Ee y42) [42,43] O .scf ⟨Ua,Ua,G⟩ (fun hc=>Gs (f:=G6.av) (xs:=l) (y:=y42) O O O Gz hy42 O) O (JLo (.dptr ((G6.cs y42).drop 1)) [44] O .scf ⟨Ua,G⟩ (fun hc=>Ga Hg O O O) O (JLo (.dptr [U8 y42.Slot.Half]) [45] O .scf ⟨Ua,G⟩ (fun hc=>Ga Jo O O O) O (JLo (U8 y42.Slot.Half) [46] O .scf ⟨Ua,G⟩ (fun hc=>Gh J5 O O O) O (JLo (U8 half) [] O .scf G (fun hc=>G5 O O) O (JLo (BL (decide (y42.Slot.Half≠half))) [47,48] O .scf ⟨Ua,Ua,G⟩ (fun hc=>G56 O O O) O (JLo (BL (decide (y42.Slot.Half≠half))) [49] O .scf ⟨Ua,G⟩ (fun hc=>G5 O O) O (JLo (E0 l) [] O .optt G (fun hc=>G5 O O) O (JLo (Em i42) [] O .optt G (fun hc=>G5 O O) O (JLo (Ee y42) [51,52] O .optt ⟨Ua,Ua,G⟩ (fun hc=>Gs (f:=G6.av) (xs:=l) (y:=y42) O O O Gz hy42 O) O (JLo (.dptr ((G6.cs y42).drop 1)) [53] O .optt ⟨Ua,G⟩ (fun hc=>Ga Hg O O O) O (JLo (.dptr [U8 y42.Slot.Half]) [54] O .optt ⟨Ua,G⟩ (fun hc=>Ga Jo O O O) O ?_)))))))))))))
   refine JLo (U8 y42.Slot.Half) [55] O .optt ⟨Ua,G⟩ (fun hc=>Gh J5 O O O) O (JLo (BL (decide (y42.Slot.Half≠0))) [56] O .optt ⟨Ua,G⟩ (fun hc=>G56 O O O) O (Gb (u:=BL ((decide (y42.Slot.Half≠half))&&(decide (y42.Slot.Half≠0)))) [(50,BL (decide (y42.Slot.Half≠half))),(57,_)] O O O .scf ⟨.all id,.part,G⟩ (fun hc=>J3 O O O O) ?_))
   refine JLh (BL (((!r47.2)||(decide (y42.Slot.G4≠column)))||((decide (y42.Slot.Half≠half))&&(decide (y42.Slot.Half≠0))))) (Y7 O O O O) O (G8 (hK49 (JCc O h (fun h hb=>?_) (fun h hb=>?_))))
   ·
    refine Hd (ej45 _ _ s42 h ⟨(by repeat' constructor),G,rfl⟩)
   ·
    refine Gm (hK48 (Jr fun hK50=>(JLh (.dptr ((H2.cs r47.1).drop 3)) (Ga J45 O O O) O (JLh (BL r47.1.High) (Gh R5 O O O) O (G8 (hK50 (JCc O h (fun h hb=>?_) (fun h hb=>?_))))))))
    ·
     refine G2 (JLm (G0 s42) O ?_)
     obtain⟨v51,hv51,h⟩:=Jh h
     refine JLh (G0 v51) (Hx hv51 O O O) O (JLm (G0 v51) O (G8 (ej45 _ _ v51 h ⟨(by repeat' constructor),G,rfl⟩)))
    ·
     refine G2 (JLm (G0 s42) O ?_)
     obtain⟨v52,hv52,h⟩:=Jh h
     refine JLh (G0 v52) (Hx hv52 O O O) O (JLm (G0 v52) O (G8 (ej45 _ _ v52 h ⟨(by repeat' constructor),G,rfl⟩)))
  ·intro j45 h
   replace h:=app1 hkj45 h
   refine G2 (JLm (Em i42) O (JLh (G0 ((i42+1:Nat):Int)) (Hx (Hc hk42 hm15) O O O) O (JLm (G0 ((i42+1:Nat):Int)) O (G8 (e42 _ _ (i42+1) j45 (app1 hn42 h) (by omega) ⟨(by repeat' constructor),G,rfl⟩)))))
 ·
  have h:=app1 hkx42 (Ht hi42 (H9 hb))
  refine Hd (hK3 (Jr fun hK53=>(JLm (G0 s42) O (JLm (G0 s42) O (G8 (hK53 (Gt (fin1 G0 h))))))))

def G1d (s:H8) (boxes:List H2) (l:List G6) (c:Int):Option Bool:=
 Jc s.Columns c fun y4=>
 bif decide (y4.Height=0) then
 (some false)
 else
 (bnd (Rc boxes l c 1) fun r8=>
  Jc s.Columns c fun y9=>
  bnd (bif (!(decide (y9.Height < r8))) then Rc boxes l c 2 else some default) fun r11=>
  bnd (bif (!(decide (y9.Height < r8))) then Jc s.Columns c some else some default) fun y12=>
  some ((decide (y9.Height < r8))||(decide (y12.Height < r11))))
theorem Hbb (s:H8) (boxes:List H2) (l:List G6) (c:Int) (r:Bool) (h:G1d s boxes l c=some r):Pure En 104 [.agg (H8.cs s),E3 boxes,E0 l,G0 c] (·=BL r):=by
 unfold G1d at h
 refine H0 [.tmp 8] Tryz.func104 O O (Jr fun hK1=>(JLh (.ptr 1152 0) (Jq (cs:=(H8.cs s)) 1152 O O O O O) O (JLm (BL false) O (G8 (hK1 (Gx [(1,E3 boxes),(2,E0 l),(3,G0 c),(4,Ed s)] [] 1152 rfl rfl rfl G rfl (by repeat' (first | exact .ptr | constructor)) (Js fun hK2=>?_)))))))
 refine Jr fun hK3=>(JLh (Ed s) (Ga Hi O O O) O (JLh (E5 s.Columns) (Gh Ho O O O) O (JLm (G0 c) O ?_)))
 obtain⟨m5,y4,hm5,hy4,h⟩:=R1 h
 refine JLh (Ef y4) (Gs (f:=G4.av) (xs:=s.Columns) (y:=y4) O O O H7 hy4 hm5) O (JLh (.dptr ((G4.cs y4).drop 4)) (Ga G49 O O O) O (JLh (G0 y4.Height) (Gh Gc O O O) O (JLh (BL (decide (y4.Height=0))) (Jk O O O) O (G8 (hK3 (JCc O h (fun h hb=>?_) (fun h hb=>?_)))))))
 ·
  refine Jr fun hK6=>(JLm (BL false) O (G8 (hK6 (Gt (fin1 BL h)))))
 ·
  refine Gm (hK2 (Js fun hK7=>?_))
  obtain⟨r8,hr8,h⟩:=Gf h
  obtain⟨m10,y9,hm10,hy9,h⟩:=R1 h
  obtain⟨r11,hr11,h⟩:=Gf h
  obtain⟨y12,hy12,h⟩:=Gf h
  refine JC_d0 Jb (by kernel_rfl) (Dq (E3 boxes) (G5 O O) O (Dq (E0 l) (G5 O O) O (Dq (G0 c) (G5 O O) O (Dq (G0 r8) (Gq (args:=[E3 boxes,E0 l,G0 c,U8 1]) O (Gbb boxes l c 1 r8 hr8) Jc4 ⟨O,O,O,O,O,O,O,O,G⟩) O (Dq (Ed s) (Ga Hi O O O) O (Dq (E5 s.Columns) (Gh Ho O O O) O (Dq (G0 c) (G5 O O) O (Dq (Ef y9) (Gs (f:=G4.av) (xs:=s.Columns) (y:=y9) O O O H7 hy9 hm10) O (Dq (.dptr ((G4.cs y9).drop 4)) (Ga G49 O O O) O (Dq (G0 y9.Height) (Gh Gc O O O) O (Dq (BL (decide (y9.Height < r8))) (G4d O O O) O (Dq (BL (decide (y9.Height < r8))) (G5 O O) O (Do (E3 boxes) [] O .scf G (fun hc=>G5 O O) O ?_)))))))))))))
  refine Do (E0 l) [] O .scf G (fun hc=>G5 O O) O (Do (G0 c) [] O .scf G (fun hc=>G5 O O) O (Do (G0 r11) [28,29,30] O .scf ⟨Ua,Ua,Ua,G⟩ (fun hc=>Gq (args:=[E3 boxes,E0 l,G0 c,U8 2]) O (Gbb boxes l c 2 r11 (Gv hc hr11)) Jc4 ⟨O,O,O,O,O,O,O,O,G⟩) O (Do (Ed s) [] O .scf G (fun hc=>Ga Hi O O O) O (Do (E5 s.Columns) [32] O .scf ⟨Ua,G⟩ (fun hc=>Gh Ho O O O) O (Do (G0 c) [] O .scf G (fun hc=>G5 O O) O (Do (Ef y12) [33,34] O .scf ⟨Ua,Ua,G⟩ (fun hc=>(match Jm (Gv hc hy12) with | ⟨_,hm_,hy_⟩=>Gs (f:=G4.av) (xs:=s.Columns) (y:=y12) O O O H7 hy_ hm_)) O (Do (.dptr ((G4.cs y12).drop 4)) [35] O .scf ⟨Ua,G⟩ (fun hc=>Ga G49 O O O) O (Do (G0 y12.Height) [36] O .scf ⟨Ua,G⟩ (fun hc=>Gh Gc O O O) O (Do (BL (decide (y12.Height < r11))) [31,37] O .scf ⟨Ua,Ua,G⟩ (fun hc=>G4d O O O) O (Dq (BL ((decide (y9.Height < r8))||(decide (y12.Height < r11)))) (Y7 O O O O) O (Dq (BL ((decide (y9.Height < r8))||(decide (y12.Height < r11)))) (G9 O O) O (Dnil ?_))))))))))))
  refine hK7 (Gt (fin1 BL h))
end
end Go.Proofs.YteogacmpgdpjlaaGreat
