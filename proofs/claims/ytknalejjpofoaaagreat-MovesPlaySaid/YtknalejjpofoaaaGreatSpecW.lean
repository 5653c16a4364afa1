/-
 What stow.without and stow.with return: a list without an element,and with one more; of slices.Clone,slices.Delete and slices.Insert.
-/
import Derived.Test.YtknalejjpofoaaaGreatXC
import Derived.Test.YtknalejjpofoaaaGreatIns
import Derived.Test.YtknalejjpofoaaaGreatWp
set_option maxRecDepth 100000
set_option linter.unusedVariables false
set_option linter.unusedSimpArgs false
namespace Go.Proofs.YtknalejjpofoaaaGreat
open Go.RowKit
theorem Hf1 {α β:Type} [DecidableEq β] {xs:List α} {k:Bool→Option β} {r:Option β} (h:∀ b,(b=true→xs=[])→k b=r):nilB xs k=r:=by
 unfold nilB
 cases xs with
 | nil=>rw [h true (fun _=>rfl),h false (fun e=>by cases e)]; simp
 | cons x l=>exact h false (fun e=>by cases e)
theorem del_cut {α:Type} (xs:List α) (n:Nat) (z:α) (h:n < xs.length) :
  ((blank (xs.take n++(xs.drop (n+1)).take (xs.length - (n+1))++xs.drop (n+((xs.drop (n+1)).take (xs.length - (n+1))).length)) (n+((xs.drop (n+1)).take (xs.length - (n+1))).length) (xs.length - (n+((xs.drop (n+1)).take (xs.length - (n+1))).length)) z).take (n+((xs.drop (n+1)).take (xs.length - (n+1))).length))=xs.eraseIdx n:=by
 have e:(xs.drop (n+1)).take (xs.length - (n+1))=xs.drop (n+1):=List.take_of_length_le (by simp)
 rw [e]
 unfold blank
 have hl:(xs.take n++xs.drop (n+1)).length=n+(xs.drop (n+1)).length:=by rw [List.length_append,List.length_take]; omega
 rw [List.append_assoc (xs.take n),List.eraseIdx_eq_take_drop_succ]
 have h1:(xs.take n++(xs.drop (n+1)++xs.drop (n+(xs.drop (n+1)).length))).take (n+(xs.drop (n+1)).length)=xs.take n++xs.drop (n+1):=by
  rw [← List.append_assoc,List.take_append_of_le_length (by omega),List.take_of_length_le (by omega)]
 rw [h1,List.append_assoc,List.take_append_of_le_length (by omega),List.take_of_length_le (by omega)]
theorem grow_cut {α:Type} (xs:List α) (n:Nat) (y z:α) (h:n < xs.length) (p q r:Nat) (hp:p=xs.length+1 - n) (hq:q=xs.length+1 - (n+1)) (hr:r=xs.length - n) :
  overlay (overlay (xs.take n++List.replicate p z) n [y] p) (n+1) ((xs.drop n).take r) q=xs.take n++y::xs.drop n:=by
 subst hp hq hr
 have e:(xs.drop n).take (xs.length - n)=xs.drop n:=List.take_of_length_le (by simp)
 rw [e]
 unfold overlay
 have hl:(xs.drop n).length=xs.length - n:=by simp
 have ht:(xs.take n).length=n:=by rw [List.length_take]; omega
 rw [List.length_singleton,Nat.min_eq_left (show 1≤xs.length+1 - n by omega),hl,Nat.min_eq_left (show xs.length - n≤xs.length+1 - (n+1) by omega)]
 have a1:(xs.take n++List.replicate (xs.length+1 - n) z).take n=xs.take n:=by rw [List.take_append_of_le_length (by omega),List.take_of_length_le (by omega)]
 rw [a1]
 have a2:(xs.take n++[y].take 1++(xs.take n++List.replicate (xs.length+1 - n) z).drop (n+1)).take (n+1)=xs.take n++[y]:=by
  rw [List.take_append_of_le_length (by simp; omega),List.take_of_length_le (by simp; omega)]; rfl
 rw [a2]
 have a3:(xs.take n++[y].take 1++(xs.take n++List.replicate (xs.length+1 - n) z).drop (n+1)).drop (n+1+(xs.length - n))=[]:=List.drop_of_length_le (by simp; omega)
 rw [a3,List.append_nil,e,List.append_assoc]; rfl
theorem room_cut {f:AV→AV} (xs:List AV) (n:Nat) (y:AV) (J:AV) (h:n < xs.length) (p q:Nat) (hp:p=xs.length+1 - n) (hq:q=xs.length+1 - (n+1)) (X Y:List AV) (hX:X=xs++List.replicate (xs.length+1 - xs.length) J) (hY:Y=X.take (n+1)++(((X.drop n).take p).take (min ((X.drop n).take p).length q))++X.drop (n+1+min ((X.drop n).take p).length q)) :
  (Y.take n++[y].take (min [y].length p)++Y.drop (n+min [y].length p)).take (xs.length+1)=xs.take n++y::xs.drop n:=by
 have hJ:xs.length+1 - xs.length=1:=by omega
 rw [hJ] at hX
 have hXl:X.length=xs.length+1:=by rw [hX]; simp
 have hdl:((X.drop n).take p).length=p:=by rw [List.length_take,List.length_drop,hXl,hp]; omega
 have hmin:min p q=q:=by omega
 rw [hdl,hmin] at hY
 have hXn:X.take n=xs.take n:=by rw [hX,List.take_append_of_le_length (by omega)]
 have hXd:((X.drop n).take p).take q=xs.drop n:=by
  rw [List.take_take,Nat.min_eq_left (by omega),hX,List.drop_append_of_le_length (by omega),List.take_append_of_le_length (by simp; omega),List.take_of_length_le (by simp; omega)]
 rw [hXd] at hY
 have hYe:X.drop (n+1+q)=[]:=List.drop_of_length_le (by omega)
 rw [hYe,List.append_nil] at hY
 have hYt:Y.take n=xs.take n:=by
  rw [hY,List.take_append_of_le_length (by rw [List.length_take]; omega),List.take_take,Nat.min_eq_left (by omega),hXn]
 have h1:min [y].length p=1:=by rw [List.length_singleton]; omega
 have hYd:Y.drop (n+1)=xs.drop n:=by
  have hl:(X.take (n+1)).length=n+1:=by rw [List.length_take]; omega
  rw [hY,List.drop_append,hl,Nat.sub_self,List.drop_zero,List.drop_of_length_le (by omega),List.nil_append]
 rw [h1,hYt,hYd]
 rw [List.take_of_length_le (by simp; omega),List.append_assoc]; rfl
theorem Jaf {α:Type} {f:α→AV} (hf:∀ y,(f y).flatOk=true) {X:List AV} {xs:List α} {J:AV} {n p q:Nat} (hX:X=xs.map f++List.replicate ((xs.map f).length+1 - (xs.map f).length) J) (hn:n < xs.length) (hp:p=xs.length+1 - n) (hq:q=xs.length+1 - (n+1)):∀ y∈((X.drop n).take p).take (min ((X.drop n).take p).length q),y.flatOk=true:=by
 have hJ:(xs.map f).length+1 - (xs.map f).length=1:=by omega
 rw [hJ] at hX
 have hXl:X.length=xs.length+1:=by rw [hX]; simp
 have hdl:((X.drop n).take p).length=p:=by rw [List.length_take,List.length_drop,hXl,hp]; omega
 have hmin:min p q=q:=by omega
 have hXd:((X.drop n).take p).take q=(xs.map f).drop n:=by
  rw [List.take_take,Nat.min_eq_left (by omega),hX,List.drop_append_of_le_length (by simp; omega),List.take_append_of_le_length (by simp; omega),List.take_of_length_le (by simp; omega)]
 rw [hdl,hmin,hXd]
 intro y hy
 obtain⟨z,_,rfl⟩:=List.mem_map.1 (List.mem_of_mem_drop hy)
 exact hf z

/-! ### int -/
theorem Yc:sliceB Tryz.prog 50 3 1=true:=by kernel_rfl
theorem wE_int:Y2 Tryz.prog 3 1 8=true:=by kernel_rfl
theorem wz_int:(Tryz.prog.info? 3).bind (fun i=>i.zero.map Value.cells)=some ([E0]:List Value).toArray:=by kernel_rfl
theorem wm_int:Tryz.prog.follows .mixedOrders=true:=by kernel_rfl
theorem Jb4 (l:List Int) (h:l.length≤100000):Q3 l=some l:=by
 unfold Q3
 refine Hf1 (fun b hb=>?_)
 cases b with
 | true=>rw [hb rfl]; rfl
 | false=>exact Yq (Q8 (decide_eq_true ⟨by simp; omega,by simp [maxLen]; omega⟩) (Gn rfl))

theorem W_Delete_int (xs:List Int) (n:Nat) (hn:n < xs.length) (hm:xs.length≤100000) (ver:Nat) :
  Jn Tryz.prog 74 [.vec 1103 ver 1 xs.length,G0 (n:Int),G0 ((n+1:Nat):Int)] [(1103,.vec 3 1 ver (xs.map G0))] (fun u L'=>u=LS 1 G0 (xs.eraseIdx n)∧L'=[(1103,.vec 3 1 (ver+2) [])]):=by
 obtain⟨Y,hY⟩:∃ Y,Y=(xs.drop (n+1)).take (xs.length - (n+1)):=⟨_,rfl⟩
 have hYl:Y.length=xs.length - (n+1):=by rw [hY]; simp
 refine Jq [1103] [.tmp 6] Tryz.func74 O O (G2e O) (Jr fun h1=>(Yb (.sc (.slice none 0 0)) O (G7 (h1 (Jr fun h2=>(Yb (.vec 1103 ver 1 xs.length) O (Yb (G0 (n:Int)) O (Yb (G0 ((n+1:Nat):Int)) O (Yb (.vec 1103 ver 1 xs.length) O (JLh (G0 (xs.length:Int)) (J3c Yc O O O) O (JLh .junk (Q5a (lo:=n) (hi:=n+1) (mx:=xs.length) rfl Yc rfl rfl rfl rfl rfl rfl rfl rfl (by omega) (by omega) (by simp)) O (G7 (h2 (Js fun h3=>Jr fun h4=>(Yb (G0 (n:Int)) O (Yb (G0 ((n+1:Nat):Int)) O (JLh (BL (decide ((n:Int)=((n+1:Nat):Int)))) (Jz O O O) O (G7 (h4 (Gf O (fun hb=>?_) (fun hb=>?_)))))))))))))))))))))
 ·exact absurd (of_decide_eq_true hb) (by omega)
 refine Gi (h3 (Jr fun h5=>(Yb (.vec 1103 ver 1 xs.length) O (JLh (G0 (xs.length:Int)) (J3c Yc O O O) O (Yb (G0 (xs.length:Int)) O (G7 (h5 (Js fun h6=>Jy [6] [0,0,0,0,0,0,0,1] [0,0,0,0,0,0,0,1] [[(1103,.vec 3 1 ver (xs.map G0))],[(1103,.vec 3 1 ver ((xs.take n++Y++xs.drop (n+Y.length)).map G0)),(1103,.vec 3 1 ver (xs.map G0))]] wm_int (by kernel_rfl) rfl rfl ?_))))))))
 refine Gp (u:=.vec 1103 ver 1 xs.length) O O ⟨Gr (G72 _ O O) O,ø⟩ (Gp (u:=G0 (n:Int)) O O ⟨Gr (G72 _ O O) O,ø⟩ (Gp (u:=.vsl 1103 ver 1 0 n) rfl rfl ⟨Gr (Q58 (f:=G0) (xs:=xs) rfl rfl rfl rfl Yc ⟨rfl,by omega⟩) rfl,trivial⟩ (Gp (u:=.vec 1103 ver 1 xs.length) O O ⟨Gr (G72 _ O O) O,ø⟩ (Gp (u:=G0 ((n+1:Nat):Int)) O O ⟨Gr (G72 _ O O) O,ø⟩ (Gp (u:=.vsl 1103 ver 1 (n+1) (xs.length - (n+1))) rfl rfl ⟨Gr (Gb2 (f:=G0) (xs:=xs) rfl rfl rfl rfl Yc ⟨rfl,by omega⟩) rfl,trivial⟩ (D_w (u:=.vsl 1103 ver 1 0 (n+Y.length)) rfl rfl rfl rfl (Gr (Jbb (f:=G0) (xs:=xs) (ys:=Y) rfl Yc rfl rfl (hY ▸ Jd2 rfl rfl) (fun _=>rfl) (by omega) rfl) rfl) (Gp (u:=.vsl 1103 ver 1 0 (n+Y.length)) O O ⟨Gr (G72 _ O O) O,ø⟩ (Yd (h6 ?_)))))))))
 have hl2:(xs.take n++Y++xs.drop (n+Y.length)).length=xs.length:=by rw [List.length_append,List.length_append,List.length_take,List.length_drop,hYl]; omega
 refine Jr fun h7=>(Yb (.vsl 1103 ver 1 0 (n+Y.length)) O (Yb (.vsl 1103 ver 1 0 (n+Y.length)) O (JLh (G0 ((n+Y.length:Nat):Int)) (Q9c O Yc O O) O (Yb (G0 (xs.length:Int)) O (JLh (.vsl 1103 ver 1 (n+Y.length) (xs.length - (n+Y.length))) (G98 (lo:=n+Y.length) (hi:=xs.length) rfl Yc rfl rfl (.inr ⟨_,_,rfl,rfl⟩) (.inr ⟨_,_,rfl,rfl⟩) (by omega) (by rw [List.length_map,hl2]; exact Nat.le_refl _) rfl) O (Hw (Qa3 (f:=G0) (xs:=xs.take n++Y++xs.drop (n+Y.length)) (0:Int) [E0] O Yc (.inr O) O wz_int O O O ⟨.inl O,ø⟩) (G7 (h7 (Jr fun h8=>(Yb (.vsl 1103 ver 1 0 (n+Y.length)) O (Yb (.vsl 1103 ver 1 0 (n+Y.length)) O (G7 (h8 (Jd5 6 O O (H03 6 (ver+2) rfl rfl (by omega) (Gs ?_))))))))))))))))
 refine⟨[LS 1 G0 (xs.eraseIdx n)],[(1103,.vec 3 1 (ver+2) [])],⟨⟨_,O,.vec⟩,ø⟩,O,⟨⟨_,O,.conv (.eq ?_ O)⟩,ø⟩,O,O⟩
 refine congrArg (AV.list 1) ?_
 rw [← List.map_take]
 refine congrArg (List.map G0) ?_
 have:=del_cut xs n (0:Int) hn
 rw [← hY] at this
 exact this

def G0d (l:List Int) (n:Int):Option (List Int):=bif decide (0≤n)&&(decide (n < (l.length:Int))&&decide (l.length≤100000)) then some (l.eraseIdx n.toNat) else none
theorem Hde (l:List Int) (n:Int) (r:List Int) (h:G0d l n=some r):Pure Tryz.prog 41 [LS 1 G0 l,G0 n] (·=LS 1 G0 r):=by
 unfold G0d at h
 cases hc:(decide (0≤n)&&(decide (n < (l.length:Int))&&decide (l.length≤100000))) with
 | false=>rw [hc] at h; cases h
 | true=>
  rw [hc] at h
  simp only [Bool.and_eq_true,decide_eq_true_eq] at hc
  obtain⟨h1,h2,h3⟩:=hc
  obtain⟨q,rfl⟩:∃ q:Nat,n=(q:Int):=⟨n.toNat,by omega⟩
  have h:=Option.some.inj h
  simp only [Int.toNat_natCast] at h
  subst h
  refine Gz [.tmp 4] Tryz.func41 O O (Jr fun h1=>(Yb (.sc (.slice none 0 0)) O (G7 (h1 (Jr fun h2=>(Yb (LS 1 G0 l) O (JLh (.vec 1103 0 1 l.length) (Ry (args:=[LS 1 G0 l]) (L0:=[]) (Lr:=[(1103,.vec 3 1 0 (l.map G0))]) rfl ((Gfe l l (Jb4 l h3)).ver 0) (by kernel_rfl) ⟨.inl rfl,rfl,ø⟩ ø rfl rfl rfl) O (Yb (G0 (q:Int)) O (Yb (G0 (q:Int)) O (JLh (G0 ((q+1:Nat):Int)) (Hu (by rw [IntKind.wrap_i64]; omega) rfl rfl rfl) O (JLh (LS 1 G0 (l.eraseIdx q)) (Ry rfl (W_Delete_int l q (by omega) h3 0) (by kernel_rfl) ⟨.inl rfl,rfl,.inl rfl,rfl,.inl rfl,rfl,ø⟩ ⟨rfl,ø⟩ rfl rfl rfl) O (Yb (LS 1 G0 (l.eraseIdx q)) O (G7 (h2 (Gs (⟨[LS 1 G0 (l.eraseIdx q)],[],ø,O,⟨⟨_,O,.conv (.same O)⟩,ø⟩,O,O⟩))))))))))))))))
def Hdd:=PLift.up Hde

set_option maxHeartbeats 2000000 in
theorem W_Insert_int (xs:List Int) (n:Nat) (y:Int) (hn:n≤xs.length) (hm:xs.length≤100000) (ver:Nat) :
  Jn Tryz.prog 73 [.vec 1103 ver 1 xs.length,G0 (n:Int),LS 1 G0 [y]] [(1103,.vec 3 1 ver (xs.map G0))] (fun u L'=>u=LS 1 G0 (xs.take n++y::xs.drop n)∧L'=[(1103,.vec 3 1 (ver+4) [])]):=by
 refine Jq [1103] [.tmp 6] Tryz.func73 O O (G2e O) (Jr fun h1=>(Yb (.sc (.slice none 0 0)) O (G7 (h1 (Jr fun h2=>(Yb (.vec 1103 ver 1 xs.length) O (Yb (G0 (n:Int)) O (JLh (.vsl 1103 ver 1 n (xs.length - n)) (Gb2 (f:=G0) (xs:=xs) O O O O Yc ⟨O,hn⟩) O (G7 (h2 (Jr fun h3=>(Yb (LS 1 G0 [y]) O (JLh (G0 ((1:Nat):Int)) (Yv (f:=G0) (xs:=[y]) Yc O O) O (Yb (G0 ((1:Nat):Int)) O (G7 (h3 (Js fun h4=>Jr fun h5=>(Yb (G0 ((1:Nat):Int)) O (JLh (BL (decide (((1:Nat):Int)=0))) (Jz O O O) O (G7 (h5 (Gf O (fun hb=>?_) (fun hb=>?_)))))))))))))))))))))))
 ·exact absurd (of_decide_eq_true hb) (by omega)
 refine Gi (h4 (Jr fun h6=>(Yb (.vec 1103 ver 1 xs.length) O (JLh (G0 (xs.length:Int)) (J3c Yc O O O) O (Yb (G0 (xs.length:Int)) O (G7 (h6 (Js fun h7=>Jr fun h8=>(Yb (G0 (n:Int)) O (Yb (G0 (xs.length:Int)) O (JLh (BL (decide ((n:Int)=(xs.length:Int)))) (Jz O O O) O (G7 (h8 (Gf O (fun hb=>?_) (fun hb=>?_)))))))))))))))
 ·-- at the end
  have hb:=of_decide_eq_true hb
  have hnx:n=xs.length:=by omega
  refine Jr fun h9=>(Yb (.vec 1103 ver 1 xs.length) O (Yb (LS 1 G0 [y]) O (JLh (.vec 1103 (ver+3) 1 (xs++[y]).length) (G70 (f:=G0) (xs:=xs) (ys:=[y]) (ver1:=ver+3) rfl rfl rfl rfl Yc wE_int (decide_eq_true ⟨by rw [List.length_singleton]; omega,by rw [List.length_singleton]; simp [maxLen]; omega⟩) (fun _=>rfl) (.inl rfl) (by omega)) O (Yb (.vec 1103 (ver+3) 1 (xs++[y]).length) O (G7 (h9 (H03 6 (ver+4) rfl rfl (by omega) (Gs (⟨[LS 1 G0 (xs.take n++y::xs.drop n)],[(1103,.vec 3 1 (ver+4) [])],⟨⟨_,O,.vec⟩,ø⟩,O,⟨⟨_,O,.conv (.eq ?_ O)⟩,ø⟩,O,O⟩)))))))))
  refine congrArg (AV.list 1) (congrArg (List.map G0) ?_)
  rw [hnx,List.take_length,List.drop_length]
 have hb:=of_decide_eq_false hb
 have hlt:n < xs.length:=by omega
 refine Gi (h7 (JC_vcap 0 O O (fun c hc1 hc2=>?_)))
 rw [List.length_map] at hc1
 refine Rm (l':=[(0,.vcap 1103 ver 1 xs.length c),(1,G0 (n:Int)),(2,LS 1 G0 [y]),(7,G0 ((1:Nat):Int)),(8,G0 (xs.length:Int))]) (L':=[(1103,.vec 3 1 ver (xs.map G0))]) ⟨⟨.eq (by rw [show (xs.map G0).length=xs.length from List.length_map ..]; rfl) rfl,.same rfl,.same rfl,.same rfl,.same rfl,ø⟩,⟨⟨_,rfl,.vec⟩,ø⟩,rfl⟩ (Js fun h10=>Jr fun h11=>(Yb (G0 (xs.length:Int)) O (Yb (G0 ((1:Nat):Int)) O (JLh (G0 ((xs.length+1:Nat):Int)) (Hu (by rw [IntKind.wrap_i64]; omega) rfl rfl rfl) O (Yb (.vcap 1103 ver 1 xs.length c) O (JLh (G0 (c:Int)) (Q59 O Yc O O) O (JLh (BL (decide ((c:Int) < ((xs.length+1:Nat):Int)))) (G43 O O O) O (G7 (h11 (Gf O (fun hb=>?_) (fun hb=>?_)))))))))))
 ·-- a new row
  have hb:=of_decide_eq_true hb
  obtain⟨p,hp⟩:∃ p,p=xs.length+1 - n:=⟨_,rfl⟩
  obtain⟨X1,hX1⟩:∃ X1,xs.take n++List.replicate p (0:Int)=X1:=⟨_,rfl⟩
  have hl1:X1.length=xs.length+1:=by rw [← hX1,List.length_append,List.length_take,List.length_replicate]; omega
  obtain⟨X2,hX2⟩:∃ X2,overlay X1 n [y] (X1.length - n)=X2:=⟨_,rfl⟩
  have hl2:X2.length=xs.length+1:=by
   rw [← hX2]; unfold overlay
   rw [List.length_singleton,Nat.min_eq_left (by omega)]; simp; omega
  obtain⟨Y,hY⟩:∃ Y,Y=(xs.drop n).take (xs.length - n):=⟨_,rfl⟩
  obtain⟨X3,hX3⟩:∃ X3,overlay X2 (n+1) Y (X2.length - (n+1))=X3:=⟨_,rfl⟩
  refine Jr fun h12=>(Yb (.vcap 1103 ver 1 xs.length c) O (Yb (G0 (n:Int)) O (JLh (.vcap 1103 ver 1 n c) (J6c rfl Yc rfl rfl rfl rfl (by omega)) O (Yb (G0 (xs.length:Int)) O (Yb (G0 ((1:Nat):Int)) O (JLh (G0 ((xs.length+1:Nat):Int)) (Hu (by rw [IntKind.wrap_i64]; omega) rfl rfl rfl) O (Yb (G0 (n:Int)) O (JLh (G0 (p:Int)) (Zn (by rw [IntKind.wrap_i64]; omega) rfl rfl rfl) O (JLh (.vec 77000002 0 1 X1.length) (Q44 (f:=G0) (xs:=xs) 77000002 (0:Int) [E0] X1 hX1 rfl rfl rfl rfl rfl Yc (kn:=.i64) (by kernel_rfl) wE_int wz_int rfl rfl ⟨.inl rfl,ø⟩ (by omega) (by simp [maxLen]; omega) hn (by omega) (by omega) (by omega) rfl) O (Yb (.vec 77000002 0 1 X1.length) O (G7 (h12 ?_))))))))))))
  refine Jr fun h13=>(Yb (.vec 77000002 0 1 X1.length) O (Yb (G0 (n:Int)) O (JLh (.vsl 77000002 0 1 n (X1.length - n)) (Gb2 (f:=G0) (xs:=X1) rfl rfl rfl rfl Yc ⟨rfl,by omega⟩) O (Yb (LS 1 G0 [y]) O (G1 (Jd9 (f:=G0) (xs:=X1) (ys:=[y]) X2 hX2 O Yc (.inr O) O (Src_list O (.inl O)) (fun _=>O)) ?_)))))
  refine G7 (h13 (Rm (l':=[(0,.vcap 1103 ver 1 xs.length c),(1,G0 (n:Int)),(2,LS 1 G0 [y]),(7,G0 ((1:Nat):Int)),(9,.vec 77000002 0 1 X2.length)]) (L':=[(77000002,.vec 3 1 0 (X2.map G0)),(1103,.vec 3 1 ver (xs.map G0))]) ⟨⟨.same rfl,.same rfl,.same rfl,.same rfl,.eq (by rw [hl2,← hl1]; rfl) rfl,ø⟩,⟨⟨_,rfl,.vec⟩,⟨_,rfl,.vec⟩,ø⟩,rfl⟩ (Js fun h14=>Jy [8] [0,0,0,0,0,0,0,0,0] [0,0,0,0,0,0,0,0,0] [[(77000002,.vec 3 1 0 (X2.map G0)),(1103,.vec 3 1 ver (xs.map G0))],[(77000002,.vec 3 1 0 (X3.map G0)),(77000002,.vec 3 1 0 (X2.map G0)),(1103,.vec 3 1 ver (xs.map G0))]] wm_int (by kernel_rfl) rfl rfl ?_)))
  refine Gp (u:=.vec 77000002 0 1 X2.length) O O ⟨Gr (G72 _ O O) O,ø⟩ (Gp (u:=G0 (n:Int)) O O ⟨Gr (G72 _ O O) O,ø⟩ (Gp (u:=G0 ((1:Nat):Int)) O O ⟨Gr (G72 _ O O) O,ø⟩ (Gp (u:=G0 ((n+1:Nat):Int)) rfl rfl ⟨Gr (Hu (by rw [IntKind.wrap_i64]; omega) rfl rfl rfl) rfl,ø⟩ (Gp (u:=.vsl 77000002 0 1 (n+1) (X2.length - (n+1))) rfl rfl ⟨Gr (Gb2 (f:=G0) (xs:=X2) rfl rfl rfl rfl Yc ⟨rfl,by omega⟩) rfl,trivial⟩ (Gp (u:=.vcap 1103 ver 1 xs.length c) O O ⟨Gr (G72 _ O O) O,ø⟩ (Gp (u:=G0 (n:Int)) O O ⟨Gr (G72 _ O O) O,ø⟩ (Gp (u:=.vsl 1103 ver 1 n (xs.length - n)) rfl rfl ⟨Gr (Q9d rfl Yc rfl rfl rfl rfl hn (by simp) (by simp; omega)) rfl,ø⟩ (D_w (u:=G0 ((min Y.length (X2.length - (n+1)):Nat):Int)) O O O O (Gr (Jd9 (f:=G0) (xs:=X2) (ys:=Y) X3 hX3 O Yc (.inr O) O (hY ▸ Jd2 O O) (fun _=>O)) O) ?_))))))))
  refine Yd (h14 (Jr fun h15=>(Yb (.vec 77000002 0 1 X2.length) O (Yb (.vec 77000002 0 1 X2.length) O (G7 (h15 (H03 6 1 rfl rfl (by omega) (Q98 (i:=1103) (ver+4) rfl (by omega) (Gs (⟨[LS 1 G0 (xs.take n++y::xs.drop n)],[(1103,.vec 3 1 (ver+4) [])],⟨⟨_,O,.vec⟩,ø⟩,O,⟨⟨_,O,.conv (.eq ?_ O)⟩,ø⟩,O,O⟩))))))))))
  refine congrArg (AV.list 1) (congrArg (List.map G0) ?_)
  rw [show X2.length - (n+1)=xs.length+1 - (n+1) by omega] at hX3
  rw [show X1.length - n=p by omega] at hX2
  rw [← hX3,← hX2,← hX1,hY]
  exact grow_cut xs n y (0:Int) hlt _ _ _ hp O O
 have hb:=of_decide_eq_false hb
 obtain⟨X,hX⟩:∃ X,X=xs.map G0++List.replicate ((xs.map G0).length+1 - (xs.map G0).length) (.agg (List.replicate 1 .junk)):=⟨_,rfl⟩
 have hXl:X.length=xs.length+1:=by rw [hX]; simp
 refine Gi (h10 (Jr fun h16=>(Yb (.vcap 1103 ver 1 xs.length c) O (Yb (G0 (xs.length:Int)) O (Yb (G0 ((1:Nat):Int)) O (JLh (G0 ((xs.length+1:Nat):Int)) (Hu (by rw [IntKind.wrap_i64]; omega) rfl rfl rfl) O (JLh (.vcap 1103 ver 1 (xs.length+1) c) (J6c rfl Yc rfl rfl rfl rfl (by omega)) O (Jb5 60 X (by rw [hX,List.length_map]) rfl rfl (by simp) (by omega) (by simp; omega) (Yb (.vsl 1103 (ver+1) 1 0 (xs.length+1)) O (G7 (h16 (Js fun h17=>?_))))))))))))
 refine Jr fun h18=>(Yb (LS 1 G0 [y]) O (Yb (.vsl 1103 (ver+1) 1 0 (xs.length+1)) O (Yb (G0 (n:Int)) O (Yb (G0 ((1:Nat):Int)) O (JLh (G0 ((n+1:Nat):Int)) (Hu (by rw [IntKind.wrap_i64]; omega) rfl rfl rfl) O (JLh (.vsl 1103 (ver+1) 1 (n+1) (xs.length+1 - (n+1))) (G98 (lo:=n+1) (hi:=xs.length+1) rfl Yc rfl rfl (.inr ⟨_,_,rfl,rfl⟩) (.inl ⟨rfl,rfl⟩) (by omega) (by omega) rfl) O (JLh (BL false) (Q3f (S:=4) rfl Tryz.func110 (by kernel_rfl) (by kernel_rfl) (by kernel_rfl) (by kernel_rfl) Yc rfl rfl rfl rfl rfl (by simp) (by omega)) O (JLh (BL true) (Rv (b:=false) O O) O (G7 (h18 (Gf rfl (fun hb=>?_) (fun hb=>by cases hb))))))))))))
 obtain⟨Y,hY⟩:∃ Y,Y=X.take (n+1)++(((X.drop n).take (xs.length+1 - n)).take (min ((X.drop n).take (xs.length+1 - n)).length (xs.length+1 - (n+1))))++X.drop (n+1+min ((X.drop n).take (xs.length+1 - n)).length (xs.length+1 - (n+1))):=⟨_,rfl⟩
 have hYl:Y.length=xs.length+1:=by
  have hdl:((X.drop n).take (xs.length+1 - n)).length=xs.length+1 - n:=by rw [List.length_take,List.length_drop,hXl]; omega
  rw [hY,hdl,Nat.min_eq_right (by omega)]
  simp only [List.length_append,List.length_take,List.length_drop,hXl]
  omega
 refine Rm (l':=[(0,.vsl 1103 (ver+1) 1 0 (xs.length+1)),(1,G0 (n:Int)),(2,LS 1 G0 [y]),(7,G0 ((1:Nat):Int))]) (L':=[(1103,.vec 3 1 (ver+1) X)]) ⟨(.sm O O),⟨⟨_,rfl,.vec⟩,ø⟩,rfl⟩ (Js fun h19=>Jy [8] [0,0,0,0,0,0,0,0,0] [0,0,0,0,0,0,0,0,0] [[(1103,.vec 3 1 (ver+1) X)],[(1103,.vec 3 1 (ver+1) Y),(1103,.vec 3 1 (ver+1) X)]] wm_int (by kernel_rfl) rfl rfl ?_)
 refine Gp (u:=.vsl 1103 (ver+1) 1 0 (xs.length+1)) O O ⟨Gr (G72 _ O O) O,ø⟩ (Gp (u:=G0 (n:Int)) O O ⟨Gr (G72 _ O O) O,ø⟩ (Gp (u:=G0 ((1:Nat):Int)) O O ⟨Gr (G72 _ O O) O,ø⟩ (Gp (u:=G0 ((n+1:Nat):Int)) rfl rfl ⟨Gr (Hu (by rw [IntKind.wrap_i64]; omega) rfl rfl rfl) rfl,ø⟩ (Gp (u:=.vsl 1103 (ver+1) 1 (n+1) (xs.length+1 - (n+1))) rfl rfl ⟨Gr (G98 (lo:=n+1) (hi:=xs.length+1) rfl Yc rfl rfl (.inr ⟨_,_,rfl,rfl⟩) (.inl ⟨rfl,rfl⟩) (by omega) (by omega) rfl) rfl,ø⟩ (Gp (u:=.vsl 1103 (ver+1) 1 0 (xs.length+1)) O O ⟨Gr (G72 _ O O) O,ø⟩ (Gp (u:=G0 (n:Int)) O O ⟨Gr (G72 _ O O) O,ø⟩ (Gp (u:=.vsl 1103 (ver+1) 1 n (xs.length+1 - n)) rfl rfl ⟨Gr (G98 (lo:=n) (hi:=xs.length+1) rfl Yc rfl rfl (.inr ⟨_,_,rfl,rfl⟩) (.inl ⟨rfl,rfl⟩) (by omega) (by omega) rfl) rfl,ø⟩ (D_w (u:=G0 ((min ((X.drop n).take (xs.length+1 - n)).length (xs.length+1 - (n+1)):Nat):Int)) O O O O (Gr (A_copyR (ys:=(X.drop n).take (xs.length+1 - n)) Y hY.symm O Yc ⟨O,.inr O⟩ (.inr (.inr ⟨_,_,_,_,_,_,O,O,O⟩)) (Jaf (f:=G0) (fun _=>O) hX hlt O O)) O) ?_))))))))
 refine Yd (h19 (Jr fun h20=>(Yb (.vsl 1103 (ver+1) 1 0 (xs.length+1)) O (Yb (G0 (n:Int)) O (JLh (.vsl 1103 (ver+1) 1 n (xs.length+1 - n)) (G98 (lo:=n) (hi:=xs.length+1) rfl Yc rfl rfl (.inr ⟨_,_,rfl,rfl⟩) (.inl ⟨rfl,rfl⟩) (by omega) (by omega) rfl) O (Yb (LS 1 G0 [y]) O ?_))))))
 refine G1 (Q67 (xs:=Y) (ys:=[G0 y]) O Yc ⟨O,.inr O⟩ (.inl ⟨_,O,.inl O⟩) (fun z hz=>by
  have:=List.mem_of_mem_take hz
  rw [List.mem_singleton] at this
  subst this; rfl)) ?_
 refine G7 (h20 (Jr fun h21=>(Yb (.vsl 1103 (ver+1) 1 0 (xs.length+1)) O (Yb (.vsl 1103 (ver+1) 1 0 (xs.length+1)) O (G7 (h21 (Jd5 6 O O (H03 6 (ver+4) rfl rfl (by omega) (Gs (⟨[LS 1 G0 (xs.take n++y::xs.drop n)],[(1103,.vec 3 1 (ver+4) [])],⟨⟨_,O,.vec⟩,ø⟩,O,⟨⟨_,O,.conv (.eq ?_ O)⟩,ø⟩,O,O⟩))))))))))
 refine congrArg (AV.list 1) ?_
 have hlm:(xs.map G0).length=xs.length:=List.length_map ..
 have:=room_cut (f:=id) (xs.map G0) n (G0 y) (.agg (List.replicate 1 .junk)) (by rw [hlm]; exact hlt) (xs.length+1 - n) (xs.length+1 - (n+1)) (by rw [hlm]) (by rw [hlm]) X Y hX hY
 rw [hlm] at this
 rw [List.map_append,List.map_cons,List.map_take,List.map_drop]
 exact this

def G51 (l:List Int) (n:Int) (x:Int):Option (List Int):=bif decide (0≤n)&&(decide (n≤(l.length:Int))&&decide (l.length≤100000)) then some (l.take n.toNat++x::l.drop n.toNat) else none
theorem J62 (l:List Int) (n:Int) (x:Int) (r:List Int) (h:G51 l n x=some r):Pure Tryz.prog 40 [LS 1 G0 l,G0 n,G0 x] (·=LS 1 G0 r):=by
 unfold G51 at h
 cases hc:(decide (0≤n)&&(decide (n≤(l.length:Int))&&decide (l.length≤100000))) with
 | false=>rw [hc] at h; cases h
 | true=>
  rw [hc] at h
  simp only [Bool.and_eq_true,decide_eq_true_eq] at hc
  obtain⟨h1,h2,h3⟩:=hc
  obtain⟨q,rfl⟩:∃ q:Nat,n=(q:Int):=⟨n.toNat,by omega⟩
  have h:=Option.some.inj h
  simp only [Int.toNat_natCast] at h
  subst h
  refine Gz [.tmp 6] Tryz.func40 O O (Jr fun h1=>(Yb (.sc (.slice none 0 0)) O (G7 (h1 (Jr fun h2=>(Yb (LS 1 G0 l) O (JLh (.vec 1103 0 1 l.length) (Ry (args:=[LS 1 G0 l]) (L0:=[]) (Lr:=[(1103,.vec 3 1 0 (l.map G0))]) rfl ((Gfe l l (Jb4 l h3)).ver 0) (by kernel_rfl) ⟨.inl rfl,rfl,ø⟩ ø rfl rfl rfl) O (Yb (G0 (q:Int)) O (Yb (G0 x) O (JLh (LS 1 G0 [x]) (H6 (xs:=[G0 x]) rfl ⟨rfl,rfl,ø⟩ Yc (by kernel_rfl) rfl rfl rfl rfl) O (JLh (LS 1 G0 (l.take q++x::l.drop q)) (Ry rfl (W_Insert_int l q x (by omega) h3 0) (by kernel_rfl) ⟨.inl rfl,rfl,.inl rfl,rfl,.inl rfl,rfl,ø⟩ ⟨rfl,ø⟩ rfl rfl rfl) O (Yb (LS 1 G0 (l.take q++x::l.drop q)) O (G7 (h2 (Gs (⟨[LS 1 G0 (l.take q++x::l.drop q)],[],ø,O,⟨⟨_,O,.conv (.same O)⟩,ø⟩,O,O⟩))))))))))))))))
def J61:=PLift.up J62

/-! ### twistlock/api.Stowed -/
theorem J1:sliceB Tryz.prog 48 82 4=true:=by kernel_rfl
theorem J40:Y2 Tryz.prog 82 4 32=true:=by kernel_rfl
theorem J3f:(Tryz.prog.info? 82).bind (fun i=>i.zero.map Value.cells)=some ([E0,E0,E0,.int .u8 0]:List Value).toArray:=by kernel_rfl
theorem H0e:Tryz.prog.follows .mixedOrders=true:=by kernel_rfl
theorem H5e (l:List Stowed) (h:l.length≤100000):Qy l=some l:=by
 unfold Qy
 refine Hf1 (fun b hb=>?_)
 cases b with
 | true=>rw [hb rfl]; rfl
 | false=>exact Yq (Q8 (decide_eq_true ⟨by simp; omega,by simp [maxLen]; omega⟩) (Gn rfl))

theorem J37 (xs:List Stowed) (n:Nat) (hn:n < xs.length) (hm:xs.length≤100000) (ver:Nat) :
  Jn Tryz.prog 77 [.vec 1152 ver 4 xs.length,G0 (n:Int),G0 ((n+1:Nat):Int)] [(1152,.vec 82 4 ver (xs.map Stowed.av))] (fun u L'=>u=LS 4 Stowed.av (xs.eraseIdx n)∧L'=[(1152,.vec 82 4 (ver+2) [])]):=by
 obtain⟨Y,hY⟩:∃ Y,Y=(xs.drop (n+1)).take (xs.length - (n+1)):=⟨_,rfl⟩
 have hYl:Y.length=xs.length - (n+1):=by rw [hY]; simp
 refine Jq [1152] [.tmp 6] Tryz.func77 O O (G2e O) (Jr fun h1=>(Yb (.sc (.slice none 0 0)) O (G7 (h1 (Jr fun h2=>(Yb (.vec 1152 ver 4 xs.length) O (Yb (G0 (n:Int)) O (Yb (G0 ((n+1:Nat):Int)) O (Yb (.vec 1152 ver 4 xs.length) O (JLh (G0 (xs.length:Int)) (J3c J1 O O O) O (JLh .junk (Q5a (lo:=n) (hi:=n+1) (mx:=xs.length) rfl J1 rfl rfl rfl rfl rfl rfl rfl rfl (by omega) (by omega) (by simp)) O (G7 (h2 (Js fun h3=>Jr fun h4=>(Yb (G0 (n:Int)) O (Yb (G0 ((n+1:Nat):Int)) O (JLh (BL (decide ((n:Int)=((n+1:Nat):Int)))) (Jz O O O) O (G7 (h4 (Gf O (fun hb=>?_) (fun hb=>?_)))))))))))))))))))))
 ·exact absurd (of_decide_eq_true hb) (by omega)
 refine Gi (h3 (Jr fun h5=>(Yb (.vec 1152 ver 4 xs.length) O (JLh (G0 (xs.length:Int)) (J3c J1 O O O) O (Yb (G0 (xs.length:Int)) O (G7 (h5 (Js fun h6=>Jy [6] [0,0,0,0,0,0,0,1] [0,0,0,0,0,0,0,1] [[(1152,.vec 82 4 ver (xs.map Stowed.av))],[(1152,.vec 82 4 ver ((xs.take n++Y++xs.drop (n+Y.length)).map Stowed.av)),(1152,.vec 82 4 ver (xs.map Stowed.av))]] H0e (by kernel_rfl) rfl rfl ?_))))))))
 refine Gp (u:=.vec 1152 ver 4 xs.length) O O ⟨Gr (G72 _ O O) O,ø⟩ (Gp (u:=G0 (n:Int)) O O ⟨Gr (G72 _ O O) O,ø⟩ (Gp (u:=.vsl 1152 ver 4 0 n) rfl rfl ⟨Gr (Q58 (f:=Stowed.av) (xs:=xs) rfl rfl rfl rfl J1 ⟨rfl,by omega⟩) rfl,trivial⟩ (Gp (u:=.vec 1152 ver 4 xs.length) O O ⟨Gr (G72 _ O O) O,ø⟩ (Gp (u:=G0 ((n+1:Nat):Int)) O O ⟨Gr (G72 _ O O) O,ø⟩ (Gp (u:=.vsl 1152 ver 4 (n+1) (xs.length - (n+1))) rfl rfl ⟨Gr (Gb2 (f:=Stowed.av) (xs:=xs) rfl rfl rfl rfl J1 ⟨rfl,by omega⟩) rfl,trivial⟩ (D_w (u:=.vsl 1152 ver 4 0 (n+Y.length)) rfl rfl rfl rfl (Gr (Jbb (f:=Stowed.av) (xs:=xs) (ys:=Y) rfl J1 rfl rfl (hY ▸ Jd2 rfl rfl) (fun _=>rfl) (by omega) rfl) rfl) (Gp (u:=.vsl 1152 ver 4 0 (n+Y.length)) O O ⟨Gr (G72 _ O O) O,ø⟩ ?_)))))))
 refine Yd (h6 ?_)
 have hl2:(xs.take n++Y++xs.drop (n+Y.length)).length=xs.length:=by rw [List.length_append,List.length_append,List.length_take,List.length_drop,hYl]; omega
 refine Jr fun h7=>(Yb (.vsl 1152 ver 4 0 (n+Y.length)) O (Yb (.vsl 1152 ver 4 0 (n+Y.length)) O (JLh (G0 ((n+Y.length:Nat):Int)) (Q9c O J1 O O) O (Yb (G0 (xs.length:Int)) O (JLh (.vsl 1152 ver 4 (n+Y.length) (xs.length - (n+Y.length))) (G98 (lo:=n+Y.length) (hi:=xs.length) rfl J1 rfl rfl (.inr ⟨_,_,rfl,rfl⟩) (.inr ⟨_,_,rfl,rfl⟩) (by omega) (by rw [List.length_map,hl2]; exact Nat.le_refl _) rfl) O (Hw (Qa3 (f:=Stowed.av) (xs:=xs.take n++Y++xs.drop (n+Y.length)) (Stowed.mk 0 (Slot.mk 0 0 0)) [E0,E0,E0,.int .u8 0] O J1 (.inr O) O J3f O O O ⟨.inl O,.inl O,.inl O,.inl O,ø⟩) (G7 (h7 (Jr fun h8=>(Yb (.vsl 1152 ver 4 0 (n+Y.length)) O (Yb (.vsl 1152 ver 4 0 (n+Y.length)) O (G7 (h8 ?_)))))))))))))
 refine Jd5 6 O O (H03 6 (ver+2) rfl rfl (by omega) (Gs (⟨[LS 4 Stowed.av (xs.eraseIdx n)],[(1152,.vec 82 4 (ver+2) [])],⟨⟨_,O,.vec⟩,ø⟩,O,⟨⟨_,O,.conv (.eq ?_ O)⟩,ø⟩,O,O⟩)))
 refine congrArg (AV.list 4) ?_
 rw [← List.map_take]
 refine congrArg (List.map Stowed.av) ?_
 have:=del_cut xs n (Stowed.mk 0 (Slot.mk 0 0 0)) hn
 rw [← hY] at this
 exact this

def Ru (l:List Stowed) (n:Int):Option (List Stowed):=bif decide (0≤n)&&(decide (n < (l.length:Int))&&decide (l.length≤100000)) then some (l.eraseIdx n.toNat) else none
theorem H40 (l:List Stowed) (n:Int) (r:List Stowed) (h:Ru l n=some r):Pure Tryz.prog 43 [LS 4 Stowed.av l,G0 n] (·=LS 4 Stowed.av r):=by
 unfold Ru at h
 cases hc:(decide (0≤n)&&(decide (n < (l.length:Int))&&decide (l.length≤100000))) with
 | false=>rw [hc] at h; cases h
 | true=>
  rw [hc] at h
  simp only [Bool.and_eq_true,decide_eq_true_eq] at hc
  obtain⟨h1,h2,h3⟩:=hc
  obtain⟨q,rfl⟩:∃ q:Nat,n=(q:Int):=⟨n.toNat,by omega⟩
  have h:=Option.some.inj h
  simp only [Int.toNat_natCast] at h
  subst h
  refine Gz [.tmp 4] Tryz.func43 O O (Jr fun h1=>(Yb (.sc (.slice none 0 0)) O (G7 (h1 (Jr fun h2=>(Yb (LS 4 Stowed.av l) O (JLh (.vec 1152 0 4 l.length) (Ry (args:=[LS 4 Stowed.av l]) (L0:=[]) (Lr:=[(1152,.vec 82 4 0 (l.map Stowed.av))]) rfl ((G6b l l (H5e l h3)).ver 0) (by kernel_rfl) ⟨.inl rfl,rfl,ø⟩ ø rfl rfl rfl) O (Yb (G0 (q:Int)) O (Yb (G0 (q:Int)) O (JLh (G0 ((q+1:Nat):Int)) (Hu (by rw [IntKind.wrap_i64]; omega) rfl rfl rfl) O (JLh (LS 4 Stowed.av (l.eraseIdx q)) (Ry rfl (J37 l q (by omega) h3 0) (by kernel_rfl) ⟨.inl rfl,rfl,.inl rfl,rfl,.inl rfl,rfl,ø⟩ ⟨rfl,ø⟩ rfl rfl rfl) O (Yb (LS 4 Stowed.av (l.eraseIdx q)) O (G7 (h2 (Gs (⟨[LS 4 Stowed.av (l.eraseIdx q)],[],ø,O,⟨⟨_,O,.conv (.same O)⟩,ø⟩,O,O⟩))))))))))))))))
def H3f:=PLift.up H40

set_option maxHeartbeats 2000000 in
theorem J36 (xs:List Stowed) (n:Nat) (y:Stowed) (hn:n≤xs.length) (hm:xs.length≤100000) (ver:Nat) :
  Jn Tryz.prog 116 [.vec 1152 ver 4 xs.length,G0 (n:Int),LS 4 Stowed.av [y]] [(1152,.vec 82 4 ver (xs.map Stowed.av))] (fun u L'=>u=LS 4 Stowed.av (xs.take n++y::xs.drop n)∧L'=[(1152,.vec 82 4 (ver+4) [])]):=by
 refine Jq [1152] [.tmp 6] Tryz.func116 O O (G2e O) (Jr fun h1=>(Yb (.sc (.slice none 0 0)) O (G7 (h1 (Jr fun h2=>(Yb (.vec 1152 ver 4 xs.length) O (Yb (G0 (n:Int)) O (JLh (.vsl 1152 ver 4 n (xs.length - n)) (Gb2 (f:=Stowed.av) (xs:=xs) O O O O J1 ⟨O,hn⟩) O (G7 (h2 (Jr fun h3=>(Yb (LS 4 Stowed.av [y]) O (JLh (G0 ((1:Nat):Int)) (Yv (f:=Stowed.av) (xs:=[y]) J1 O O) O (Yb (G0 ((1:Nat):Int)) O (G7 (h3 (Js fun h4=>Jr fun h5=>(Yb (G0 ((1:Nat):Int)) O (JLh (BL (decide (((1:Nat):Int)=0))) (Jz O O O) O (G7 (h5 (Gf O (fun hb=>?_) (fun hb=>?_)))))))))))))))))))))))
 ·exact absurd (of_decide_eq_true hb) (by omega)
 refine Gi (h4 (Jr fun h6=>(Yb (.vec 1152 ver 4 xs.length) O (JLh (G0 (xs.length:Int)) (J3c J1 O O O) O (Yb (G0 (xs.length:Int)) O (G7 (h6 (Js fun h7=>Jr fun h8=>(Yb (G0 (n:Int)) O (Yb (G0 (xs.length:Int)) O (JLh (BL (decide ((n:Int)=(xs.length:Int)))) (Jz O O O) O (G7 (h8 (Gf O (fun hb=>?_) (fun hb=>?_)))))))))))))))
 ·-- at the end
  have hb:=of_decide_eq_true hb
  have hnx:n=xs.length:=by omega
  refine Jr fun h9=>(Yb (.vec 1152 ver 4 xs.length) O (Yb (LS 4 Stowed.av [y]) O (JLh (.vec 1152 (ver+3) 4 (xs++[y]).length) (G70 (f:=Stowed.av) (xs:=xs) (ys:=[y]) (ver1:=ver+3) rfl rfl rfl rfl J1 J40 (decide_eq_true ⟨by rw [List.length_singleton]; omega,by rw [List.length_singleton]; simp [maxLen]; omega⟩) (fun _=>rfl) (.inl rfl) (by omega)) O (Yb (.vec 1152 (ver+3) 4 (xs++[y]).length) O (G7 (h9 (H03 6 (ver+4) rfl rfl (by omega) (Gs (⟨[LS 4 Stowed.av (xs.take n++y::xs.drop n)],[(1152,.vec 82 4 (ver+4) [])],⟨⟨_,O,.vec⟩,ø⟩,O,⟨⟨_,O,.conv (.eq ?_ O)⟩,ø⟩,O,O⟩)))))))))
  refine congrArg (AV.list 4) (congrArg (List.map Stowed.av) ?_)
  rw [hnx,List.take_length,List.drop_length]
 have hb:=of_decide_eq_false hb
 have hlt:n < xs.length:=by omega
 refine Gi (h7 (JC_vcap 0 O O (fun c hc1 hc2=>?_)))
 rw [List.length_map] at hc1
 refine Rm (l':=[(0,.vcap 1152 ver 4 xs.length c),(1,G0 (n:Int)),(2,LS 4 Stowed.av [y]),(7,G0 ((1:Nat):Int)),(8,G0 (xs.length:Int))]) (L':=[(1152,.vec 82 4 ver (xs.map Stowed.av))]) ⟨⟨.eq (by rw [show (xs.map Stowed.av).length=xs.length from List.length_map ..]; rfl) rfl,.same rfl,.same rfl,.same rfl,.same rfl,ø⟩,⟨⟨_,rfl,.vec⟩,ø⟩,rfl⟩ (Js fun h10=>Jr fun h11=>(Yb (G0 (xs.length:Int)) O (Yb (G0 ((1:Nat):Int)) O (JLh (G0 ((xs.length+1:Nat):Int)) (Hu (by rw [IntKind.wrap_i64]; omega) rfl rfl rfl) O (Yb (.vcap 1152 ver 4 xs.length c) O (JLh (G0 (c:Int)) (Q59 O J1 O O) O (JLh (BL (decide ((c:Int) < ((xs.length+1:Nat):Int)))) (G43 O O O) O (G7 (h11 (Gf O (fun hb=>?_) (fun hb=>?_)))))))))))
 ·-- a new row
  have hb:=of_decide_eq_true hb
  obtain⟨p,hp⟩:∃ p,p=xs.length+1 - n:=⟨_,rfl⟩
  obtain⟨X1,hX1⟩:∃ X1,xs.take n++List.replicate p (Stowed.mk 0 (Slot.mk 0 0 0))=X1:=⟨_,rfl⟩
  have hl1:X1.length=xs.length+1:=by rw [← hX1,List.length_append,List.length_take,List.length_replicate]; omega
  obtain⟨X2,hX2⟩:∃ X2,overlay X1 n [y] (X1.length - n)=X2:=⟨_,rfl⟩
  have hl2:X2.length=xs.length+1:=by
   rw [← hX2]; unfold overlay
   rw [List.length_singleton,Nat.min_eq_left (by omega)]; simp; omega
  obtain⟨Y,hY⟩:∃ Y,Y=(xs.drop n).take (xs.length - n):=⟨_,rfl⟩
  obtain⟨X3,hX3⟩:∃ X3,overlay X2 (n+1) Y (X2.length - (n+1))=X3:=⟨_,rfl⟩
  refine Jr fun h12=>(Yb (.vcap 1152 ver 4 xs.length c) O (Yb (G0 (n:Int)) O (JLh (.vcap 1152 ver 4 n c) (J6c rfl J1 rfl rfl rfl rfl (by omega)) O (Yb (G0 (xs.length:Int)) O (Yb (G0 ((1:Nat):Int)) O (JLh (G0 ((xs.length+1:Nat):Int)) (Hu (by rw [IntKind.wrap_i64]; omega) rfl rfl rfl) O (Yb (G0 (n:Int)) O (JLh (G0 (p:Int)) (Zn (by rw [IntKind.wrap_i64]; omega) rfl rfl rfl) O (JLh (.vec 77000002 0 4 X1.length) (Q44 (f:=Stowed.av) (xs:=xs) 77000002 (Stowed.mk 0 (Slot.mk 0 0 0)) [E0,E0,E0,.int .u8 0] X1 hX1 rfl rfl rfl rfl rfl J1 (kn:=.i64) (by kernel_rfl) J40 J3f rfl rfl ⟨.inl rfl,.inl rfl,.inl rfl,.inl rfl,ø⟩ (by omega) (by simp [maxLen]; omega) hn (by omega) (by omega) (by omega) rfl) O (Yb (.vec 77000002 0 4 X1.length) O (G7 (h12 ?_))))))))))))
  refine Jr fun h13=>(Yb (.vec 77000002 0 4 X1.length) O (Yb (G0 (n:Int)) O (JLh (.vsl 77000002 0 4 n (X1.length - n)) (Gb2 (f:=Stowed.av) (xs:=X1) rfl rfl rfl rfl J1 ⟨rfl,by omega⟩) O (Yb (LS 4 Stowed.av [y]) O (G1 (Jd9 (f:=Stowed.av) (xs:=X1) (ys:=[y]) X2 hX2 O J1 (.inr O) O (Src_list O (.inl O)) (fun _=>O)) ?_)))))
  refine G7 (h13 (Rm (l':=[(0,.vcap 1152 ver 4 xs.length c),(1,G0 (n:Int)),(2,LS 4 Stowed.av [y]),(7,G0 ((1:Nat):Int)),(9,.vec 77000002 0 4 X2.length)]) (L':=[(77000002,.vec 82 4 0 (X2.map Stowed.av)),(1152,.vec 82 4 ver (xs.map Stowed.av))]) ⟨⟨.same rfl,.same rfl,.same rfl,.same rfl,.eq (by rw [hl2,← hl1]; rfl) rfl,ø⟩,⟨⟨_,rfl,.vec⟩,⟨_,rfl,.vec⟩,ø⟩,rfl⟩ (Js fun h14=>Jy [8] [0,0,0,0,0,0,0,0,0] [0,0,0,0,0,0,0,0,0] [[(77000002,.vec 82 4 0 (X2.map Stowed.av)),(1152,.vec 82 4 ver (xs.map Stowed.av))],[(77000002,.vec 82 4 0 (X3.map Stowed.av)),(77000002,.vec 82 4 0 (X2.map Stowed.av)),(1152,.vec 82 4 ver (xs.map Stowed.av))]] H0e (by kernel_rfl) rfl rfl ?_)))
  refine Gp (u:=.vec 77000002 0 4 X2.length) O O ⟨Gr (G72 _ O O) O,ø⟩ (Gp (u:=G0 (n:Int)) O O ⟨Gr (G72 _ O O) O,ø⟩ (Gp (u:=G0 ((1:Nat):Int)) O O ⟨Gr (G72 _ O O) O,ø⟩ (Gp (u:=G0 ((n+1:Nat):Int)) rfl rfl ⟨Gr (Hu (by rw [IntKind.wrap_i64]; omega) rfl rfl rfl) rfl,ø⟩ (Gp (u:=.vsl 77000002 0 4 (n+1) (X2.length - (n+1))) rfl rfl ⟨Gr (Gb2 (f:=Stowed.av) (xs:=X2) rfl rfl rfl rfl J1 ⟨rfl,by omega⟩) rfl,trivial⟩ (Gp (u:=.vcap 1152 ver 4 xs.length c) O O ⟨Gr (G72 _ O O) O,ø⟩ (Gp (u:=G0 (n:Int)) O O ⟨Gr (G72 _ O O) O,ø⟩ (Gp (u:=.vsl 1152 ver 4 n (xs.length - n)) rfl rfl ⟨Gr (Q9d rfl J1 rfl rfl rfl rfl hn (by simp) (by simp; omega)) rfl,ø⟩ (D_w (u:=G0 ((min Y.length (X2.length - (n+1)):Nat):Int)) O O O O (Gr (Jd9 (f:=Stowed.av) (xs:=X2) (ys:=Y) X3 hX3 O J1 (.inr O) O (hY ▸ Jd2 O O) (fun _=>O)) O) ?_))))))))
  refine Yd (h14 (Jr fun h15=>(Yb (.vec 77000002 0 4 X2.length) O (Yb (.vec 77000002 0 4 X2.length) O (G7 (h15 (H03 6 1 rfl rfl (by omega) (Q98 (i:=1152) (ver+4) rfl (by omega) (Gs (⟨[LS 4 Stowed.av (xs.take n++y::xs.drop n)],[(1152,.vec 82 4 (ver+4) [])],⟨⟨_,O,.vec⟩,ø⟩,O,⟨⟨_,O,.conv (.eq ?_ O)⟩,ø⟩,O,O⟩))))))))))
  refine congrArg (AV.list 4) (congrArg (List.map Stowed.av) ?_)
  rw [show X2.length - (n+1)=xs.length+1 - (n+1) by omega] at hX3
  rw [show X1.length - n=p by omega] at hX2
  rw [← hX3,← hX2,← hX1,hY]
  exact grow_cut xs n y (Stowed.mk 0 (Slot.mk 0 0 0)) hlt _ _ _ hp O O
 have hb:=of_decide_eq_false hb
 obtain⟨X,hX⟩:∃ X,X=xs.map Stowed.av++List.replicate ((xs.map Stowed.av).length+1 - (xs.map Stowed.av).length) (.agg (List.replicate 4 .junk)):=⟨_,rfl⟩
 have hXl:X.length=xs.length+1:=by rw [hX]; simp
 refine Gi (h10 (Jr fun h16=>(Yb (.vcap 1152 ver 4 xs.length c) O (Yb (G0 (xs.length:Int)) O (Yb (G0 ((1:Nat):Int)) O (JLh (G0 ((xs.length+1:Nat):Int)) (Hu (by rw [IntKind.wrap_i64]; omega) rfl rfl rfl) O (JLh (.vcap 1152 ver 4 (xs.length+1) c) (J6c rfl J1 rfl rfl rfl rfl (by omega)) O (Jb5 60 X (by rw [hX,List.length_map]) rfl rfl (by simp) (by omega) (by simp; omega) (Yb (.vsl 1152 (ver+1) 4 0 (xs.length+1)) O (G7 (h16 (Js fun h17=>?_))))))))))))
 refine Jr fun h18=>(Yb (LS 4 Stowed.av [y]) O (Yb (.vsl 1152 (ver+1) 4 0 (xs.length+1)) O (Yb (G0 (n:Int)) O (Yb (G0 ((1:Nat):Int)) O (JLh (G0 ((n+1:Nat):Int)) (Hu (by rw [IntKind.wrap_i64]; omega) rfl rfl rfl) O (JLh (.vsl 1152 (ver+1) 4 (n+1) (xs.length+1 - (n+1))) (G98 (lo:=n+1) (hi:=xs.length+1) rfl J1 rfl rfl (.inr ⟨_,_,rfl,rfl⟩) (.inl ⟨rfl,rfl⟩) (by omega) (by omega) rfl) O (JLh (BL false) (Q3f (S:=4) rfl Tryz.func131 (by kernel_rfl) (by kernel_rfl) (by kernel_rfl) (by kernel_rfl) J1 rfl rfl rfl rfl rfl (by simp) (by omega)) O (JLh (BL true) (Rv (b:=false) O O) O (G7 (h18 (Gf rfl (fun hb=>?_) (fun hb=>by cases hb))))))))))))
 obtain⟨Y,hY⟩:∃ Y,Y=X.take (n+1)++(((X.drop n).take (xs.length+1 - n)).take (min ((X.drop n).take (xs.length+1 - n)).length (xs.length+1 - (n+1))))++X.drop (n+1+min ((X.drop n).take (xs.length+1 - n)).length (xs.length+1 - (n+1))):=⟨_,rfl⟩
 have hYl:Y.length=xs.length+1:=by
  have hdl:((X.drop n).take (xs.length+1 - n)).length=xs.length+1 - n:=by rw [List.length_take,List.length_drop,hXl]; omega
  rw [hY,hdl,Nat.min_eq_right (by omega)]
  simp only [List.length_append,List.length_take,List.length_drop,hXl]
  omega
 refine Rm (l':=[(0,.vsl 1152 (ver+1) 4 0 (xs.length+1)),(1,G0 (n:Int)),(2,LS 4 Stowed.av [y]),(7,G0 ((1:Nat):Int))]) (L':=[(1152,.vec 82 4 (ver+1) X)]) ⟨(.sm O O),⟨⟨_,rfl,.vec⟩,ø⟩,rfl⟩ (Js fun h19=>Jy [8] [0,0,0,0,0,0,0,0,0] [0,0,0,0,0,0,0,0,0] [[(1152,.vec 82 4 (ver+1) X)],[(1152,.vec 82 4 (ver+1) Y),(1152,.vec 82 4 (ver+1) X)]] H0e (by kernel_rfl) rfl rfl ?_)
 refine Gp (u:=.vsl 1152 (ver+1) 4 0 (xs.length+1)) O O ⟨Gr (G72 _ O O) O,ø⟩ (Gp (u:=G0 (n:Int)) O O ⟨Gr (G72 _ O O) O,ø⟩ (Gp (u:=G0 ((1:Nat):Int)) O O ⟨Gr (G72 _ O O) O,ø⟩ (Gp (u:=G0 ((n+1:Nat):Int)) rfl rfl ⟨Gr (Hu (by rw [IntKind.wrap_i64]; omega) rfl rfl rfl) rfl,ø⟩ (Gp (u:=.vsl 1152 (ver+1) 4 (n+1) (xs.length+1 - (n+1))) rfl rfl ⟨Gr (G98 (lo:=n+1) (hi:=xs.length+1) rfl J1 rfl rfl (.inr ⟨_,_,rfl,rfl⟩) (.inl ⟨rfl,rfl⟩) (by omega) (by omega) rfl) rfl,ø⟩ (Gp (u:=.vsl 1152 (ver+1) 4 0 (xs.length+1)) O O ⟨Gr (G72 _ O O) O,ø⟩ (Gp (u:=G0 (n:Int)) O O ⟨Gr (G72 _ O O) O,ø⟩ (Gp (u:=.vsl 1152 (ver+1) 4 n (xs.length+1 - n)) rfl rfl ⟨Gr (G98 (lo:=n) (hi:=xs.length+1) rfl J1 rfl rfl (.inr ⟨_,_,rfl,rfl⟩) (.inl ⟨rfl,rfl⟩) (by omega) (by omega) rfl) rfl,ø⟩ (D_w (u:=G0 ((min ((X.drop n).take (xs.length+1 - n)).length (xs.length+1 - (n+1)):Nat):Int)) O O O O (Gr (A_copyR (ys:=(X.drop n).take (xs.length+1 - n)) Y hY.symm O J1 ⟨O,.inr O⟩ (.inr (.inr ⟨_,_,_,_,_,_,O,O,O⟩)) (Jaf (f:=Stowed.av) (fun _=>O) hX hlt O O)) O) ?_))))))))
 refine Yd (h19 (Jr fun h20=>(Yb (.vsl 1152 (ver+1) 4 0 (xs.length+1)) O (Yb (G0 (n:Int)) O (JLh (.vsl 1152 (ver+1) 4 n (xs.length+1 - n)) (G98 (lo:=n) (hi:=xs.length+1) rfl J1 rfl rfl (.inr ⟨_,_,rfl,rfl⟩) (.inl ⟨rfl,rfl⟩) (by omega) (by omega) rfl) O (Yb (LS 4 Stowed.av [y]) O ?_))))))
 refine G1 (Q67 (xs:=Y) (ys:=[Stowed.av y]) O J1 ⟨O,.inr O⟩ (.inl ⟨_,O,.inl O⟩) (fun z hz=>by
  have:=List.mem_of_mem_take hz
  rw [List.mem_singleton] at this
  subst this; rfl)) ?_
 refine G7 (h20 (Jr fun h21=>(Yb (.vsl 1152 (ver+1) 4 0 (xs.length+1)) O (Yb (.vsl 1152 (ver+1) 4 0 (xs.length+1)) O (G7 (h21 (Jd5 6 O O (H03 6 (ver+4) rfl rfl (by omega) (Gs (⟨[LS 4 Stowed.av (xs.take n++y::xs.drop n)],[(1152,.vec 82 4 (ver+4) [])],⟨⟨_,O,.vec⟩,ø⟩,O,⟨⟨_,O,.conv (.eq ?_ O)⟩,ø⟩,O,O⟩))))))))))
 refine congrArg (AV.list 4) ?_
 have hlm:(xs.map Stowed.av).length=xs.length:=List.length_map ..
 have:=room_cut (f:=id) (xs.map Stowed.av) n (Stowed.av y) (.agg (List.replicate 4 .junk)) (by rw [hlm]; exact hlt) (xs.length+1 - n) (xs.length+1 - (n+1)) (by rw [hlm]) (by rw [hlm]) X Y hX hY
 rw [hlm] at this
 rw [List.map_append,List.map_cons,List.map_take,List.map_drop]
 exact this

def Ro (l:List Stowed) (n:Int) (x:Stowed):Option (List Stowed):=bif decide (0≤n)&&(decide (n≤(l.length:Int))&&decide (l.length≤100000)) then some (l.take n.toNat++x::l.drop n.toNat) else none
theorem J41:Gbf Tryz.prog 82 4=true:=by kernel_rfl
theorem H84 (l:List Stowed) (n:Int) (x:Stowed) (r:List Stowed) (h:Ro l n x=some r):Pure Tryz.prog 88 [LS 4 Stowed.av l,G0 n,.agg (Stowed.cs x)] (·=LS 4 Stowed.av r):=by
 unfold Ro at h
 cases hc:(decide (0≤n)&&(decide (n≤(l.length:Int))&&decide (l.length≤100000))) with
 | false=>rw [hc] at h; cases h
 | true=>
  rw [hc] at h
  simp only [Bool.and_eq_true,decide_eq_true_eq] at hc
  obtain⟨h1,h2,h3⟩:=hc
  obtain⟨q,rfl⟩:∃ q:Nat,n=(q:Int):=⟨n.toNat,by omega⟩
  have h:=Option.some.inj h
  simp only [Int.toNat_natCast] at h
  subst h
  refine Gz [.tmp 6] Tryz.func88 O O (Jr fun h1=>(JLh (.ptr 77000003 0) (Jm (cs:=Stowed.cs x) 77000003 O O O O O) O (Yb (.sc (.slice none 0 0)) O (G7 (h1 (Gq [(0,LS 4 Stowed.av l),(1,G0 (q:Int)),(5,.dptr (Stowed.cs x))] [] 77000003 rfl rfl rfl ø rfl (by exact⟨.conv (.same rfl),.conv (.same rfl),.ptr,ø⟩) (Js fun h2=>Jy [1,5] [0,0,0,0,0,0,2] [0,0,1,1,1,0,2] [[],[(1152,.vec 82 4 0 (l.map Stowed.av))],[(1152,.vec 82 4 4 [])]] H0e (by kernel_rfl) rfl rfl ?_)))))))
  refine Gp (u:=LS 4 Stowed.av l) O O ⟨Gr (G72 _ O O) O,ø⟩ (D_w (u:=.vec 1152 0 4 l.length) rfl rfl rfl rfl (Gr (Ry (args:=[LS 4 Stowed.av l]) (L0:=[]) (Lr:=[(1152,.vec 82 4 0 (l.map Stowed.av))]) rfl ((G6b l l (H5e l h3)).ver 0) (by kernel_rfl) ⟨.inl rfl,rfl,ø⟩ ø rfl rfl rfl) rfl) (Gp (u:=G0 (q:Int)) O O ⟨Gr (G72 _ O O) O,Gr (G72 _ O O) O,ø⟩ (Gp (u:=.agg (Stowed.cs x)) O O ⟨Gr (Gg J41 O O O) O,Gr (Gg J41 O O O) O,ø⟩ (Gp (u:=LS 4 Stowed.av [x]) rfl rfl ⟨Gr (H6 (xs:=[Stowed.av x]) rfl ⟨rfl,rfl,ø⟩ J1 (by kernel_rfl) rfl rfl rfl rfl) rfl,Gr (H6 (xs:=[Stowed.av x]) rfl ⟨rfl,rfl,ø⟩ J1 (by kernel_rfl) rfl rfl rfl rfl) rfl,ø⟩ (D_w (u:=LS 4 Stowed.av (l.take q++x::l.drop q)) rfl rfl rfl rfl (Gr (Ry (args:=[.vec 1152 0 4 l.length,G0 (q:Int),LS 4 Stowed.av [x]]) rfl (J36 l q x (by omega) h3 0) (by kernel_rfl) ⟨.inl rfl,rfl,.inl rfl,rfl,.inl rfl,rfl,ø⟩ ⟨rfl,ø⟩ rfl rfl rfl) rfl) (Gp (u:=LS 4 Stowed.av (l.take q++x::l.drop q)) O O ⟨Gr (G72 _ O O) O,ø⟩ ?_))))))
  refine Yd (h2 (Gs (⟨[LS 4 Stowed.av (l.take q++x::l.drop q)],[],ø,O,⟨⟨_,O,.conv (.same O)⟩,ø⟩,O,O⟩)))
def H83:=PLift.up H84
end Go.Proofs.YtknalejjpofoaaaGreat
