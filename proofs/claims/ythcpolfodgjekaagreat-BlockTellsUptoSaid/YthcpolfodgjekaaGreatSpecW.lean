/-
 What stow.without and stow.with return: a list without an element,and with one more; of slices.Clone,slices.Delete and slices.Insert.
-/
import Derived.Test.YthcpolfodgjekaaGreatXC
import Derived.Test.YthcpolfodgjekaaGreatIns
import Derived.Test.YthcpolfodgjekaaGreatWp
set_option maxRecDepth 100000
set_option linter.unusedVariables false
set_option linter.unusedSimpArgs false
namespace Go.Proofs.YthcpolfodgjekaaGreat
open Go.RowKit
theorem nilB_same {α β:Type} [DecidableEq β] {xs:List α} {k:Bool→Option β} {r:Option β} (h:∀ b,(b=true→xs=[])→k b=r):nilB xs k=r:=by
 unfold nilB
 cases xs with
 | nil=>rw [h true (fun _=>rfl),h false (fun e=>by cases e)]; simp
 | cons x l=>exact h false (fun e=>by cases e)
theorem grow_cut {α:Type} (xs:List α) (n:Nat) (y z:α) (h:n < xs.length) (p q r:Nat) (hp:p=xs.length+1 - n) (hq:q=xs.length+1 - (n+1)) (hr:r=xs.length - n) :
  overlay (overlay (xs.take n++List.replicate p z) n [y] p) (n+1) ((xs.drop n).take r) q=xs.take n++y::xs.drop n:=by
 subst hp hq hr
 have e:(xs.drop n).take (xs.length - n)=xs.drop n:=List.take_of_length_le (by simp)
 rw [e]
 unfold overlay
 have hl:(xs.drop n).length=xs.length - n:=by simp
 have ht:(xs.take n).length=n:=by rw [List.length_take]; omega
 rw [List.length_singleton,Nat.min_eq_left (show 1≤xs.length+1 - n by omega),hl,Nat.min_eq_left (show xs.length - n≤xs.length+1 - (n+1) by omega)]
 have a1:(xs.take n++List.replicate (xs.length+1 - n) z).take n=xs.take n:=by rw [List.take_append_of_le_length (by omega),List.take_of_length_le (by omega)]
 rw [a1]
 have a2:(xs.take n++[y].take 1++(xs.take n++List.replicate (xs.length+1 - n) z).drop (n+1)).take (n+1)=xs.take n++[y]:=by
  rw [List.take_append_of_le_length (by simp; omega),List.take_of_length_le (by simp; omega)]; rfl
 rw [a2]
 have a3:(xs.take n++[y].take 1++(xs.take n++List.replicate (xs.length+1 - n) z).drop (n+1)).drop (n+1+(xs.length - n))=[]:=List.drop_of_length_le (by simp; omega)
 rw [a3,List.append_nil,e,List.append_assoc]; rfl
theorem room_cut {f:AV→AV} (xs:List AV) (n:Nat) (y:AV) (J:AV) (h:n < xs.length) (p q:Nat) (hp:p=xs.length+1 - n) (hq:q=xs.length+1 - (n+1)) (X Y:List AV) (hX:X=xs++List.replicate (xs.length+1 - xs.length) J) (hY:Y=X.take (n+1)++(((X.drop n).take p).take (min ((X.drop n).take p).length q))++X.drop (n+1+min ((X.drop n).take p).length q)) :
  (Y.take n++[y].take (min [y].length p)++Y.drop (n+min [y].length p)).take (xs.length+1)=xs.take n++y::xs.drop n:=by
 have hJ:xs.length+1 - xs.length=1:=by omega
 rw [hJ] at hX
 have hXl:X.length=xs.length+1:=by rw [hX]; simp
 have hdl:((X.drop n).take p).length=p:=by rw [List.length_take,List.length_drop,hXl,hp]; omega
 have hmin:min p q=q:=by omega
 rw [hdl,hmin] at hY
 have hXn:X.take n=xs.take n:=by rw [hX,List.take_append_of_le_length (by omega)]
 have hXd:((X.drop n).take p).take q=xs.drop n:=by
  rw [List.take_take,Nat.min_eq_left (by omega),hX,List.drop_append_of_le_length (by omega),List.take_append_of_le_length (by simp; omega),List.take_of_length_le (by simp; omega)]
 rw [hXd] at hY
 have hYe:X.drop (n+1+q)=[]:=List.drop_of_length_le (by omega)
 rw [hYe,List.append_nil] at hY
 have hYt:Y.take n=xs.take n:=by
  rw [hY,List.take_append_of_le_length (by rw [List.length_take]; omega),List.take_take,Nat.min_eq_left (by omega),hXn]
 have h1:min [y].length p=1:=by rw [List.length_singleton]; omega
 have hYd:Y.drop (n+1)=xs.drop n:=by
  have hl:(X.take (n+1)).length=n+1:=by rw [List.length_take]; omega
  rw [hY,List.drop_append,hl,Nat.sub_self,List.drop_zero,List.drop_of_length_le (by omega),List.nil_append]
 rw [h1,hYt,hYd]
 rw [List.take_of_length_le (by simp; omega),List.append_assoc]; rfl
theorem Ja4 {α:Type} {f:α→AV} (hf:∀ y,(f y).flatOk=true) {X:List AV} {xs:List α} {J:AV} {n p q:Nat} (hX:X=xs.map f++List.replicate ((xs.map f).length+1 - (xs.map f).length) J) (hn:n < xs.length) (hp:p=xs.length+1 - n) (hq:q=xs.length+1 - (n+1)):∀ y∈((X.drop n).take p).take (min ((X.drop n).take p).length q),y.flatOk=true:=by
 have hJ:(xs.map f).length+1 - (xs.map f).length=1:=by omega
 rw [hJ] at hX
 have hXl:X.length=xs.length+1:=by rw [hX]; simp
 have hdl:((X.drop n).take p).length=p:=by rw [List.length_take,List.length_drop,hXl,hp]; omega
 have hmin:min p q=q:=by omega
 have hXd:((X.drop n).take p).take q=(xs.map f).drop n:=by
  rw [List.take_take,Nat.min_eq_left (by omega),hX,List.drop_append_of_le_length (by simp; omega),List.take_append_of_le_length (by simp; omega),List.take_of_length_le (by simp; omega)]
 rw [hdl,hmin,hXd]
 intro y hy
 obtain⟨z,_,rfl⟩:=List.mem_map.1 (List.mem_of_mem_drop hy)
 exact hf z

/-! ### int -/
theorem G50:sliceB Tryz.prog 40 3 1=true:=by kernel_rfl
theorem wE_int:Z5 Tryz.prog 3 1 8=true:=by kernel_rfl
theorem wz_int:(Tryz.prog.info? 3).bind (fun i=>i.zero.map Value.cells)=some ([E0]:List Value).toArray:=by kernel_rfl
theorem wm_int:Tryz.prog.follows .mixedOrders=true:=by kernel_rfl
theorem W_clone_int (l:List Int) (h:l.length≤100000):Z6 l=some l:=by
 unfold Z6
 refine nilB_same (fun b hb=>?_)
 cases b with
 | true=>rw [hb rfl]; rfl
 | false=>exact Zz (G0b (decide_eq_true ⟨by simp; omega,by simp [maxLen]; omega⟩) (Gt rfl))

set_option maxHeartbeats 2000000 in
theorem W_Insert_int (xs:List Int) (n:Nat) (y:Int) (hn:n≤xs.length) (hm:xs.length≤100000) (ver:Nat) :
  Y1 Tryz.prog 172 [.vec 1181 ver 1 xs.length,G0 (n:Int),LS 1 G0 [y]] [(1181,.vec 3 1 ver (xs.map G0))] (fun u L'=>u=LS 1 G0 (xs.take n++y::xs.drop n)∧L'=[(1181,.vec 3 1 (ver+4) [])]):=by
 refine Ge8 [1181] [.tmp 6] Tryz.func172 O O (inAll O) (Jr fun h1=>(G57 (.sc (.slice none 0 0)) O (G8 (h1 (Jr fun h2=>(G57 (.vec 1181 ver 1 xs.length) O (G57 (G0 (n:Int)) O (JLh (.vsl 1181 ver 1 n (xs.length - n)) (H1d (f:=G0) (xs:=xs) O O O O G50 ⟨O,hn⟩) O (G8 (h2 (Jr fun h3=>(G57 (LS 1 G0 [y]) O (JLh (G0 ((1:Nat):Int)) (Qw (f:=G0) (xs:=[y]) G50 O O) O (G57 (G0 ((1:Nat):Int)) O (G8 (h3 (Js fun h4=>Jr fun h5=>(G57 (G0 ((1:Nat):Int)) O (JLh (BL (decide (((1:Nat):Int)=0))) (Jx O O O) O (G8 (h5 (Gm O (fun hb=>?_) (fun hb=>?_)))))))))))))))))))))))
 ·exact absurd (of_decide_eq_true hb) (by omega)
 refine Gn (h4 (Jr fun h6=>(G57 (.vec 1181 ver 1 xs.length) O (JLh (G0 (xs.length:Int)) (Qbd G50 O O O) O (G57 (G0 (xs.length:Int)) O (G8 (h6 (Js fun h7=>Jr fun h8=>(G57 (G0 (n:Int)) O (G57 (G0 (xs.length:Int)) O (JLh (BL (decide ((n:Int)=(xs.length:Int)))) (Jx O O O) O (G8 (h8 (Gm O (fun hb=>?_) (fun hb=>?_)))))))))))))))
 ·-- at the end
  have hb:=of_decide_eq_true hb
  have hnx:n=xs.length:=by omega
  refine Jr fun h9=>(G57 (.vec 1181 ver 1 xs.length) O (G57 (LS 1 G0 [y]) O (JLh (.vec 1181 (ver+3) 1 (xs++[y]).length) (Ge6 (f:=G0) (xs:=xs) (ys:=[y]) (ver1:=ver+3) rfl rfl rfl rfl G50 wE_int (decide_eq_true ⟨by rw [List.length_singleton]; omega,by rw [List.length_singleton]; simp [maxLen]; omega⟩) (fun _=>rfl) (.inl rfl) (by omega)) O (G57 (.vec 1181 (ver+3) 1 (xs++[y]).length) O (G8 (h9 (H7e 6 (ver+4) rfl rfl (by omega) (Gr (⟨[LS 1 G0 (xs.take n++y::xs.drop n)],[(1181,.vec 3 1 (ver+4) [])],⟨⟨_,O,.vec⟩,G⟩,O,⟨⟨_,O,.conv (.eq ?_ O)⟩,G⟩,O,O⟩)))))))))
  refine congrArg (AV.list 1) (congrArg (List.map G0) ?_)
  rw [hnx,List.take_length,List.drop_length]
 have hb:=of_decide_eq_false hb
 have hlt:n < xs.length:=by omega
 refine Gn (h7 (JC_vcap 0 O O (fun c hc1 hc2=>?_)))
 rw [List.length_map] at hc1
 refine G2a (l':=[(0,.vcap 1181 ver 1 xs.length c),(1,G0 (n:Int)),(2,LS 1 G0 [y]),(7,G0 ((1:Nat):Int)),(8,G0 (xs.length:Int))]) (L':=[(1181,.vec 3 1 ver (xs.map G0))]) ⟨⟨.eq (by rw [show (xs.map G0).length=xs.length from List.length_map ..]; rfl) rfl,.same rfl,.same rfl,.same rfl,.same rfl,G⟩,⟨⟨_,rfl,.vec⟩,G⟩,rfl⟩ (Js fun h10=>Jr fun h11=>(G57 (G0 (xs.length:Int)) O (G57 (G0 ((1:Nat):Int)) O (JLh (G0 ((xs.length+1:Nat):Int)) (Hu (by rw [IntKind.wrap_i64]; omega) rfl rfl rfl) O (G57 (.vcap 1181 ver 1 xs.length c) O (JLh (G0 (c:Int)) (Q3a O G50 O O) O (JLh (BL (decide ((c:Int) < ((xs.length+1:Nat):Int)))) (G3d O O O) O (G8 (h11 (Gm O (fun hb=>?_) (fun hb=>?_)))))))))))
 ·-- a new row
  have hb:=of_decide_eq_true hb
  obtain⟨p,hp⟩:∃ p,p=xs.length+1 - n:=⟨_,rfl⟩
  obtain⟨X1,hX1⟩:∃ X1,xs.take n++List.replicate p (0:Int)=X1:=⟨_,rfl⟩
  have hl1:X1.length=xs.length+1:=by rw [← hX1,List.length_append,List.length_take,List.length_replicate]; omega
  obtain⟨X2,hX2⟩:∃ X2,overlay X1 n [y] (X1.length - n)=X2:=⟨_,rfl⟩
  have hl2:X2.length=xs.length+1:=by
   rw [← hX2]; unfold overlay
   rw [List.length_singleton,Nat.min_eq_left (by omega)]; simp; omega
  obtain⟨Y,hY⟩:∃ Y,Y=(xs.drop n).take (xs.length - n):=⟨_,rfl⟩
  obtain⟨X3,hX3⟩:∃ X3,overlay X2 (n+1) Y (X2.length - (n+1))=X3:=⟨_,rfl⟩
  refine Jr fun h12=>(G57 (.vcap 1181 ver 1 xs.length c) O (G57 (G0 (n:Int)) O (JLh (.vcap 1181 ver 1 n c) (J5a rfl G50 rfl rfl rfl rfl (by omega)) O (G57 (G0 (xs.length:Int)) O (G57 (G0 ((1:Nat):Int)) O (JLh (G0 ((xs.length+1:Nat):Int)) (Hu (by rw [IntKind.wrap_i64]; omega) rfl rfl rfl) O (G57 (G0 (n:Int)) O (JLh (G0 (p:Int)) (Gd4 (by rw [IntKind.wrap_i64]; omega) rfl rfl rfl) O (JLh (.vec 77000002 0 1 X1.length) (Q2a (f:=G0) (xs:=xs) 77000002 (0:Int) [E0] X1 hX1 rfl rfl rfl rfl rfl G50 (kn:=.i64) (by kernel_rfl) wE_int wz_int rfl rfl ⟨.inl rfl,G⟩ (by omega) (by simp [maxLen]; omega) hn (by omega) (by omega) (by omega) rfl) O (G57 (.vec 77000002 0 1 X1.length) O (G8 (h12 ?_))))))))))))
  refine Jr fun h13=>(G57 (.vec 77000002 0 1 X1.length) O (G57 (G0 (n:Int)) O (JLh (.vsl 77000002 0 1 n (X1.length - n)) (H1d (f:=G0) (xs:=X1) rfl rfl rfl rfl G50 ⟨rfl,by omega⟩) O (G57 (LS 1 G0 [y]) O (G1 (Jc4 (f:=G0) (xs:=X1) (ys:=[y]) X2 hX2 O G50 (.inr O) O (Src_list O (.inl O)) (fun _=>O)) ?_)))))
  refine G8 (h13 (G2a (l':=[(0,.vcap 1181 ver 1 xs.length c),(1,G0 (n:Int)),(2,LS 1 G0 [y]),(7,G0 ((1:Nat):Int)),(9,.vec 77000002 0 1 X2.length)]) (L':=[(77000002,.vec 3 1 0 (X2.map G0)),(1181,.vec 3 1 ver (xs.map G0))]) ⟨⟨.same rfl,.same rfl,.same rfl,.same rfl,.eq (by rw [hl2,← hl1]; rfl) rfl,G⟩,⟨⟨_,rfl,.vec⟩,⟨_,rfl,.vec⟩,G⟩,rfl⟩ (Js fun h14=>Ji [8] [0,0,0,0,0,0,0,0,0] [0,0,0,0,0,0,0,0,0] [[(77000002,.vec 3 1 0 (X2.map G0)),(1181,.vec 3 1 ver (xs.map G0))],[(77000002,.vec 3 1 0 (X3.map G0)),(77000002,.vec 3 1 0 (X2.map G0)),(1181,.vec 3 1 ver (xs.map G0))]] wm_int (by kernel_rfl) rfl rfl ?_)))
  refine Gd (u:=.vec 77000002 0 1 X2.length) O O ⟨Gv (H09 _ O O) O,G⟩ (Gd (u:=G0 (n:Int)) O O ⟨Gv (H09 _ O O) O,G⟩ (Gd (u:=G0 ((1:Nat):Int)) O O ⟨Gv (H09 _ O O) O,G⟩ (Gd (u:=G0 ((n+1:Nat):Int)) rfl rfl ⟨Gv (Hu (by rw [IntKind.wrap_i64]; omega) rfl rfl rfl) rfl,G⟩ (Gd (u:=.vsl 77000002 0 1 (n+1) (X2.length - (n+1))) rfl rfl ⟨Gv (H1d (f:=G0) (xs:=X2) rfl rfl rfl rfl G50 ⟨rfl,by omega⟩) rfl,trivial⟩ (Gd (u:=.vcap 1181 ver 1 xs.length c) O O ⟨Gv (H09 _ O O) O,G⟩ (Gd (u:=G0 (n:Int)) O O ⟨Gv (H09 _ O O) O,G⟩ (Gd (u:=.vsl 1181 ver 1 n (xs.length - n)) rfl rfl ⟨Gv (Q7b rfl G50 rfl rfl rfl rfl hn (by simp) (by simp; omega)) rfl,G⟩ (D_w (u:=G0 ((min Y.length (X2.length - (n+1)):Nat):Int)) O O O O (Gv (Jc4 (f:=G0) (xs:=X2) (ys:=Y) X3 hX3 O G50 (.inr O) O (hY ▸ Src_vsl O O) (fun _=>O)) O) ?_))))))))
  refine Rm (h14 (Jr fun h15=>(G57 (.vec 77000002 0 1 X2.length) O (G57 (.vec 77000002 0 1 X2.length) O (G8 (h15 (H7e 6 1 rfl rfl (by omega) (Q79 (i:=1181) (ver+4) rfl (by omega) (Gr (⟨[LS 1 G0 (xs.take n++y::xs.drop n)],[(1181,.vec 3 1 (ver+4) [])],⟨⟨_,O,.vec⟩,G⟩,O,⟨⟨_,O,.conv (.eq ?_ O)⟩,G⟩,O,O⟩))))))))))
  refine congrArg (AV.list 1) (congrArg (List.map G0) ?_)
  rw [show X2.length - (n+1)=xs.length+1 - (n+1) by omega] at hX3
  rw [show X1.length - n=p by omega] at hX2
  rw [← hX3,← hX2,← hX1,hY]
  exact grow_cut xs n y (0:Int) hlt _ _ _ hp O O
 have hb:=of_decide_eq_false hb
 obtain⟨X,hX⟩:∃ X,X=xs.map G0++List.replicate ((xs.map G0).length+1 - (xs.map G0).length) (.agg (List.replicate 1 .junk)):=⟨_,rfl⟩
 have hXl:X.length=xs.length+1:=by rw [hX]; simp
 refine Gn (h10 (Jr fun h16=>(G57 (.vcap 1181 ver 1 xs.length c) O (G57 (G0 (xs.length:Int)) O (G57 (G0 ((1:Nat):Int)) O (JLh (G0 ((xs.length+1:Nat):Int)) (Hu (by rw [IntKind.wrap_i64]; omega) rfl rfl rfl) O (JLh (.vcap 1181 ver 1 (xs.length+1) c) (J5a rfl G50 rfl rfl rfl rfl (by omega)) O (Ja8 60 X (by rw [hX,List.length_map]) rfl rfl (by simp) (by omega) (by simp; omega) (G57 (.vsl 1181 (ver+1) 1 0 (xs.length+1)) O (G8 (h16 (Js fun h17=>?_))))))))))))
 refine Jr fun h18=>(G57 (LS 1 G0 [y]) O (G57 (.vsl 1181 (ver+1) 1 0 (xs.length+1)) O (G57 (G0 (n:Int)) O (G57 (G0 ((1:Nat):Int)) O (JLh (G0 ((n+1:Nat):Int)) (Hu (by rw [IntKind.wrap_i64]; omega) rfl rfl rfl) O (JLh (.vsl 1181 (ver+1) 1 (n+1) (xs.length+1 - (n+1))) (Gfb (lo:=n+1) (hi:=xs.length+1) rfl G50 rfl rfl (.inr ⟨_,_,rfl,rfl⟩) (.inl ⟨rfl,rfl⟩) (by omega) (by omega) rfl) O (JLh (BL false) (Q25 (S:=4) rfl Tryz.func178 (by kernel_rfl) (by kernel_rfl) (by kernel_rfl) (by kernel_rfl) G50 rfl rfl rfl rfl rfl (by simp) (by omega)) O (JLh (BL true) (Qh (b:=false) O O) O (G8 (h18 (Gm rfl (fun hb=>?_) (fun hb=>by cases hb))))))))))))
 obtain⟨Y,hY⟩:∃ Y,Y=X.take (n+1)++(((X.drop n).take (xs.length+1 - n)).take (min ((X.drop n).take (xs.length+1 - n)).length (xs.length+1 - (n+1))))++X.drop (n+1+min ((X.drop n).take (xs.length+1 - n)).length (xs.length+1 - (n+1))):=⟨_,rfl⟩
 have hYl:Y.length=xs.length+1:=by
  have hdl:((X.drop n).take (xs.length+1 - n)).length=xs.length+1 - n:=by rw [List.length_take,List.length_drop,hXl]; omega
  rw [hY,hdl,Nat.min_eq_right (by omega)]
  simp only [List.length_append,List.length_take,List.length_drop,hXl]
  omega
 refine G2a (l':=[(0,.vsl 1181 (ver+1) 1 0 (xs.length+1)),(1,G0 (n:Int)),(2,LS 1 G0 [y]),(7,G0 ((1:Nat):Int))]) (L':=[(1181,.vec 3 1 (ver+1) X)]) ⟨(.sm O O),⟨⟨_,rfl,.vec⟩,G⟩,rfl⟩ (Js fun h19=>Ji [8] [0,0,0,0,0,0,0,0,0] [0,0,0,0,0,0,0,0,0] [[(1181,.vec 3 1 (ver+1) X)],[(1181,.vec 3 1 (ver+1) Y),(1181,.vec 3 1 (ver+1) X)]] wm_int (by kernel_rfl) rfl rfl ?_)
 refine Gd (u:=.vsl 1181 (ver+1) 1 0 (xs.length+1)) O O ⟨Gv (H09 _ O O) O,G⟩ (Gd (u:=G0 (n:Int)) O O ⟨Gv (H09 _ O O) O,G⟩ (Gd (u:=G0 ((1:Nat):Int)) O O ⟨Gv (H09 _ O O) O,G⟩ (Gd (u:=G0 ((n+1:Nat):Int)) rfl rfl ⟨Gv (Hu (by rw [IntKind.wrap_i64]; omega) rfl rfl rfl) rfl,G⟩ (Gd (u:=.vsl 1181 (ver+1) 1 (n+1) (xs.length+1 - (n+1))) rfl rfl ⟨Gv (Gfb (lo:=n+1) (hi:=xs.length+1) rfl G50 rfl rfl (.inr ⟨_,_,rfl,rfl⟩) (.inl ⟨rfl,rfl⟩) (by omega) (by omega) rfl) rfl,G⟩ (Gd (u:=.vsl 1181 (ver+1) 1 0 (xs.length+1)) O O ⟨Gv (H09 _ O O) O,G⟩ (Gd (u:=G0 (n:Int)) O O ⟨Gv (H09 _ O O) O,G⟩ (Gd (u:=.vsl 1181 (ver+1) 1 n (xs.length+1 - n)) rfl rfl ⟨Gv (Gfb (lo:=n) (hi:=xs.length+1) rfl G50 rfl rfl (.inr ⟨_,_,rfl,rfl⟩) (.inl ⟨rfl,rfl⟩) (by omega) (by omega) rfl) rfl,G⟩ (D_w (u:=G0 ((min ((X.drop n).take (xs.length+1 - n)).length (xs.length+1 - (n+1)):Nat):Int)) O O O O (Gv (A_copyR (ys:=(X.drop n).take (xs.length+1 - n)) Y hY.symm O G50 ⟨O,.inr O⟩ (.inr (.inr ⟨_,_,_,_,_,_,O,O,O⟩)) (Ja4 (f:=G0) (fun _=>O) hX hlt O O)) O) ?_))))))))
 refine Rm (h19 (Jr fun h20=>(G57 (.vsl 1181 (ver+1) 1 0 (xs.length+1)) O (G57 (G0 (n:Int)) O (JLh (.vsl 1181 (ver+1) 1 n (xs.length+1 - n)) (Gfb (lo:=n) (hi:=xs.length+1) rfl G50 rfl rfl (.inr ⟨_,_,rfl,rfl⟩) (.inl ⟨rfl,rfl⟩) (by omega) (by omega) rfl) O (G57 (LS 1 G0 [y]) O ?_))))))
 refine G1 (Q46 (xs:=Y) (ys:=[G0 y]) O G50 ⟨O,.inr O⟩ (.inl ⟨_,O,.inl O⟩) (fun z hz=>by
  have:=List.mem_of_mem_take hz
  rw [List.mem_singleton] at this
  subst this; rfl)) ?_
 refine G8 (h20 (Jr fun h21=>(G57 (.vsl 1181 (ver+1) 1 0 (xs.length+1)) O (G57 (.vsl 1181 (ver+1) 1 0 (xs.length+1)) O (G8 (h21 (JC_vcut 6 O O (H7e 6 (ver+4) rfl rfl (by omega) (Gr (⟨[LS 1 G0 (xs.take n++y::xs.drop n)],[(1181,.vec 3 1 (ver+4) [])],⟨⟨_,O,.vec⟩,G⟩,O,⟨⟨_,O,.conv (.eq ?_ O)⟩,G⟩,O,O⟩))))))))))
 refine congrArg (AV.list 1) ?_
 have hlm:(xs.map G0).length=xs.length:=List.length_map ..
 have:=room_cut (f:=id) (xs.map G0) n (G0 y) (.agg (List.replicate 1 .junk)) (by rw [hlm]; exact hlt) (xs.length+1 - n) (xs.length+1 - (n+1)) (by rw [hlm]) (by rw [hlm]) X Y hX hY
 rw [hlm] at this
 rw [List.map_append,List.map_cons,List.map_take,List.map_drop]
 exact this

def H02 (l:List Int) (n:Int) (x:Int):Option (List Int):=bif decide (0≤n)&&(decide (n≤(l.length:Int))&&decide (l.length≤100000)) then some (l.take n.toNat++x::l.drop n.toNat) else none
theorem J53 (l:List Int) (n:Int) (x:Int) (r:List Int) (h:H02 l n x=some r):Pure Tryz.prog 149 [LS 1 G0 l,G0 n,G0 x] (·=LS 1 G0 r):=by
 unfold H02 at h
 cases hc:(decide (0≤n)&&(decide (n≤(l.length:Int))&&decide (l.length≤100000))) with
 | false=>rw [hc] at h; cases h
 | true=>
  rw [hc] at h
  simp only [Bool.and_eq_true,decide_eq_true_eq] at hc
  obtain⟨h1,h2,h3⟩:=hc
  obtain⟨q,rfl⟩:∃ q:Nat,n=(q:Int):=⟨n.toNat,by omega⟩
  have h:=Option.some.inj h
  simp only [Int.toNat_natCast] at h
  subst h
  refine Gx [.tmp 6] Tryz.func149 O O (Jr fun h1=>(G57 (.sc (.slice none 0 0)) O (G8 (h1 (Jr fun h2=>(G57 (LS 1 G0 l) O (JLh (.vec 1181 0 1 l.length) (Hfa (args:=[LS 1 G0 l]) (L0:=[]) (Lr:=[(1181,.vec 3 1 0 (l.map G0))]) rfl ((He2 l l (W_clone_int l h3)).ver 0) (by kernel_rfl) ⟨.inl rfl,rfl,G⟩ G rfl rfl rfl) O (G57 (G0 (q:Int)) O (G57 (G0 x) O (JLh (LS 1 G0 [x]) (Hd (xs:=[G0 x]) rfl ⟨rfl,rfl,G⟩ G50 (by kernel_rfl) rfl rfl rfl rfl) O (JLh (LS 1 G0 (l.take q++x::l.drop q)) (Hfa rfl (W_Insert_int l q x (by omega) h3 0) (by kernel_rfl) ⟨.inl rfl,rfl,.inl rfl,rfl,.inl rfl,rfl,G⟩ ⟨rfl,G⟩ rfl rfl rfl) O (G57 (LS 1 G0 (l.take q++x::l.drop q)) O (G8 (h2 (Gr (⟨[LS 1 G0 (l.take q++x::l.drop q)],[],G,O,⟨⟨_,O,.conv (.same O)⟩,G⟩,O,O⟩))))))))))))))))
def J52:=PLift.up J53

/-! ### twistlock/api.Stowed -/
theorem Q3:sliceB Tryz.prog 34 73 4=true:=by kernel_rfl
theorem J34:Z5 Tryz.prog 73 4 32=true:=by kernel_rfl
theorem wz_apiStowed:(Tryz.prog.info? 73).bind (fun i=>i.zero.map Value.cells)=some ([E0,E0,E0,.int .u8 0]:List Value).toArray:=by kernel_rfl
theorem H82:Tryz.prog.follows .mixedOrders=true:=by kernel_rfl
theorem J50 (l:List Stowed) (h:l.length≤100000):Rv l=some l:=by
 unfold Rv
 refine nilB_same (fun b hb=>?_)
 cases b with
 | true=>rw [hb rfl]; rfl
 | false=>exact Zz (G0b (decide_eq_true ⟨by simp; omega,by simp [maxLen]; omega⟩) (Gt rfl))

set_option maxHeartbeats 2000000 in
theorem J2a (xs:List Stowed) (n:Nat) (y:Stowed) (hn:n≤xs.length) (hm:xs.length≤100000) (ver:Nat) :
  Y1 Tryz.prog 180 [.vec 1199 ver 4 xs.length,G0 (n:Int),LS 4 Stowed.av [y]] [(1199,.vec 73 4 ver (xs.map Stowed.av))] (fun u L'=>u=LS 4 Stowed.av (xs.take n++y::xs.drop n)∧L'=[(1199,.vec 73 4 (ver+4) [])]):=by
 refine Ge8 [1199] [.tmp 6] Tryz.func180 O O (inAll O) (Jr fun h1=>(G57 (.sc (.slice none 0 0)) O (G8 (h1 (Jr fun h2=>(G57 (.vec 1199 ver 4 xs.length) O (G57 (G0 (n:Int)) O (JLh (.vsl 1199 ver 4 n (xs.length - n)) (H1d (f:=Stowed.av) (xs:=xs) O O O O Q3 ⟨O,hn⟩) O (G8 (h2 (Jr fun h3=>(G57 (LS 4 Stowed.av [y]) O (JLh (G0 ((1:Nat):Int)) (Qw (f:=Stowed.av) (xs:=[y]) Q3 O O) O (G57 (G0 ((1:Nat):Int)) O (G8 (h3 (Js fun h4=>Jr fun h5=>(G57 (G0 ((1:Nat):Int)) O (JLh (BL (decide (((1:Nat):Int)=0))) (Jx O O O) O (G8 (h5 (Gm O (fun hb=>?_) (fun hb=>?_)))))))))))))))))))))))
 ·exact absurd (of_decide_eq_true hb) (by omega)
 refine Gn (h4 (Jr fun h6=>(G57 (.vec 1199 ver 4 xs.length) O (JLh (G0 (xs.length:Int)) (Qbd Q3 O O O) O (G57 (G0 (xs.length:Int)) O (G8 (h6 (Js fun h7=>Jr fun h8=>(G57 (G0 (n:Int)) O (G57 (G0 (xs.length:Int)) O (JLh (BL (decide ((n:Int)=(xs.length:Int)))) (Jx O O O) O (G8 (h8 (Gm O (fun hb=>?_) (fun hb=>?_)))))))))))))))
 ·-- at the end
  have hb:=of_decide_eq_true hb
  have hnx:n=xs.length:=by omega
  refine Jr fun h9=>(G57 (.vec 1199 ver 4 xs.length) O (G57 (LS 4 Stowed.av [y]) O (JLh (.vec 1199 (ver+3) 4 (xs++[y]).length) (Ge6 (f:=Stowed.av) (xs:=xs) (ys:=[y]) (ver1:=ver+3) rfl rfl rfl rfl Q3 J34 (decide_eq_true ⟨by rw [List.length_singleton]; omega,by rw [List.length_singleton]; simp [maxLen]; omega⟩) (fun _=>rfl) (.inl rfl) (by omega)) O (G57 (.vec 1199 (ver+3) 4 (xs++[y]).length) O (G8 (h9 (H7e 6 (ver+4) rfl rfl (by omega) (Gr (⟨[LS 4 Stowed.av (xs.take n++y::xs.drop n)],[(1199,.vec 73 4 (ver+4) [])],⟨⟨_,O,.vec⟩,G⟩,O,⟨⟨_,O,.conv (.eq ?_ O)⟩,G⟩,O,O⟩)))))))))
  refine congrArg (AV.list 4) (congrArg (List.map Stowed.av) ?_)
  rw [hnx,List.take_length,List.drop_length]
 have hb:=of_decide_eq_false hb
 have hlt:n < xs.length:=by omega
 refine Gn (h7 (JC_vcap 0 O O (fun c hc1 hc2=>?_)))
 rw [List.length_map] at hc1
 refine G2a (l':=[(0,.vcap 1199 ver 4 xs.length c),(1,G0 (n:Int)),(2,LS 4 Stowed.av [y]),(7,G0 ((1:Nat):Int)),(8,G0 (xs.length:Int))]) (L':=[(1199,.vec 73 4 ver (xs.map Stowed.av))]) ⟨⟨.eq (by rw [show (xs.map Stowed.av).length=xs.length from List.length_map ..]; rfl) rfl,.same rfl,.same rfl,.same rfl,.same rfl,G⟩,⟨⟨_,rfl,.vec⟩,G⟩,rfl⟩ (Js fun h10=>Jr fun h11=>(G57 (G0 (xs.length:Int)) O (G57 (G0 ((1:Nat):Int)) O (JLh (G0 ((xs.length+1:Nat):Int)) (Hu (by rw [IntKind.wrap_i64]; omega) rfl rfl rfl) O (G57 (.vcap 1199 ver 4 xs.length c) O (JLh (G0 (c:Int)) (Q3a O Q3 O O) O (JLh (BL (decide ((c:Int) < ((xs.length+1:Nat):Int)))) (G3d O O O) O (G8 (h11 (Gm O (fun hb=>?_) (fun hb=>?_)))))))))))
 ·-- a new row
  have hb:=of_decide_eq_true hb
  obtain⟨p,hp⟩:∃ p,p=xs.length+1 - n:=⟨_,rfl⟩
  obtain⟨X1,hX1⟩:∃ X1,xs.take n++List.replicate p (Stowed.mk 0 (Slot.mk 0 0 0))=X1:=⟨_,rfl⟩
  have hl1:X1.length=xs.length+1:=by rw [← hX1,List.length_append,List.length_take,List.length_replicate]; omega
  obtain⟨X2,hX2⟩:∃ X2,overlay X1 n [y] (X1.length - n)=X2:=⟨_,rfl⟩
  have hl2:X2.length=xs.length+1:=by
   rw [← hX2]; unfold overlay
   rw [List.length_singleton,Nat.min_eq_left (by omega)]; simp; omega
  obtain⟨Y,hY⟩:∃ Y,Y=(xs.drop n).take (xs.length - n):=⟨_,rfl⟩
  obtain⟨X3,hX3⟩:∃ X3,overlay X2 (n+1) Y (X2.length - (n+1))=X3:=⟨_,rfl⟩
  refine Jr fun h12=>(G57 (.vcap 1199 ver 4 xs.length c) O (G57 (G0 (n:Int)) O (JLh (.vcap 1199 ver 4 n c) (J5a rfl Q3 rfl rfl rfl rfl (by omega)) O (G57 (G0 (xs.length:Int)) O (G57 (G0 ((1:Nat):Int)) O (JLh (G0 ((xs.length+1:Nat):Int)) (Hu (by rw [IntKind.wrap_i64]; omega) rfl rfl rfl) O (G57 (G0 (n:Int)) O (JLh (G0 (p:Int)) (Gd4 (by rw [IntKind.wrap_i64]; omega) rfl rfl rfl) O (JLh (.vec 77000002 0 4 X1.length) (Q2a (f:=Stowed.av) (xs:=xs) 77000002 (Stowed.mk 0 (Slot.mk 0 0 0)) [E0,E0,E0,.int .u8 0] X1 hX1 rfl rfl rfl rfl rfl Q3 (kn:=.i64) (by kernel_rfl) J34 wz_apiStowed rfl rfl ⟨.inl rfl,.inl rfl,.inl rfl,.inl rfl,G⟩ (by omega) (by simp [maxLen]; omega) hn (by omega) (by omega) (by omega) rfl) O (G57 (.vec 77000002 0 4 X1.length) O (G8 (h12 ?_))))))))))))
  refine Jr fun h13=>(G57 (.vec 77000002 0 4 X1.length) O (G57 (G0 (n:Int)) O (JLh (.vsl 77000002 0 4 n (X1.length - n)) (H1d (f:=Stowed.av) (xs:=X1) rfl rfl rfl rfl Q3 ⟨rfl,by omega⟩) O (G57 (LS 4 Stowed.av [y]) O (G1 (Jc4 (f:=Stowed.av) (xs:=X1) (ys:=[y]) X2 hX2 O Q3 (.inr O) O (Src_list O (.inl O)) (fun _=>O)) ?_)))))
  refine G8 (h13 (G2a (l':=[(0,.vcap 1199 ver 4 xs.length c),(1,G0 (n:Int)),(2,LS 4 Stowed.av [y]),(7,G0 ((1:Nat):Int)),(9,.vec 77000002 0 4 X2.length)]) (L':=[(77000002,.vec 73 4 0 (X2.map Stowed.av)),(1199,.vec 73 4 ver (xs.map Stowed.av))]) ⟨⟨.same rfl,.same rfl,.same rfl,.same rfl,.eq (by rw [hl2,← hl1]; rfl) rfl,G⟩,⟨⟨_,rfl,.vec⟩,⟨_,rfl,.vec⟩,G⟩,rfl⟩ (Js fun h14=>Ji [8] [0,0,0,0,0,0,0,0,0] [0,0,0,0,0,0,0,0,0] [[(77000002,.vec 73 4 0 (X2.map Stowed.av)),(1199,.vec 73 4 ver (xs.map Stowed.av))],[(77000002,.vec 73 4 0 (X3.map Stowed.av)),(77000002,.vec 73 4 0 (X2.map Stowed.av)),(1199,.vec 73 4 ver (xs.map Stowed.av))]] H82 (by kernel_rfl) rfl rfl ?_)))
  refine Gd (u:=.vec 77000002 0 4 X2.length) O O ⟨Gv (H09 _ O O) O,G⟩ (Gd (u:=G0 (n:Int)) O O ⟨Gv (H09 _ O O) O,G⟩ (Gd (u:=G0 ((1:Nat):Int)) O O ⟨Gv (H09 _ O O) O,G⟩ (Gd (u:=G0 ((n+1:Nat):Int)) rfl rfl ⟨Gv (Hu (by rw [IntKind.wrap_i64]; omega) rfl rfl rfl) rfl,G⟩ (Gd (u:=.vsl 77000002 0 4 (n+1) (X2.length - (n+1))) rfl rfl ⟨Gv (H1d (f:=Stowed.av) (xs:=X2) rfl rfl rfl rfl Q3 ⟨rfl,by omega⟩) rfl,trivial⟩ (Gd (u:=.vcap 1199 ver 4 xs.length c) O O ⟨Gv (H09 _ O O) O,G⟩ (Gd (u:=G0 (n:Int)) O O ⟨Gv (H09 _ O O) O,G⟩ (Gd (u:=.vsl 1199 ver 4 n (xs.length - n)) rfl rfl ⟨Gv (Q7b rfl Q3 rfl rfl rfl rfl hn (by simp) (by simp; omega)) rfl,G⟩ (D_w (u:=G0 ((min Y.length (X2.length - (n+1)):Nat):Int)) O O O O (Gv (Jc4 (f:=Stowed.av) (xs:=X2) (ys:=Y) X3 hX3 O Q3 (.inr O) O (hY ▸ Src_vsl O O) (fun _=>O)) O) ?_))))))))
  refine Rm (h14 (Jr fun h15=>(G57 (.vec 77000002 0 4 X2.length) O (G57 (.vec 77000002 0 4 X2.length) O (G8 (h15 (H7e 6 1 rfl rfl (by omega) (Q79 (i:=1199) (ver+4) rfl (by omega) (Gr (⟨[LS 4 Stowed.av (xs.take n++y::xs.drop n)],[(1199,.vec 73 4 (ver+4) [])],⟨⟨_,O,.vec⟩,G⟩,O,⟨⟨_,O,.conv (.eq ?_ O)⟩,G⟩,O,O⟩))))))))))
  refine congrArg (AV.list 4) (congrArg (List.map Stowed.av) ?_)
  rw [show X2.length - (n+1)=xs.length+1 - (n+1) by omega] at hX3
  rw [show X1.length - n=p by omega] at hX2
  rw [← hX3,← hX2,← hX1,hY]
  exact grow_cut xs n y (Stowed.mk 0 (Slot.mk 0 0 0)) hlt _ _ _ hp O O
 have hb:=of_decide_eq_false hb
 obtain⟨X,hX⟩:∃ X,X=xs.map Stowed.av++List.replicate ((xs.map Stowed.av).length+1 - (xs.map Stowed.av).length) (.agg (List.replicate 4 .junk)):=⟨_,rfl⟩
 have hXl:X.length=xs.length+1:=by rw [hX]; simp
 refine Gn (h10 (Jr fun h16=>(G57 (.vcap 1199 ver 4 xs.length c) O (G57 (G0 (xs.length:Int)) O (G57 (G0 ((1:Nat):Int)) O (JLh (G0 ((xs.length+1:Nat):Int)) (Hu (by rw [IntKind.wrap_i64]; omega) rfl rfl rfl) O (JLh (.vcap 1199 ver 4 (xs.length+1) c) (J5a rfl Q3 rfl rfl rfl rfl (by omega)) O (Ja8 60 X (by rw [hX,List.length_map]) rfl rfl (by simp) (by omega) (by simp; omega) (G57 (.vsl 1199 (ver+1) 4 0 (xs.length+1)) O (G8 (h16 (Js fun h17=>?_))))))))))))
 refine Jr fun h18=>(G57 (LS 4 Stowed.av [y]) O (G57 (.vsl 1199 (ver+1) 4 0 (xs.length+1)) O (G57 (G0 (n:Int)) O (G57 (G0 ((1:Nat):Int)) O (JLh (G0 ((n+1:Nat):Int)) (Hu (by rw [IntKind.wrap_i64]; omega) rfl rfl rfl) O (JLh (.vsl 1199 (ver+1) 4 (n+1) (xs.length+1 - (n+1))) (Gfb (lo:=n+1) (hi:=xs.length+1) rfl Q3 rfl rfl (.inr ⟨_,_,rfl,rfl⟩) (.inl ⟨rfl,rfl⟩) (by omega) (by omega) rfl) O (JLh (BL false) (Q25 (S:=4) rfl Tryz.func183 (by kernel_rfl) (by kernel_rfl) (by kernel_rfl) (by kernel_rfl) Q3 rfl rfl rfl rfl rfl (by simp) (by omega)) O (JLh (BL true) (Qh (b:=false) O O) O (G8 (h18 (Gm rfl (fun hb=>?_) (fun hb=>by cases hb))))))))))))
 obtain⟨Y,hY⟩:∃ Y,Y=X.take (n+1)++(((X.drop n).take (xs.length+1 - n)).take (min ((X.drop n).take (xs.length+1 - n)).length (xs.length+1 - (n+1))))++X.drop (n+1+min ((X.drop n).take (xs.length+1 - n)).length (xs.length+1 - (n+1))):=⟨_,rfl⟩
 have hYl:Y.length=xs.length+1:=by
  have hdl:((X.drop n).take (xs.length+1 - n)).length=xs.length+1 - n:=by rw [List.length_take,List.length_drop,hXl]; omega
  rw [hY,hdl,Nat.min_eq_right (by omega)]
  simp only [List.length_append,List.length_take,List.length_drop,hXl]
  omega
 refine G2a (l':=[(0,.vsl 1199 (ver+1) 4 0 (xs.length+1)),(1,G0 (n:Int)),(2,LS 4 Stowed.av [y]),(7,G0 ((1:Nat):Int))]) (L':=[(1199,.vec 73 4 (ver+1) X)]) ⟨(.sm O O),⟨⟨_,rfl,.vec⟩,G⟩,rfl⟩ (Js fun h19=>Ji [8] [0,0,0,0,0,0,0,0,0] [0,0,0,0,0,0,0,0,0] [[(1199,.vec 73 4 (ver+1) X)],[(1199,.vec 73 4 (ver+1) Y),(1199,.vec 73 4 (ver+1) X)]] H82 (by kernel_rfl) rfl rfl ?_)
 refine Gd (u:=.vsl 1199 (ver+1) 4 0 (xs.length+1)) O O ⟨Gv (H09 _ O O) O,G⟩ (Gd (u:=G0 (n:Int)) O O ⟨Gv (H09 _ O O) O,G⟩ (Gd (u:=G0 ((1:Nat):Int)) O O ⟨Gv (H09 _ O O) O,G⟩ (Gd (u:=G0 ((n+1:Nat):Int)) rfl rfl ⟨Gv (Hu (by rw [IntKind.wrap_i64]; omega) rfl rfl rfl) rfl,G⟩ (Gd (u:=.vsl 1199 (ver+1) 4 (n+1) (xs.length+1 - (n+1))) rfl rfl ⟨Gv (Gfb (lo:=n+1) (hi:=xs.length+1) rfl Q3 rfl rfl (.inr ⟨_,_,rfl,rfl⟩) (.inl ⟨rfl,rfl⟩) (by omega) (by omega) rfl) rfl,G⟩ (Gd (u:=.vsl 1199 (ver+1) 4 0 (xs.length+1)) O O ⟨Gv (H09 _ O O) O,G⟩ (Gd (u:=G0 (n:Int)) O O ⟨Gv (H09 _ O O) O,G⟩ (Gd (u:=.vsl 1199 (ver+1) 4 n (xs.length+1 - n)) rfl rfl ⟨Gv (Gfb (lo:=n) (hi:=xs.length+1) rfl Q3 rfl rfl (.inr ⟨_,_,rfl,rfl⟩) (.inl ⟨rfl,rfl⟩) (by omega) (by omega) rfl) rfl,G⟩ (D_w (u:=G0 ((min ((X.drop n).take (xs.length+1 - n)).length (xs.length+1 - (n+1)):Nat):Int)) O O O O (Gv (A_copyR (ys:=(X.drop n).take (xs.length+1 - n)) Y hY.symm O Q3 ⟨O,.inr O⟩ (.inr (.inr ⟨_,_,_,_,_,_,O,O,O⟩)) (Ja4 (f:=Stowed.av) (fun _=>O) hX hlt O O)) O) ?_))))))))
 refine Rm (h19 (Jr fun h20=>(G57 (.vsl 1199 (ver+1) 4 0 (xs.length+1)) O (G57 (G0 (n:Int)) O (JLh (.vsl 1199 (ver+1) 4 n (xs.length+1 - n)) (Gfb (lo:=n) (hi:=xs.length+1) rfl Q3 rfl rfl (.inr ⟨_,_,rfl,rfl⟩) (.inl ⟨rfl,rfl⟩) (by omega) (by omega) rfl) O (G57 (LS 4 Stowed.av [y]) O ?_))))))
 refine G1 (Q46 (xs:=Y) (ys:=[Stowed.av y]) O Q3 ⟨O,.inr O⟩ (.inl ⟨_,O,.inl O⟩) (fun z hz=>by
  have:=List.mem_of_mem_take hz
  rw [List.mem_singleton] at this
  subst this; rfl)) ?_
 refine G8 (h20 (Jr fun h21=>(G57 (.vsl 1199 (ver+1) 4 0 (xs.length+1)) O (G57 (.vsl 1199 (ver+1) 4 0 (xs.length+1)) O (G8 (h21 (JC_vcut 6 O O (H7e 6 (ver+4) rfl rfl (by omega) (Gr (⟨[LS 4 Stowed.av (xs.take n++y::xs.drop n)],[(1199,.vec 73 4 (ver+4) [])],⟨⟨_,O,.vec⟩,G⟩,O,⟨⟨_,O,.conv (.eq ?_ O)⟩,G⟩,O,O⟩))))))))))
 refine congrArg (AV.list 4) ?_
 have hlm:(xs.map Stowed.av).length=xs.length:=List.length_map ..
 have:=room_cut (f:=id) (xs.map Stowed.av) n (Stowed.av y) (.agg (List.replicate 4 .junk)) (by rw [hlm]; exact hlt) (xs.length+1 - n) (xs.length+1 - (n+1)) (by rw [hlm]) (by rw [hlm]) X Y hX hY
 rw [hlm] at this
 rw [List.map_append,List.map_cons,List.map_take,List.map_drop]
 exact this

def G76 (l:List Stowed) (n:Int) (x:Stowed):Option (List Stowed):=bif decide (0≤n)&&(decide (n≤(l.length:Int))&&decide (l.length≤100000)) then some (l.take n.toNat++x::l.drop n.toNat) else none
theorem J35:Gd8 Tryz.prog 73 4=true:=by kernel_rfl
theorem H77 (l:List Stowed) (n:Int) (x:Stowed) (r:List Stowed) (h:G76 l n x=some r):Pure Tryz.prog 174 [LS 4 Stowed.av l,G0 n,.agg (Stowed.cs x)] (·=LS 4 Stowed.av r):=by
 unfold G76 at h
 cases hc:(decide (0≤n)&&(decide (n≤(l.length:Int))&&decide (l.length≤100000))) with
 | false=>rw [hc] at h; cases h
 | true=>
  rw [hc] at h
  simp only [Bool.and_eq_true,decide_eq_true_eq] at hc
  obtain⟨h1,h2,h3⟩:=hc
  obtain⟨q,rfl⟩:∃ q:Nat,n=(q:Int):=⟨n.toNat,by omega⟩
  have h:=Option.some.inj h
  simp only [Int.toNat_natCast] at h
  subst h
  refine Gx [.tmp 6] Tryz.func174 O O (Jr fun h1=>(JLh (.ptr 77000003 0) (Ja (cs:=Stowed.cs x) 77000003 O O O O O) O (G57 (.sc (.slice none 0 0)) O (G8 (h1 (Gu [(0,LS 4 Stowed.av l),(1,G0 (q:Int)),(5,.dptr (Stowed.cs x))] [] 77000003 rfl rfl rfl G rfl (by exact⟨.conv (.same rfl),.conv (.same rfl),.ptr,G⟩) (Js fun h2=>Ji [1,5] [0,0,0,0,0,0,2] [0,0,1,1,1,0,2] [[],[(1199,.vec 73 4 0 (l.map Stowed.av))],[(1199,.vec 73 4 4 [])]] H82 (by kernel_rfl) rfl rfl ?_)))))))
  refine Gd (u:=LS 4 Stowed.av l) O O ⟨Gv (H09 _ O O) O,G⟩ (D_w (u:=.vec 1199 0 4 l.length) rfl rfl rfl rfl (Gv (Hfa (args:=[LS 4 Stowed.av l]) (L0:=[]) (Lr:=[(1199,.vec 73 4 0 (l.map Stowed.av))]) rfl ((H41 l l (J50 l h3)).ver 0) (by kernel_rfl) ⟨.inl rfl,rfl,G⟩ G rfl rfl rfl) rfl) (Gd (u:=G0 (q:Int)) O O ⟨Gv (H09 _ O O) O,Gv (H09 _ O O) O,G⟩ (Gd (u:=.agg (Stowed.cs x)) O O ⟨Gv (Gj J35 O O O) O,Gv (Gj J35 O O O) O,G⟩ (Gd (u:=LS 4 Stowed.av [x]) rfl rfl ⟨Gv (Hd (xs:=[Stowed.av x]) rfl ⟨rfl,rfl,G⟩ Q3 (by kernel_rfl) rfl rfl rfl rfl) rfl,Gv (Hd (xs:=[Stowed.av x]) rfl ⟨rfl,rfl,G⟩ Q3 (by kernel_rfl) rfl rfl rfl rfl) rfl,G⟩ (D_w (u:=LS 4 Stowed.av (l.take q++x::l.drop q)) rfl rfl rfl rfl (Gv (Hfa (args:=[.vec 1199 0 4 l.length,G0 (q:Int),LS 4 Stowed.av [x]]) rfl (J2a l q x (by omega) h3 0) (by kernel_rfl) ⟨.inl rfl,rfl,.inl rfl,rfl,.inl rfl,rfl,G⟩ ⟨rfl,G⟩ rfl rfl rfl) rfl) (Gd (u:=LS 4 Stowed.av (l.take q++x::l.drop q)) O O ⟨Gv (H09 _ O O) O,G⟩ ?_))))))
  refine Rm (h2 (Gr (⟨[LS 4 Stowed.av (l.take q++x::l.drop q)],[],G,O,⟨⟨_,O,.conv (.same O)⟩,G⟩,O,O⟩)))
def H76:=PLift.up H77
end Go.Proofs.YthcpolfodgjekaaGreat
