/-
 What stow.without and stow.with return: a list without an element,and with one more; of slices.Clone,slices.Delete and slices.Insert.
-/
import Derived.Test.YtecjdioomlhhiaaGreatXC
import Derived.Test.YtecjdioomlhhiaaGreatWp
set_option maxRecDepth 100000
set_option linter.unusedVariables false
set_option linter.unusedSimpArgs false
namespace Go.Proofs.YtecjdioomlhhiaaGreat
open Go.RowKit
theorem Hfb {α β:Type} [DecidableEq β] {xs:List α} {k:Bool→Option β} {r:Option β} (h:∀ b,(b=true→xs=[])→k b=r):Rd1 xs k=r:=by
 unfold Rd1
 cases xs with
 | nil=>rw [h true (fun _=>rfl),h false (fun e=>by cases e)]; simp
 | cons x l=>exact h false (fun e=>by cases e)
theorem R6d {α:Type} (xs:List α) (n:Nat) (z:α) (h:n < xs.length) :
  ((blank (xs.take n++(xs.drop (n+1)).take (xs.length - (n+1))++xs.drop (n+((xs.drop (n+1)).take (xs.length - (n+1))).length)) (n+((xs.drop (n+1)).take (xs.length - (n+1))).length) (xs.length - (n+((xs.drop (n+1)).take (xs.length - (n+1))).length)) z).take (n+((xs.drop (n+1)).take (xs.length - (n+1))).length))=xs.eraseIdx n:=by
 have e:(xs.drop (n+1)).take (xs.length - (n+1))=xs.drop (n+1):=List.take_of_length_le (by simp)
 rw [e]
 unfold blank
 have hl:(xs.take n++xs.drop (n+1)).length=n+(xs.drop (n+1)).length:=by rw [List.length_append,List.length_take]; omega
 rw [List.append_assoc (xs.take n),List.eraseIdx_eq_take_drop_succ]
 have h1:(xs.take n++(xs.drop (n+1)++xs.drop (n+(xs.drop (n+1)).length))).take (n+(xs.drop (n+1)).length)=xs.take n++xs.drop (n+1):=by
  rw [← List.append_assoc,List.take_append_of_le_length (by omega),List.take_of_length_le (by omega)]
 rw [h1,List.append_assoc,List.take_append_of_le_length (by omega),List.take_of_length_le (by omega)]
theorem Qde {α:Type} (xs:List α) (n:Nat) (y z:α) (h:n < xs.length) (p q r:Nat) (hp:p=xs.length+1 - n) (hq:q=xs.length+1 - (n+1)) (hr:r=xs.length - n) :
  overlay (overlay (xs.take n++List.replicate p z) n [y] p) (n+1) ((xs.drop n).take r) q=xs.take n++y::xs.drop n:=by
 subst hp hq hr
 have e:(xs.drop n).take (xs.length - n)=xs.drop n:=List.take_of_length_le (by simp)
 rw [e]
 unfold overlay
 have hl:(xs.drop n).length=xs.length - n:=by simp
 have ht:(xs.take n).length=n:=by rw [List.length_take]; omega
 rw [List.length_singleton,Nat.min_eq_left (show 1≤xs.length+1 - n by omega),hl,Nat.min_eq_left (show xs.length - n≤xs.length+1 - (n+1) by omega)]
 have a1:(xs.take n++List.replicate (xs.length+1 - n) z).take n=xs.take n:=by rw [List.take_append_of_le_length (by omega),List.take_of_length_le (by omega)]
 rw [a1]
 have a2:(xs.take n++[y].take 1++(xs.take n++List.replicate (xs.length+1 - n) z).drop (n+1)).take (n+1)=xs.take n++[y]:=by
  rw [List.take_append_of_le_length (by simp; omega),List.take_of_length_le (by simp; omega)]; rfl
 rw [a2]
 have a3:(xs.take n++[y].take 1++(xs.take n++List.replicate (xs.length+1 - n) z).drop (n+1)).drop (n+1+(xs.length - n))=[]:=List.drop_of_length_le (by simp; omega)
 rw [a3,List.append_nil,e,List.append_assoc]; rfl
theorem Qcc {f:AV→AV} (xs:List AV) (n:Nat) (y:AV) (J:AV) (h:n < xs.length) (p q:Nat) (hp:p=xs.length+1 - n) (hq:q=xs.length+1 - (n+1)) (X Y:List AV) (hX:X=xs++List.replicate (xs.length+1 - xs.length) J) (hY:Y=X.take (n+1)++(((X.drop n).take p).take (min ((X.drop n).take p).length q))++X.drop (n+1+min ((X.drop n).take p).length q)) :
  (Y.take n++[y].take (min [y].length p)++Y.drop (n+min [y].length p)).take (xs.length+1)=xs.take n++y::xs.drop n:=by
 have hJ:xs.length+1 - xs.length=1:=by omega
 rw [hJ] at hX
 have hXl:X.length=xs.length+1:=by rw [hX]; simp
 have hdl:((X.drop n).take p).length=p:=by rw [List.length_take,List.length_drop,hXl,hp]; omega
 have hmin:min p q=q:=by omega
 rw [hdl,hmin] at hY
 have hXn:X.take n=xs.take n:=by rw [hX,List.take_append_of_le_length (by omega)]
 have hXd:((X.drop n).take p).take q=xs.drop n:=by
  rw [List.take_take,Nat.min_eq_left (by omega),hX,List.drop_append_of_le_length (by omega),List.take_append_of_le_length (by simp; omega),List.take_of_length_le (by simp; omega)]
 rw [hXd] at hY
 have hYe:X.drop (n+1+q)=[]:=List.drop_of_length_le (by omega)
 rw [hYe,List.append_nil] at hY
 have hYt:Y.take n=xs.take n:=by
  rw [hY,List.take_append_of_le_length (by rw [List.length_take]; omega),List.take_take,Nat.min_eq_left (by omega),hXn]
 have h1:min [y].length p=1:=by rw [List.length_singleton]; omega
 have hYd:Y.drop (n+1)=xs.drop n:=by
  have hl:(X.take (n+1)).length=n+1:=by rw [List.length_take]; omega
  rw [hY,List.drop_append,hl,Nat.sub_self,List.drop_zero,List.drop_of_length_le (by omega),List.nil_append]
 rw [h1,hYt,hYd]
 rw [List.take_of_length_le (by simp; omega),List.append_assoc]; rfl
theorem J93 {α:Type} {f:α→AV} (hf:∀ y,(f y).flatOk=true) {X:List AV} {xs:List α} {J:AV} {n p q:Nat} (hX:X=xs.map f++List.replicate ((xs.map f).length+1 - (xs.map f).length) J) (hn:n < xs.length) (hp:p=xs.length+1 - n) (hq:q=xs.length+1 - (n+1)):∀ y∈((X.drop n).take p).take (min ((X.drop n).take p).length q),y.flatOk=true:=by
 have hJ:(xs.map f).length+1 - (xs.map f).length=1:=by omega
 rw [hJ] at hX
 have hXl:X.length=xs.length+1:=by rw [hX]; simp
 have hdl:((X.drop n).take p).length=p:=by rw [List.length_take,List.length_drop,hXl,hp]; omega
 have hmin:min p q=q:=by omega
 have hXd:((X.drop n).take p).take q=(xs.map f).drop n:=by
  rw [List.take_take,Nat.min_eq_left (by omega),hX,List.drop_append_of_le_length (by simp; omega),List.take_append_of_le_length (by simp; omega),List.take_of_length_le (by simp; omega)]
 rw [hdl,hmin,hXd]
 intro y hy
 obtain⟨z,_,rfl⟩:=List.mem_map.1 (List.mem_of_mem_drop hy)
 exact hf z

/-! ### int -/
theorem G02:sliceB Tryz.prog 35 3 1=true:=by kernel_rfl
theorem Rbe:Zi Tryz.prog 3 1 8=true:=by kernel_rfl
theorem Rbd:(Tryz.prog.info? 3).bind (fun i=>i.zero.map Value.cells)=some ([E0]:List Value).toArray:=by kernel_rfl
theorem Qff:Tryz.prog.follows .mixedOrders=true:=by kernel_rfl
theorem J98 (l:List Int) (h:l.length≤100000):Qg l=some l:=by
 unfold Qg
 refine Hfb (fun b hb=>?_)
 cases b with
 | true=>rw [hb rfl]; rfl
 | false=>exact G03 (Y2 (decide_eq_true ⟨by simp; omega,by simp [maxLen]; omega⟩) (Gj rfl))

theorem Q88 (xs:List Int) (n:Nat) (hn:n < xs.length) (hm:xs.length≤100000) (ver:Nat) :
  Qb Tryz.prog 116 [.vec 1086 ver 1 xs.length,I64 (n:Int),I64 ((n+1:Nat):Int)] [(1086,.vec 3 1 ver (xs.map I64))] (fun u L'=>u=.vec 1086 (ver+2) 1 (xs.eraseIdx n).length∧L'=[(1086,.vec 3 1 (ver+2) ((xs.eraseIdx n).map I64))]):=by
 obtain⟨Y,hY⟩:∃ Y,Y=(xs.drop (n+1)).take (xs.length - (n+1)):=⟨_,rfl⟩
 have hYl:Y.length=xs.length - (n+1):=by rw [hY]; simp
 refine Qz [1086] [.tmp 6] Tryz.func116 O O (Ga6 O) (Jr fun h1=>(JLm (.sc (.slice none 0 0)) O (G7 (h1 (Jr fun h2=>(JLm (.vec 1086 ver 1 xs.length) O (JLm (I64 (n:Int)) O (JLm (I64 ((n+1:Nat):Int)) O (JLm (.vec 1086 ver 1 xs.length) O (JLh (I64 (xs.length:Int)) (Hbf G02 O O O) O (JLh .junk (Q6c (lo:=n) (hi:=n+1) (mx:=xs.length) rfl G02 rfl rfl rfl rfl rfl rfl rfl rfl (by omega) (by omega) (by simp)) O (G7 (h2 (Js fun h3=>Jr fun h4=>(JLm (I64 (n:Int)) O (JLm (I64 ((n+1:Nat):Int)) O (JLh (BL (decide ((n:Int)=((n+1:Nat):Int)))) (Jw O O O) O (G7 (h4 (Gi O (fun hb=>?_) (fun hb=>?_)))))))))))))))))))))
 ·exact absurd (of_decide_eq_true hb) (by omega)
 refine Gk (h3 (Jr fun h5=>(JLm (.vec 1086 ver 1 xs.length) O (JLh (I64 (xs.length:Int)) (Hbf G02 O O O) O (JLm (I64 (xs.length:Int)) O (G7 (h5 (Js fun h6=>Jb [6] [0,0,0,0,0,0,0,1] [0,0,0,0,0,0,0,1] [[(1086,.vec 3 1 ver (xs.map I64))],[(1086,.vec 3 1 ver ((xs.take n++Y++xs.drop (n+Y.length)).map I64)),(1086,.vec 3 1 ver (xs.map I64))]] Qff (by kernel_rfl) rfl rfl ?_))))))))
 refine Gb (u:=.vec 1086 ver 1 xs.length) O O ⟨Gp (G90 _ O O) O,G⟩ (Gb (u:=I64 (n:Int)) O O ⟨Gp (G90 _ O O) O,G⟩ (Gb (u:=.vsl 1086 ver 1 0 n) rfl rfl ⟨Gp (J03 (f:=I64) (xs:=xs) rfl rfl rfl rfl G02 ⟨rfl,by omega⟩) rfl,trivial⟩ (Gb (u:=.vec 1086 ver 1 xs.length) O O ⟨Gp (G90 _ O O) O,G⟩ (Gb (u:=I64 ((n+1:Nat):Int)) O O ⟨Gp (G90 _ O O) O,G⟩ (Gb (u:=.vsl 1086 ver 1 (n+1) (xs.length - (n+1))) rfl rfl ⟨Gp (Gcb (f:=I64) (xs:=xs) rfl rfl rfl rfl G02 ⟨rfl,by omega⟩) rfl,trivial⟩ (D_w (u:=.vsl 1086 ver 1 0 (n+Y.length)) rfl rfl rfl rfl (Gp (Ja3 (f:=I64) (xs:=xs) (ys:=Y) rfl G02 rfl rfl (hY ▸ Jb6 rfl rfl) (fun _=>rfl) (by omega) rfl) rfl) (Gb (u:=.vsl 1086 ver 1 0 (n+Y.length)) O O ⟨Gp (G90 _ O O) O,G⟩ (Qw (h6 ?_)))))))))
 have hl2:(xs.take n++Y++xs.drop (n+Y.length)).length=xs.length:=by rw [List.length_append,List.length_append,List.length_take,List.length_drop,hYl]; omega
 refine Jr fun h7=>(JLm (.vsl 1086 ver 1 0 (n+Y.length)) O (JLm (.vsl 1086 ver 1 0 (n+Y.length)) O (JLh (I64 ((n+Y.length:Nat):Int)) (J59 O G02 O O) O (JLm (I64 (xs.length:Int)) O (JLh (.vsl 1086 ver 1 (n+Y.length) (xs.length - (n+Y.length))) (G8e (lo:=n+Y.length) (hi:=xs.length) rfl G02 rfl rfl (.inr ⟨_,_,rfl,rfl⟩) (.inr ⟨_,_,rfl,rfl⟩) (by omega) (by rw [List.length_map,hl2]; exact Nat.le_refl _) rfl) O (Jo (Qfd (f:=I64) (xs:=xs.take n++Y++xs.drop (n+Y.length)) (0:Int) [E0] O G02 (.inr O) O Rbd O O O ⟨.inl O,G⟩) (G7 (h7 (Jr fun h8=>(JLm (.vsl 1086 ver 1 0 (n+Y.length)) O (JLm (.vsl 1086 ver 1 0 (n+Y.length)) O (G7 (h8 (Jb7 6 O O (H2b (f:=I64) (xs.eraseIdx n) 6 (ver+2) rfl rfl (by omega) ?_ ?_)))))))))))))))
 ·rw [← List.map_take]
  refine congrArg (List.map I64) ?_
  have:=R6d xs n (0:Int) hn
  rw [← hY] at this
  exact this
 refine Gn (⟨[.vec 1086 (ver+2) 1 (xs.eraseIdx n).length],[(1086,.vec 3 1 (ver+2) ((xs.eraseIdx n).map I64))],⟨⟨_,O,.vec⟩,G⟩,O,⟨⟨_,O,.conv (.same O)⟩,G⟩,O,O⟩)

def G14 (l:List Int) (n:Int):Option (List Int):=bif decide (0≤n)&&(decide (n < (l.length:Int))&&decide (l.length≤100000)) then some (l.eraseIdx n.toNat) else none
theorem H01 (l:List Int) (n:Int) (r:List Int) (h:G14 l n=some r):Qb Tryz.prog 70 [LS 1 I64 l,I64 n] [] (fun av L'=>∃ p:Nat,av=.vec 1086 p 1 r.length∧L'=[(1086,.vec 3 1 p (r.map I64))]):=by
 unfold G14 at h
 cases hc:(decide (0≤n)&&(decide (n < (l.length:Int))&&decide (l.length≤100000))) with
 | false=>rw [hc] at h; cases h
 | true=>
  rw [hc] at h
  simp only [Bool.and_eq_true,decide_eq_true_eq] at hc
  obtain⟨h1,h2,h3⟩:=hc
  obtain⟨q,rfl⟩:∃ q:Nat,n=(q:Int):=⟨n.toNat,by omega⟩
  have h:=Option.some.inj h
  simp only [Int.toNat_natCast] at h
  subst h
  refine Qz [] [.tmp 4] Tryz.func70 O O (Ga6 O) (Jr fun h1=>(JLm (.sc (.slice none 0 0)) O (G7 (h1 (Jr fun h2=>(JLm (LS 1 I64 l) O (JLh (.vec 1086 0 1 l.length) (Gb7 (args:=[LS 1 I64 l]) (L0:=[]) (Lr:=[(1086,.vec 3 1 0 (l.map I64))]) rfl ((G55 l l (J98 l h3)).ver 0) (by kernel_rfl) ⟨.inl rfl,rfl,G⟩ G rfl rfl rfl) O (JLm (I64 (q:Int)) O (JLm (I64 (q:Int)) O (JLh (I64 ((q+1:Nat):Int)) (Hs (by rw [IntKind.wrap_i64]; omega) rfl rfl rfl) O (JLh (.vec 1086 (0+2) 1 (l.eraseIdx q).length) (Gb7 rfl (Q88 l q (by omega) h3 0) (by kernel_rfl) ⟨.inl rfl,rfl,.inl rfl,rfl,.inl rfl,rfl,G⟩ ⟨rfl,G⟩ rfl rfl rfl) O (JLm (.vec 1086 (0+2) 1 (l.eraseIdx q).length) O (G7 (h2 (Gn ?_)))))))))))))))
  exact⟨[.vec 1086 (0+2) 1 (l.eraseIdx q).length],[(1086,.vec 3 1 (0+2) ((l.eraseIdx q).map I64))],⟨⟨_,O,.vec⟩,G⟩,O,⟨⟨_,O,.conv (.same O)⟩,G⟩,0+2,O,O⟩
def Heb:=PLift.up H01
set_option maxHeartbeats 2000000 in
theorem Q87 (xs:List Int) (n:Nat) (y:Int) (hn:n≤xs.length) (hm:xs.length≤100000) (ver:Nat) :
  Qb Tryz.prog 115 [.vec 1086 ver 1 xs.length,I64 (n:Int),LS 1 I64 [y]] [(1086,.vec 3 1 ver (xs.map I64))] (fun u L'=>u=.vec 1086 (ver+4) 1 (xs.take n++y::xs.drop n).length∧L'=[(1086,.vec 3 1 (ver+4) ((xs.take n++y::xs.drop n).map I64))]):=by
 refine Qz [1086] [.tmp 6] Tryz.func115 O O (Ga6 O) (Jr fun h1=>(JLm (.sc (.slice none 0 0)) O (G7 (h1 (Jr fun h2=>(JLm (.vec 1086 ver 1 xs.length) O (JLm (I64 (n:Int)) O (JLh (.vsl 1086 ver 1 n (xs.length - n)) (Gcb (f:=I64) (xs:=xs) O O O O G02 ⟨O,hn⟩) O (G7 (h2 (Jr fun h3=>(JLm (LS 1 I64 [y]) O (JLh (I64 ((1:Nat):Int)) (Qe (f:=I64) (xs:=[y]) G02 O O) O (JLm (I64 ((1:Nat):Int)) O (G7 (h3 (Js fun h4=>Jr fun h5=>(JLm (I64 ((1:Nat):Int)) O (JLh (BL (decide (((1:Nat):Int)=0))) (Jw O O O) O (G7 (h5 (Gi O (fun hb=>?_) (fun hb=>?_)))))))))))))))))))))))
 ·exact absurd (of_decide_eq_true hb) (by omega)
 refine Gk (h4 (Jr fun h6=>(JLm (.vec 1086 ver 1 xs.length) O (JLh (I64 (xs.length:Int)) (Hbf G02 O O O) O (JLm (I64 (xs.length:Int)) O (G7 (h6 (Js fun h7=>Jr fun h8=>(JLm (I64 (n:Int)) O (JLm (I64 (xs.length:Int)) O (JLh (BL (decide ((n:Int)=(xs.length:Int)))) (Jw O O O) O (G7 (h8 (Gi O (fun hb=>?_) (fun hb=>?_)))))))))))))))
 ·-- at the end
  have hb:=of_decide_eq_true hb
  have hnx:n=xs.length:=by omega
  refine Jr fun h9=>(JLm (.vec 1086 ver 1 xs.length) O (JLm (LS 1 I64 [y]) O (JLh (.vec 1086 (ver+3) 1 (xs++[y]).length) (G68 (f:=I64) (xs:=xs) (ys:=[y]) (ver1:=ver+3) rfl rfl rfl rfl G02 Rbe (decide_eq_true ⟨by rw [List.length_singleton]; omega,by rw [List.length_singleton]; simp [maxLen]; omega⟩) (fun _=>rfl) (.inl rfl) (by omega)) O (JLm (.vec 1086 (ver+3) 1 (xs++[y]).length) O (G7 (h9 (H2b (f:=I64) (xs.take n++y::xs.drop n) 6 (ver+4) rfl rfl (by omega) (congrArg (List.map I64) (by rw [hnx,List.take_length,List.drop_length])) (Gn (⟨[.vec 1086 (ver+4) 1 (xs.take n++y::xs.drop n).length],[(1086,.vec 3 1 (ver+4) ((xs.take n++y::xs.drop n).map I64))],⟨⟨_,O,.vec⟩,G⟩,O,⟨⟨_,O,.conv (.same O)⟩,G⟩,O,O⟩)))))))))
 have hb:=of_decide_eq_false hb
 have hlt:n < xs.length:=by omega
 refine Gk (h7 (R74 0 O O (fun c hc1 hc2=>?_)))
 rw [List.length_map] at hc1
 refine G67 (l':=[(0,.vcap 1086 ver 1 xs.length c),(1,I64 (n:Int)),(2,LS 1 I64 [y]),(7,I64 ((1:Nat):Int)),(8,I64 (xs.length:Int))]) (L':=[(1086,.vec 3 1 ver (xs.map I64))]) ⟨⟨.eq (by rw [show (xs.map I64).length=xs.length from List.length_map ..]; rfl) rfl,.same rfl,.same rfl,.same rfl,.same rfl,G⟩,⟨⟨_,rfl,.vec⟩,G⟩,rfl⟩ (Js fun h10=>Jr fun h11=>(JLm (I64 (xs.length:Int)) O (JLm (I64 ((1:Nat):Int)) O (JLh (I64 ((xs.length+1:Nat):Int)) (Hs (by rw [IntKind.wrap_i64]; omega) rfl rfl rfl) O (JLm (.vcap 1086 ver 1 xs.length c) O (JLh (I64 (c:Int)) (Q6b O G02 O O) O (JLh (BL (decide ((c:Int) < ((xs.length+1:Nat):Int)))) (G30 O O O) O (G7 (h11 (Gi O (fun hb=>?_) (fun hb=>?_)))))))))))
 ·-- a new row
  have hb:=of_decide_eq_true hb
  obtain⟨p,hp⟩:∃ p,p=xs.length+1 - n:=⟨_,rfl⟩
  obtain⟨X1,hX1⟩:∃ X1,xs.take n++List.replicate p (0:Int)=X1:=⟨_,rfl⟩
  have hl1:X1.length=xs.length+1:=by rw [← hX1,List.length_append,List.length_take,List.length_replicate]; omega
  obtain⟨X2,hX2⟩:∃ X2,overlay X1 n [y] (X1.length - n)=X2:=⟨_,rfl⟩
  have hl2:X2.length=xs.length+1:=by
   rw [← hX2]; unfold overlay
   rw [List.length_singleton,Nat.min_eq_left (by omega)]; simp; omega
  obtain⟨Y,hY⟩:∃ Y,Y=(xs.drop n).take (xs.length - n):=⟨_,rfl⟩
  obtain⟨X3,hX3⟩:∃ X3,overlay X2 (n+1) Y (X2.length - (n+1))=X3:=⟨_,rfl⟩
  refine Jr fun h12=>(JLm (.vcap 1086 ver 1 xs.length c) O (JLm (I64 (n:Int)) O (JLh (.vcap 1086 ver 1 n c) (J5a rfl G02 rfl rfl rfl rfl (by omega)) O (JLm (I64 (xs.length:Int)) O (JLm (I64 ((1:Nat):Int)) O (JLh (I64 ((xs.length+1:Nat):Int)) (Hs (by rw [IntKind.wrap_i64]; omega) rfl rfl rfl) O (JLm (I64 (n:Int)) O (JLh (I64 (p:Int)) (Gcc (by rw [IntKind.wrap_i64]; omega) rfl rfl rfl) O (JLh (.vec 77000002 0 1 X1.length) (Q25 (f:=I64) (xs:=xs) 77000002 (0:Int) [E0] X1 hX1 rfl rfl rfl rfl rfl G02 (kn:=.i64) (by kernel_rfl) Rbe Rbd rfl rfl ⟨.inl rfl,G⟩ (by omega) (by simp [maxLen]; omega) hn (by omega) (by omega) (by omega) rfl) O (JLm (.vec 77000002 0 1 X1.length) O (G7 (h12 ?_))))))))))))
  refine Jr fun h13=>(JLm (.vec 77000002 0 1 X1.length) O (JLm (I64 (n:Int)) O (JLh (.vsl 77000002 0 1 n (X1.length - n)) (Gcb (f:=I64) (xs:=X1) rfl rfl rfl rfl G02 ⟨rfl,by omega⟩) O (JLm (LS 1 I64 [y]) O (G0 (Jb9 (f:=I64) (xs:=X1) (ys:=[y]) X2 hX2 O G02 (.inr O) O (Qe7 O (.inl O)) (fun _=>O)) ?_)))))
  refine G7 (h13 (G67 (l':=[(0,.vcap 1086 ver 1 xs.length c),(1,I64 (n:Int)),(2,LS 1 I64 [y]),(7,I64 ((1:Nat):Int)),(9,.vec 77000002 0 1 X2.length)]) (L':=[(77000002,.vec 3 1 0 (X2.map I64)),(1086,.vec 3 1 ver (xs.map I64))]) ⟨⟨.same rfl,.same rfl,.same rfl,.same rfl,.eq (by rw [hl2,← hl1]; rfl) rfl,G⟩,⟨⟨_,rfl,.vec⟩,⟨_,rfl,.vec⟩,G⟩,rfl⟩ (Js fun h14=>Jb [8] [0,0,0,0,0,0,0,0,0] [0,0,0,0,0,0,0,0,0] [[(77000002,.vec 3 1 0 (X2.map I64)),(1086,.vec 3 1 ver (xs.map I64))],[(77000002,.vec 3 1 0 (X3.map I64)),(77000002,.vec 3 1 0 (X2.map I64)),(1086,.vec 3 1 ver (xs.map I64))]] Qff (by kernel_rfl) rfl rfl ?_)))
  refine Gb (u:=.vec 77000002 0 1 X2.length) O O ⟨Gp (G90 _ O O) O,G⟩ (Gb (u:=I64 (n:Int)) O O ⟨Gp (G90 _ O O) O,G⟩ (Gb (u:=I64 ((1:Nat):Int)) O O ⟨Gp (G90 _ O O) O,G⟩ (Gb (u:=I64 ((n+1:Nat):Int)) rfl rfl ⟨Gp (Hs (by rw [IntKind.wrap_i64]; omega) rfl rfl rfl) rfl,G⟩ (Gb (u:=.vsl 77000002 0 1 (n+1) (X2.length - (n+1))) rfl rfl ⟨Gp (Gcb (f:=I64) (xs:=X2) rfl rfl rfl rfl G02 ⟨rfl,by omega⟩) rfl,trivial⟩ (Gb (u:=.vcap 1086 ver 1 xs.length c) O O ⟨Gp (G90 _ O O) O,G⟩ (Gb (u:=I64 (n:Int)) O O ⟨Gp (G90 _ O O) O,G⟩ (Gb (u:=.vsl 1086 ver 1 n (xs.length - n)) rfl rfl ⟨Gp (Qf7 rfl G02 rfl rfl rfl rfl hn (by simp) (by simp; omega)) rfl,G⟩ (D_w (u:=I64 ((min Y.length (X2.length - (n+1)):Nat):Int)) O O O O (Gp (Jb9 (f:=I64) (xs:=X2) (ys:=Y) X3 hX3 O G02 (.inr O) O (hY ▸ Jb6 O O) (fun _=>O)) O) ?_))))))))
  refine Qw (h14 (Jr fun h15=>(JLm (.vec 77000002 0 1 X2.length) O (JLm (.vec 77000002 0 1 X2.length) O (G7 (h15 (Qef (f:=I64) (xs.take n++y::xs.drop n) 6 1086 (ver+4) rfl rfl rfl (by decide) (by omega) (congrArg (List.map I64) ?_) ?_)))))))
  ·rw [show X2.length - (n+1)=xs.length+1 - (n+1) by omega] at hX3
   rw [show X1.length - n=p by omega] at hX2
   rw [← hX3,← hX2,← hX1,hY]
   exact Qde xs n y (0:Int) hlt _ _ _ hp O O
  refine Gn (⟨[.vec 1086 (ver+4) 1 (xs.take n++y::xs.drop n).length],[(1086,.vec 3 1 (ver+4) ((xs.take n++y::xs.drop n).map I64))],⟨⟨_,O,.vec⟩,G⟩,O,⟨⟨_,O,.conv (.same O)⟩,G⟩,O,O⟩)
 have hb:=of_decide_eq_false hb
 obtain⟨X,hX⟩:∃ X,X=xs.map I64++List.replicate ((xs.map I64).length+1 - (xs.map I64).length) (.agg (List.replicate 1 .junk)):=⟨_,rfl⟩
 have hXl:X.length=xs.length+1:=by rw [hX]; simp
 refine Gk (h10 (Jr fun h16=>(JLm (.vcap 1086 ver 1 xs.length c) O (JLm (I64 (xs.length:Int)) O (JLm (I64 ((1:Nat):Int)) O (JLh (I64 ((xs.length+1:Nat):Int)) (Hs (by rw [IntKind.wrap_i64]; omega) rfl rfl rfl) O (JLh (.vcap 1086 ver 1 (xs.length+1) c) (J5a rfl G02 rfl rfl rfl rfl (by omega)) O (J9a 60 X (by rw [hX,List.length_map]) rfl rfl (by simp) (by omega) (by simp; omega) (JLm (.vsl 1086 (ver+1) 1 0 (xs.length+1)) O (G7 (h16 (Js fun h17=>?_))))))))))))
 refine Jr fun h18=>(JLm (LS 1 I64 [y]) O (JLm (.vsl 1086 (ver+1) 1 0 (xs.length+1)) O (JLm (I64 (n:Int)) O (JLm (I64 ((1:Nat):Int)) O (JLh (I64 ((n+1:Nat):Int)) (Hs (by rw [IntKind.wrap_i64]; omega) rfl rfl rfl) O (JLh (.vsl 1086 (ver+1) 1 (n+1) (xs.length+1 - (n+1))) (G8e (lo:=n+1) (hi:=xs.length+1) rfl G02 rfl rfl (.inr ⟨_,_,rfl,rfl⟩) (.inl ⟨rfl,rfl⟩) (by omega) (by omega) rfl) O (JLh (BL false) (Q20 (S:=4) rfl Tryz.func143 (by kernel_rfl) (by kernel_rfl) (by kernel_rfl) (by kernel_rfl) G02 rfl rfl rfl rfl rfl (by simp) (by omega)) O (JLh (BL true) (Q7 (b:=false) O O) O (G7 (h18 (Gi rfl (fun hb=>?_) (fun hb=>by cases hb))))))))))))
 obtain⟨Y,hY⟩:∃ Y,Y=X.take (n+1)++(((X.drop n).take (xs.length+1 - n)).take (min ((X.drop n).take (xs.length+1 - n)).length (xs.length+1 - (n+1))))++X.drop (n+1+min ((X.drop n).take (xs.length+1 - n)).length (xs.length+1 - (n+1))):=⟨_,rfl⟩
 have hYl:Y.length=xs.length+1:=by
  have hdl:((X.drop n).take (xs.length+1 - n)).length=xs.length+1 - n:=by rw [List.length_take,List.length_drop,hXl]; omega
  rw [hY,hdl,Nat.min_eq_right (by omega)]
  simp only [List.length_append,List.length_take,List.length_drop,hXl]
  omega
 refine G67 (l':=[(0,.vsl 1086 (ver+1) 1 0 (xs.length+1)),(1,I64 (n:Int)),(2,LS 1 I64 [y]),(7,I64 ((1:Nat):Int))]) (L':=[(1086,.vec 3 1 (ver+1) X)]) ⟨(.sm O O),⟨⟨_,rfl,.vec⟩,G⟩,rfl⟩ (Js fun h19=>Jb [8] [0,0,0,0,0,0,0,0,0] [0,0,0,0,0,0,0,0,0] [[(1086,.vec 3 1 (ver+1) X)],[(1086,.vec 3 1 (ver+1) Y),(1086,.vec 3 1 (ver+1) X)]] Qff (by kernel_rfl) rfl rfl ?_)
 refine Gb (u:=.vsl 1086 (ver+1) 1 0 (xs.length+1)) O O ⟨Gp (G90 _ O O) O,G⟩ (Gb (u:=I64 (n:Int)) O O ⟨Gp (G90 _ O O) O,G⟩ (Gb (u:=I64 ((1:Nat):Int)) O O ⟨Gp (G90 _ O O) O,G⟩ (Gb (u:=I64 ((n+1:Nat):Int)) rfl rfl ⟨Gp (Hs (by rw [IntKind.wrap_i64]; omega) rfl rfl rfl) rfl,G⟩ (Gb (u:=.vsl 1086 (ver+1) 1 (n+1) (xs.length+1 - (n+1))) rfl rfl ⟨Gp (G8e (lo:=n+1) (hi:=xs.length+1) rfl G02 rfl rfl (.inr ⟨_,_,rfl,rfl⟩) (.inl ⟨rfl,rfl⟩) (by omega) (by omega) rfl) rfl,G⟩ (Gb (u:=.vsl 1086 (ver+1) 1 0 (xs.length+1)) O O ⟨Gp (G90 _ O O) O,G⟩ (Gb (u:=I64 (n:Int)) O O ⟨Gp (G90 _ O O) O,G⟩ (Gb (u:=.vsl 1086 (ver+1) 1 n (xs.length+1 - n)) rfl rfl ⟨Gp (G8e (lo:=n) (hi:=xs.length+1) rfl G02 rfl rfl (.inr ⟨_,_,rfl,rfl⟩) (.inl ⟨rfl,rfl⟩) (by omega) (by omega) rfl) rfl,G⟩ (D_w (u:=I64 ((min ((X.drop n).take (xs.length+1 - n)).length (xs.length+1 - (n+1)):Nat):Int)) O O O O (Gp (R7d (ys:=(X.drop n).take (xs.length+1 - n)) Y hY.symm O G02 ⟨O,.inr O⟩ (.inr (.inr ⟨_,_,_,_,_,_,O,O,O⟩)) (J93 (f:=I64) (fun _=>O) hX hlt O O)) O) ?_))))))))
 refine Qw (h19 (Jr fun h20=>(JLm (.vsl 1086 (ver+1) 1 0 (xs.length+1)) O (JLm (I64 (n:Int)) O (JLh (.vsl 1086 (ver+1) 1 n (xs.length+1 - n)) (G8e (lo:=n) (hi:=xs.length+1) rfl G02 rfl rfl (.inr ⟨_,_,rfl,rfl⟩) (.inl ⟨rfl,rfl⟩) (by omega) (by omega) rfl) O (JLm (LS 1 I64 [y]) O ?_))))))
 refine G0 (Q94 (xs:=Y) (ys:=[I64 y]) O G02 ⟨O,.inr O⟩ (.inl ⟨_,O,.inl O⟩) (fun z hz=>by
  have:=List.mem_of_mem_take hz
  rw [List.mem_singleton] at this
  subst this; rfl)) ?_
 refine G7 (h20 (Jr fun h21=>(JLm (.vsl 1086 (ver+1) 1 0 (xs.length+1)) O (JLm (.vsl 1086 (ver+1) 1 0 (xs.length+1)) O (G7 (h21 (Jb7 6 O O (H2b (f:=I64) (xs.take n++y::xs.drop n) 6 (ver+4) rfl rfl (by omega) ?_ (Gn ⟨[.vec 1086 (ver+4) 1 (xs.take n++y::xs.drop n).length],[(1086,.vec 3 1 (ver+4) ((xs.take n++y::xs.drop n).map I64))],⟨⟨_,rfl,.vec⟩,G⟩,rfl,⟨⟨_,rfl,.conv (.same rfl)⟩,G⟩,rfl,rfl⟩)))))))))
 have hlm:(xs.map I64).length=xs.length:=List.length_map ..
 have:=Qcc (f:=id) (xs.map I64) n (I64 y) (.agg (List.replicate 1 .junk)) (by rw [hlm]; exact hlt) (xs.length+1 - n) (xs.length+1 - (n+1)) (by rw [hlm]) (by rw [hlm]) X Y hX hY
 rw [hlm] at this
 rw [List.map_append,List.map_cons,List.map_take,List.map_drop]
 exact this

def G4c (l:List Int) (n:Int) (x:Int):Option (List Int):=bif decide (0≤n)&&(decide (n≤(l.length:Int))&&decide (l.length≤100000)) then some (l.take n.toNat++x::l.drop n.toNat) else none
theorem H68 (l:List Int) (n:Int) (x:Int) (r:List Int) (h:G4c l n x=some r):Qb Tryz.prog 68 [LS 1 I64 l,I64 n,I64 x] [] (fun av L'=>∃ p:Nat,av=.vec 1086 p 1 r.length∧L'=[(1086,.vec 3 1 p (r.map I64))]):=by
 unfold G4c at h
 cases hc:(decide (0≤n)&&(decide (n≤(l.length:Int))&&decide (l.length≤100000))) with
 | false=>rw [hc] at h; cases h
 | true=>
  rw [hc] at h
  simp only [Bool.and_eq_true,decide_eq_true_eq] at hc
  obtain⟨h1,h2,h3⟩:=hc
  obtain⟨q,rfl⟩:∃ q:Nat,n=(q:Int):=⟨n.toNat,by omega⟩
  have h:=Option.some.inj h
  simp only [Int.toNat_natCast] at h
  subst h
  refine Qz [] [.tmp 6] Tryz.func68 O O (Ga6 O) (Jr fun h1=>(JLm (.sc (.slice none 0 0)) O (G7 (h1 (Jr fun h2=>(JLm (LS 1 I64 l) O (JLh (.vec 1086 0 1 l.length) (Gb7 (args:=[LS 1 I64 l]) (L0:=[]) (Lr:=[(1086,.vec 3 1 0 (l.map I64))]) rfl ((G55 l l (J98 l h3)).ver 0) (by kernel_rfl) ⟨.inl rfl,rfl,G⟩ G rfl rfl rfl) O (JLm (I64 (q:Int)) O (JLm (I64 x) O (JLh (LS 1 I64 [x]) (Hj (xs:=[I64 x]) rfl ⟨rfl,rfl,G⟩ G02 (by kernel_rfl) rfl rfl rfl rfl) O (JLh (.vec 1086 (0+4) 1 (l.take q++x::l.drop q).length) (Gb7 rfl (Q87 l q x (by omega) h3 0) (by kernel_rfl) ⟨.inl rfl,rfl,.inl rfl,rfl,.inl rfl,rfl,G⟩ ⟨rfl,G⟩ rfl rfl rfl) O (JLm (.vec 1086 (0+4) 1 (l.take q++x::l.drop q).length) O (G7 (h2 (Gn ?_)))))))))))))))
  exact⟨[.vec 1086 (0+4) 1 (l.take q++x::l.drop q).length],[(1086,.vec 3 1 (0+4) ((l.take q++x::l.drop q).map I64))],⟨⟨_,O,.vec⟩,G⟩,O,⟨⟨_,O,.conv (.same O)⟩,G⟩,0+4,O,O⟩
theorem J55 (l:List Int) (n:Int) (x:Int) (r:List Int) (h:G4c l n x=some r):Pure Tryz.prog 68 [LS 1 I64 l,I64 n,I64 x] (·=LS 1 I64 r):=(H68 l n x r h).data0
def J56:=PLift.up H68
def J54:=PLift.up J55

/-! ### twistlock/api.Stowed -/
theorem J5:sliceB Tryz.prog 34 39 4=true:=by kernel_rfl
theorem J35:Zi Tryz.prog 39 4 32=true:=by kernel_rfl
theorem J34:(Tryz.prog.info? 39).bind (fun i=>i.zero.map Value.cells)=some ([E0,E0,E0,.int .u8 0]:List Value).toArray:=by kernel_rfl
theorem H16:Tryz.prog.follows .mixedOrders=true:=by kernel_rfl
theorem H67 (l:List Stowed) (h:l.length≤100000):Ru l=some l:=by
 unfold Ru
 refine Hfb (fun b hb=>?_)
 cases b with
 | true=>rw [hb rfl]; rfl
 | false=>exact G03 (Y2 (decide_eq_true ⟨by simp; omega,by simp [maxLen]; omega⟩) (Gj rfl))

theorem J30 (xs:List Stowed) (n:Nat) (hn:n < xs.length) (hm:xs.length≤100000) (ver:Nat) :
  Qb Tryz.prog 92 [.vec 1114 ver 4 xs.length,I64 (n:Int),I64 ((n+1:Nat):Int)] [(1114,.vec 39 4 ver (xs.map Stowed.av))] (fun u L'=>u=.vec 1114 (ver+2) 4 (xs.eraseIdx n).length∧L'=[(1114,.vec 39 4 (ver+2) ((xs.eraseIdx n).map Stowed.av))]):=by
 obtain⟨Y,hY⟩:∃ Y,Y=(xs.drop (n+1)).take (xs.length - (n+1)):=⟨_,rfl⟩
 have hYl:Y.length=xs.length - (n+1):=by rw [hY]; simp
 refine Qz [1114] [.tmp 6] Tryz.func92 O O (Ga6 O) (Jr fun h1=>(JLm (.sc (.slice none 0 0)) O (G7 (h1 (Jr fun h2=>(JLm (.vec 1114 ver 4 xs.length) O (JLm (I64 (n:Int)) O (JLm (I64 ((n+1:Nat):Int)) O (JLm (.vec 1114 ver 4 xs.length) O (JLh (I64 (xs.length:Int)) (Hbf J5 O O O) O (JLh .junk (Q6c (lo:=n) (hi:=n+1) (mx:=xs.length) rfl J5 rfl rfl rfl rfl rfl rfl rfl rfl (by omega) (by omega) (by simp)) O (G7 (h2 (Js fun h3=>Jr fun h4=>(JLm (I64 (n:Int)) O (JLm (I64 ((n+1:Nat):Int)) O (JLh (BL (decide ((n:Int)=((n+1:Nat):Int)))) (Jw O O O) O (G7 (h4 (Gi O (fun hb=>?_) (fun hb=>?_)))))))))))))))))))))
 ·exact absurd (of_decide_eq_true hb) (by omega)
 refine Gk (h3 (Jr fun h5=>(JLm (.vec 1114 ver 4 xs.length) O (JLh (I64 (xs.length:Int)) (Hbf J5 O O O) O (JLm (I64 (xs.length:Int)) O (G7 (h5 (Js fun h6=>Jb [6] [0,0,0,0,0,0,0,1] [0,0,0,0,0,0,0,1] [[(1114,.vec 39 4 ver (xs.map Stowed.av))],[(1114,.vec 39 4 ver ((xs.take n++Y++xs.drop (n+Y.length)).map Stowed.av)),(1114,.vec 39 4 ver (xs.map Stowed.av))]] H16 (by kernel_rfl) rfl rfl ?_))))))))
 refine Gb (u:=.vec 1114 ver 4 xs.length) O O ⟨Gp (G90 _ O O) O,G⟩ (Gb (u:=I64 (n:Int)) O O ⟨Gp (G90 _ O O) O,G⟩ (Gb (u:=.vsl 1114 ver 4 0 n) rfl rfl ⟨Gp (J03 (f:=Stowed.av) (xs:=xs) rfl rfl rfl rfl J5 ⟨rfl,by omega⟩) rfl,trivial⟩ (Gb (u:=.vec 1114 ver 4 xs.length) O O ⟨Gp (G90 _ O O) O,G⟩ (Gb (u:=I64 ((n+1:Nat):Int)) O O ⟨Gp (G90 _ O O) O,G⟩ (Gb (u:=.vsl 1114 ver 4 (n+1) (xs.length - (n+1))) rfl rfl ⟨Gp (Gcb (f:=Stowed.av) (xs:=xs) rfl rfl rfl rfl J5 ⟨rfl,by omega⟩) rfl,trivial⟩ (D_w (u:=.vsl 1114 ver 4 0 (n+Y.length)) rfl rfl rfl rfl (Gp (Ja3 (f:=Stowed.av) (xs:=xs) (ys:=Y) rfl J5 rfl rfl (hY ▸ Jb6 rfl rfl) (fun _=>rfl) (by omega) rfl) rfl) (Gb (u:=.vsl 1114 ver 4 0 (n+Y.length)) O O ⟨Gp (G90 _ O O) O,G⟩ ?_)))))))
 refine Qw (h6 ?_)
 have hl2:(xs.take n++Y++xs.drop (n+Y.length)).length=xs.length:=by rw [List.length_append,List.length_append,List.length_take,List.length_drop,hYl]; omega
 refine Jr fun h7=>(JLm (.vsl 1114 ver 4 0 (n+Y.length)) O (JLm (.vsl 1114 ver 4 0 (n+Y.length)) O (JLh (I64 ((n+Y.length:Nat):Int)) (J59 O J5 O O) O (JLm (I64 (xs.length:Int)) O (JLh (.vsl 1114 ver 4 (n+Y.length) (xs.length - (n+Y.length))) (G8e (lo:=n+Y.length) (hi:=xs.length) rfl J5 rfl rfl (.inr ⟨_,_,rfl,rfl⟩) (.inr ⟨_,_,rfl,rfl⟩) (by omega) (by rw [List.length_map,hl2]; exact Nat.le_refl _) rfl) O (Jo (Qfd (f:=Stowed.av) (xs:=xs.take n++Y++xs.drop (n+Y.length)) (Stowed.mk 0 (Slot.mk 0 0 0)) [E0,E0,E0,.int .u8 0] O J5 (.inr O) O J34 O O O ⟨.inl O,.inl O,.inl O,.inl O,G⟩) (G7 (h7 (Jr fun h8=>(JLm (.vsl 1114 ver 4 0 (n+Y.length)) O (JLm (.vsl 1114 ver 4 0 (n+Y.length)) O (G7 (h8 ?_)))))))))))))
 refine Jb7 6 O O (H2b (f:=Stowed.av) (xs.eraseIdx n) 6 (ver+2) rfl rfl (by omega) ?_ ?_)
 ·rw [← List.map_take]
  refine congrArg (List.map Stowed.av) ?_
  have:=R6d xs n (Stowed.mk 0 (Slot.mk 0 0 0)) hn
  rw [← hY] at this
  exact this
 refine Gn (⟨[.vec 1114 (ver+2) 4 (xs.eraseIdx n).length],[(1114,.vec 39 4 (ver+2) ((xs.eraseIdx n).map Stowed.av))],⟨⟨_,O,.vec⟩,G⟩,O,⟨⟨_,O,.conv (.same O)⟩,G⟩,O,O⟩)

def Rr (l:List Stowed) (n:Int):Option (List Stowed):=bif decide (0≤n)&&(decide (n < (l.length:Int))&&decide (l.length≤100000)) then some (l.eraseIdx n.toNat) else none
theorem G85 (l:List Stowed) (n:Int) (r:List Stowed) (h:Rr l n=some r):Qb Tryz.prog 40 [LS 4 Stowed.av l,I64 n] [] (fun av L'=>∃ p:Nat,av=.vec 1114 p 4 r.length∧L'=[(1114,.vec 39 4 p (r.map Stowed.av))]):=by
 unfold Rr at h
 cases hc:(decide (0≤n)&&(decide (n < (l.length:Int))&&decide (l.length≤100000))) with
 | false=>rw [hc] at h; cases h
 | true=>
  rw [hc] at h
  simp only [Bool.and_eq_true,decide_eq_true_eq] at hc
  obtain⟨h1,h2,h3⟩:=hc
  obtain⟨q,rfl⟩:∃ q:Nat,n=(q:Int):=⟨n.toNat,by omega⟩
  have h:=Option.some.inj h
  simp only [Int.toNat_natCast] at h
  subst h
  refine Qz [] [.tmp 4] Tryz.func40 O O (Ga6 O) (Jr fun h1=>(JLm (.sc (.slice none 0 0)) O (G7 (h1 (Jr fun h2=>(JLm (LS 4 Stowed.av l) O (JLh (.vec 1114 0 4 l.length) (Gb7 (args:=[LS 4 Stowed.av l]) (L0:=[]) (Lr:=[(1114,.vec 39 4 0 (l.map Stowed.av))]) rfl ((G8a l l (H67 l h3)).ver 0) (by kernel_rfl) ⟨.inl rfl,rfl,G⟩ G rfl rfl rfl) O (JLm (I64 (q:Int)) O (JLm (I64 (q:Int)) O (JLh (I64 ((q+1:Nat):Int)) (Hs (by rw [IntKind.wrap_i64]; omega) rfl rfl rfl) O (JLh (.vec 1114 (0+2) 4 (l.eraseIdx q).length) (Gb7 rfl (J30 l q (by omega) h3 0) (by kernel_rfl) ⟨.inl rfl,rfl,.inl rfl,rfl,.inl rfl,rfl,G⟩ ⟨rfl,G⟩ rfl rfl rfl) O (JLm (.vec 1114 (0+2) 4 (l.eraseIdx q).length) O (G7 (h2 (Gn ?_)))))))))))))))
  exact⟨[.vec 1114 (0+2) 4 (l.eraseIdx q).length],[(1114,.vec 39 4 (0+2) ((l.eraseIdx q).map Stowed.av))],⟨⟨_,O,.vec⟩,G⟩,O,⟨⟨_,O,.conv (.same O)⟩,G⟩,0+2,O,O⟩
def H3d:=PLift.up G85
set_option maxHeartbeats 2000000 in
theorem J2f (xs:List Stowed) (n:Nat) (y:Stowed) (hn:n≤xs.length) (hm:xs.length≤100000) (ver:Nat) :
  Qb Tryz.prog 139 [.vec 1114 ver 4 xs.length,I64 (n:Int),LS 4 Stowed.av [y]] [(1114,.vec 39 4 ver (xs.map Stowed.av))] (fun u L'=>u=.vec 1114 (ver+4) 4 (xs.take n++y::xs.drop n).length∧L'=[(1114,.vec 39 4 (ver+4) ((xs.take n++y::xs.drop n).map Stowed.av))]):=by
 refine Qz [1114] [.tmp 6] Tryz.func139 O O (Ga6 O) (Jr fun h1=>(JLm (.sc (.slice none 0 0)) O (G7 (h1 (Jr fun h2=>(JLm (.vec 1114 ver 4 xs.length) O (JLm (I64 (n:Int)) O (JLh (.vsl 1114 ver 4 n (xs.length - n)) (Gcb (f:=Stowed.av) (xs:=xs) O O O O J5 ⟨O,hn⟩) O (G7 (h2 (Jr fun h3=>(JLm (LS 4 Stowed.av [y]) O (JLh (I64 ((1:Nat):Int)) (Qe (f:=Stowed.av) (xs:=[y]) J5 O O) O (JLm (I64 ((1:Nat):Int)) O (G7 (h3 (Js fun h4=>Jr fun h5=>(JLm (I64 ((1:Nat):Int)) O (JLh (BL (decide (((1:Nat):Int)=0))) (Jw O O O) O (G7 (h5 (Gi O (fun hb=>?_) (fun hb=>?_)))))))))))))))))))))))
 ·exact absurd (of_decide_eq_true hb) (by omega)
 refine Gk (h4 (Jr fun h6=>(JLm (.vec 1114 ver 4 xs.length) O (JLh (I64 (xs.length:Int)) (Hbf J5 O O O) O (JLm (I64 (xs.length:Int)) O (G7 (h6 (Js fun h7=>Jr fun h8=>(JLm (I64 (n:Int)) O (JLm (I64 (xs.length:Int)) O (JLh (BL (decide ((n:Int)=(xs.length:Int)))) (Jw O O O) O (G7 (h8 (Gi O (fun hb=>?_) (fun hb=>?_)))))))))))))))
 ·-- at the end
  have hb:=of_decide_eq_true hb
  have hnx:n=xs.length:=by omega
  refine Jr fun h9=>(JLm (.vec 1114 ver 4 xs.length) O (JLm (LS 4 Stowed.av [y]) O (JLh (.vec 1114 (ver+3) 4 (xs++[y]).length) (G68 (f:=Stowed.av) (xs:=xs) (ys:=[y]) (ver1:=ver+3) rfl rfl rfl rfl J5 J35 (decide_eq_true ⟨by rw [List.length_singleton]; omega,by rw [List.length_singleton]; simp [maxLen]; omega⟩) (fun _=>rfl) (.inl rfl) (by omega)) O (JLm (.vec 1114 (ver+3) 4 (xs++[y]).length) O (G7 (h9 (H2b (f:=Stowed.av) (xs.take n++y::xs.drop n) 6 (ver+4) rfl rfl (by omega) (congrArg (List.map Stowed.av) (by rw [hnx,List.take_length,List.drop_length])) (Gn (⟨[.vec 1114 (ver+4) 4 (xs.take n++y::xs.drop n).length],[(1114,.vec 39 4 (ver+4) ((xs.take n++y::xs.drop n).map Stowed.av))],⟨⟨_,O,.vec⟩,G⟩,O,⟨⟨_,O,.conv (.same O)⟩,G⟩,O,O⟩)))))))))
 have hb:=of_decide_eq_false hb
 have hlt:n < xs.length:=by omega
 refine Gk (h7 (R74 0 O O (fun c hc1 hc2=>?_)))
 rw [List.length_map] at hc1
 refine G67 (l':=[(0,.vcap 1114 ver 4 xs.length c),(1,I64 (n:Int)),(2,LS 4 Stowed.av [y]),(7,I64 ((1:Nat):Int)),(8,I64 (xs.length:Int))]) (L':=[(1114,.vec 39 4 ver (xs.map Stowed.av))]) ⟨⟨.eq (by rw [show (xs.map Stowed.av).length=xs.length from List.length_map ..]; rfl) rfl,.same rfl,.same rfl,.same rfl,.same rfl,G⟩,⟨⟨_,rfl,.vec⟩,G⟩,rfl⟩ (Js fun h10=>Jr fun h11=>(JLm (I64 (xs.length:Int)) O (JLm (I64 ((1:Nat):Int)) O (JLh (I64 ((xs.length+1:Nat):Int)) (Hs (by rw [IntKind.wrap_i64]; omega) rfl rfl rfl) O (JLm (.vcap 1114 ver 4 xs.length c) O (JLh (I64 (c:Int)) (Q6b O J5 O O) O (JLh (BL (decide ((c:Int) < ((xs.length+1:Nat):Int)))) (G30 O O O) O (G7 (h11 (Gi O (fun hb=>?_) (fun hb=>?_)))))))))))
 ·-- a new row
  have hb:=of_decide_eq_true hb
  obtain⟨p,hp⟩:∃ p,p=xs.length+1 - n:=⟨_,rfl⟩
  obtain⟨X1,hX1⟩:∃ X1,xs.take n++List.replicate p (Stowed.mk 0 (Slot.mk 0 0 0))=X1:=⟨_,rfl⟩
  have hl1:X1.length=xs.length+1:=by rw [← hX1,List.length_append,List.length_take,List.length_replicate]; omega
  obtain⟨X2,hX2⟩:∃ X2,overlay X1 n [y] (X1.length - n)=X2:=⟨_,rfl⟩
  have hl2:X2.length=xs.length+1:=by
   rw [← hX2]; unfold overlay
   rw [List.length_singleton,Nat.min_eq_left (by omega)]; simp; omega
  obtain⟨Y,hY⟩:∃ Y,Y=(xs.drop n).take (xs.length - n):=⟨_,rfl⟩
  obtain⟨X3,hX3⟩:∃ X3,overlay X2 (n+1) Y (X2.length - (n+1))=X3:=⟨_,rfl⟩
  refine Jr fun h12=>(JLm (.vcap 1114 ver 4 xs.length c) O (JLm (I64 (n:Int)) O (JLh (.vcap 1114 ver 4 n c) (J5a rfl J5 rfl rfl rfl rfl (by omega)) O (JLm (I64 (xs.length:Int)) O (JLm (I64 ((1:Nat):Int)) O (JLh (I64 ((xs.length+1:Nat):Int)) (Hs (by rw [IntKind.wrap_i64]; omega) rfl rfl rfl) O (JLm (I64 (n:Int)) O (JLh (I64 (p:Int)) (Gcc (by rw [IntKind.wrap_i64]; omega) rfl rfl rfl) O (JLh (.vec 77000002 0 4 X1.length) (Q25 (f:=Stowed.av) (xs:=xs) 77000002 (Stowed.mk 0 (Slot.mk 0 0 0)) [E0,E0,E0,.int .u8 0] X1 hX1 rfl rfl rfl rfl rfl J5 (kn:=.i64) (by kernel_rfl) J35 J34 rfl rfl ⟨.inl rfl,.inl rfl,.inl rfl,.inl rfl,G⟩ (by omega) (by simp [maxLen]; omega) hn (by omega) (by omega) (by omega) rfl) O (JLm (.vec 77000002 0 4 X1.length) O (G7 (h12 ?_))))))))))))
  refine Jr fun h13=>(JLm (.vec 77000002 0 4 X1.length) O (JLm (I64 (n:Int)) O (JLh (.vsl 77000002 0 4 n (X1.length - n)) (Gcb (f:=Stowed.av) (xs:=X1) rfl rfl rfl rfl J5 ⟨rfl,by omega⟩) O (JLm (LS 4 Stowed.av [y]) O (G0 (Jb9 (f:=Stowed.av) (xs:=X1) (ys:=[y]) X2 hX2 O J5 (.inr O) O (Qe7 O (.inl O)) (fun _=>O)) ?_)))))
  refine G7 (h13 (G67 (l':=[(0,.vcap 1114 ver 4 xs.length c),(1,I64 (n:Int)),(2,LS 4 Stowed.av [y]),(7,I64 ((1:Nat):Int)),(9,.vec 77000002 0 4 X2.length)]) (L':=[(77000002,.vec 39 4 0 (X2.map Stowed.av)),(1114,.vec 39 4 ver (xs.map Stowed.av))]) ⟨⟨.same rfl,.same rfl,.same rfl,.same rfl,.eq (by rw [hl2,← hl1]; rfl) rfl,G⟩,⟨⟨_,rfl,.vec⟩,⟨_,rfl,.vec⟩,G⟩,rfl⟩ (Js fun h14=>Jb [8] [0,0,0,0,0,0,0,0,0] [0,0,0,0,0,0,0,0,0] [[(77000002,.vec 39 4 0 (X2.map Stowed.av)),(1114,.vec 39 4 ver (xs.map Stowed.av))],[(77000002,.vec 39 4 0 (X3.map Stowed.av)),(77000002,.vec 39 4 0 (X2.map Stowed.av)),(1114,.vec 39 4 ver (xs.map Stowed.av))]] H16 (by kernel_rfl) rfl rfl ?_)))
  refine Gb (u:=.vec 77000002 0 4 X2.length) O O ⟨Gp (G90 _ O O) O,G⟩ (Gb (u:=I64 (n:Int)) O O ⟨Gp (G90 _ O O) O,G⟩ (Gb (u:=I64 ((1:Nat):Int)) O O ⟨Gp (G90 _ O O) O,G⟩ (Gb (u:=I64 ((n+1:Nat):Int)) rfl rfl ⟨Gp (Hs (by rw [IntKind.wrap_i64]; omega) rfl rfl rfl) rfl,G⟩ (Gb (u:=.vsl 77000002 0 4 (n+1) (X2.length - (n+1))) rfl rfl ⟨Gp (Gcb (f:=Stowed.av) (xs:=X2) rfl rfl rfl rfl J5 ⟨rfl,by omega⟩) rfl,trivial⟩ (Gb (u:=.vcap 1114 ver 4 xs.length c) O O ⟨Gp (G90 _ O O) O,G⟩ (Gb (u:=I64 (n:Int)) O O ⟨Gp (G90 _ O O) O,G⟩ (Gb (u:=.vsl 1114 ver 4 n (xs.length - n)) rfl rfl ⟨Gp (Qf7 rfl J5 rfl rfl rfl rfl hn (by simp) (by simp; omega)) rfl,G⟩ (D_w (u:=I64 ((min Y.length (X2.length - (n+1)):Nat):Int)) O O O O (Gp (Jb9 (f:=Stowed.av) (xs:=X2) (ys:=Y) X3 hX3 O J5 (.inr O) O (hY ▸ Jb6 O O) (fun _=>O)) O) ?_))))))))
  refine Qw (h14 (Jr fun h15=>(JLm (.vec 77000002 0 4 X2.length) O (JLm (.vec 77000002 0 4 X2.length) O (G7 (h15 (Qef (f:=Stowed.av) (xs.take n++y::xs.drop n) 6 1114 (ver+4) rfl rfl rfl (by decide) (by omega) (congrArg (List.map Stowed.av) ?_) ?_)))))))
  ·rw [show X2.length - (n+1)=xs.length+1 - (n+1) by omega] at hX3
   rw [show X1.length - n=p by omega] at hX2
   rw [← hX3,← hX2,← hX1,hY]
   exact Qde xs n y (Stowed.mk 0 (Slot.mk 0 0 0)) hlt _ _ _ hp O O
  refine Gn (⟨[.vec 1114 (ver+4) 4 (xs.take n++y::xs.drop n).length],[(1114,.vec 39 4 (ver+4) ((xs.take n++y::xs.drop n).map Stowed.av))],⟨⟨_,O,.vec⟩,G⟩,O,⟨⟨_,O,.conv (.same O)⟩,G⟩,O,O⟩)
 have hb:=of_decide_eq_false hb
 obtain⟨X,hX⟩:∃ X,X=xs.map Stowed.av++List.replicate ((xs.map Stowed.av).length+1 - (xs.map Stowed.av).length) (.agg (List.replicate 4 .junk)):=⟨_,rfl⟩
 have hXl:X.length=xs.length+1:=by rw [hX]; simp
 refine Gk (h10 (Jr fun h16=>(JLm (.vcap 1114 ver 4 xs.length c) O (JLm (I64 (xs.length:Int)) O (JLm (I64 ((1:Nat):Int)) O (JLh (I64 ((xs.length+1:Nat):Int)) (Hs (by rw [IntKind.wrap_i64]; omega) rfl rfl rfl) O (JLh (.vcap 1114 ver 4 (xs.length+1) c) (J5a rfl J5 rfl rfl rfl rfl (by omega)) O (J9a 60 X (by rw [hX,List.length_map]) rfl rfl (by simp) (by omega) (by simp; omega) (JLm (.vsl 1114 (ver+1) 4 0 (xs.length+1)) O (G7 (h16 (Js fun h17=>?_))))))))))))
 refine Jr fun h18=>(JLm (LS 4 Stowed.av [y]) O (JLm (.vsl 1114 (ver+1) 4 0 (xs.length+1)) O (JLm (I64 (n:Int)) O (JLm (I64 ((1:Nat):Int)) O (JLh (I64 ((n+1:Nat):Int)) (Hs (by rw [IntKind.wrap_i64]; omega) rfl rfl rfl) O (JLh (.vsl 1114 (ver+1) 4 (n+1) (xs.length+1 - (n+1))) (G8e (lo:=n+1) (hi:=xs.length+1) rfl J5 rfl rfl (.inr ⟨_,_,rfl,rfl⟩) (.inl ⟨rfl,rfl⟩) (by omega) (by omega) rfl) O (JLh (BL false) (Q20 (S:=4) rfl Tryz.func160 (by kernel_rfl) (by kernel_rfl) (by kernel_rfl) (by kernel_rfl) J5 rfl rfl rfl rfl rfl (by simp) (by omega)) O (JLh (BL true) (Q7 (b:=false) O O) O (G7 (h18 (Gi rfl (fun hb=>?_) (fun hb=>by cases hb))))))))))))
 obtain⟨Y,hY⟩:∃ Y,Y=X.take (n+1)++(((X.drop n).take (xs.length+1 - n)).take (min ((X.drop n).take (xs.length+1 - n)).length (xs.length+1 - (n+1))))++X.drop (n+1+min ((X.drop n).take (xs.length+1 - n)).length (xs.length+1 - (n+1))):=⟨_,rfl⟩
 have hYl:Y.length=xs.length+1:=by
  have hdl:((X.drop n).take (xs.length+1 - n)).length=xs.length+1 - n:=by rw [List.length_take,List.length_drop,hXl]; omega
  rw [hY,hdl,Nat.min_eq_right (by omega)]
  simp only [List.length_append,List.length_take,List.length_drop,hXl]
  omega
 refine G67 (l':=[(0,.vsl 1114 (ver+1) 4 0 (xs.length+1)),(1,I64 (n:Int)),(2,LS 4 Stowed.av [y]),(7,I64 ((1:Nat):Int))]) (L':=[(1114,.vec 39 4 (ver+1) X)]) ⟨(.sm O O),⟨⟨_,rfl,.vec⟩,G⟩,rfl⟩ (Js fun h19=>Jb [8] [0,0,0,0,0,0,0,0,0] [0,0,0,0,0,0,0,0,0] [[(1114,.vec 39 4 (ver+1) X)],[(1114,.vec 39 4 (ver+1) Y),(1114,.vec 39 4 (ver+1) X)]] H16 (by kernel_rfl) rfl rfl ?_)
 refine Gb (u:=.vsl 1114 (ver+1) 4 0 (xs.length+1)) O O ⟨Gp (G90 _ O O) O,G⟩ (Gb (u:=I64 (n:Int)) O O ⟨Gp (G90 _ O O) O,G⟩ (Gb (u:=I64 ((1:Nat):Int)) O O ⟨Gp (G90 _ O O) O,G⟩ (Gb (u:=I64 ((n+1:Nat):Int)) rfl rfl ⟨Gp (Hs (by rw [IntKind.wrap_i64]; omega) rfl rfl rfl) rfl,G⟩ (Gb (u:=.vsl 1114 (ver+1) 4 (n+1) (xs.length+1 - (n+1))) rfl rfl ⟨Gp (G8e (lo:=n+1) (hi:=xs.length+1) rfl J5 rfl rfl (.inr ⟨_,_,rfl,rfl⟩) (.inl ⟨rfl,rfl⟩) (by omega) (by omega) rfl) rfl,G⟩ (Gb (u:=.vsl 1114 (ver+1) 4 0 (xs.length+1)) O O ⟨Gp (G90 _ O O) O,G⟩ (Gb (u:=I64 (n:Int)) O O ⟨Gp (G90 _ O O) O,G⟩ (Gb (u:=.vsl 1114 (ver+1) 4 n (xs.length+1 - n)) rfl rfl ⟨Gp (G8e (lo:=n) (hi:=xs.length+1) rfl J5 rfl rfl (.inr ⟨_,_,rfl,rfl⟩) (.inl ⟨rfl,rfl⟩) (by omega) (by omega) rfl) rfl,G⟩ (D_w (u:=I64 ((min ((X.drop n).take (xs.length+1 - n)).length (xs.length+1 - (n+1)):Nat):Int)) O O O O (Gp (R7d (ys:=(X.drop n).take (xs.length+1 - n)) Y hY.symm O J5 ⟨O,.inr O⟩ (.inr (.inr ⟨_,_,_,_,_,_,O,O,O⟩)) (J93 (f:=Stowed.av) (fun _=>O) hX hlt O O)) O) ?_))))))))
 refine Qw (h19 (Jr fun h20=>(JLm (.vsl 1114 (ver+1) 4 0 (xs.length+1)) O (JLm (I64 (n:Int)) O (JLh (.vsl 1114 (ver+1) 4 n (xs.length+1 - n)) (G8e (lo:=n) (hi:=xs.length+1) rfl J5 rfl rfl (.inr ⟨_,_,rfl,rfl⟩) (.inl ⟨rfl,rfl⟩) (by omega) (by omega) rfl) O (JLm (LS 4 Stowed.av [y]) O ?_))))))
 refine G0 (Q94 (xs:=Y) (ys:=[Stowed.av y]) O J5 ⟨O,.inr O⟩ (.inl ⟨_,O,.inl O⟩) (fun z hz=>by
  have:=List.mem_of_mem_take hz
  rw [List.mem_singleton] at this
  subst this; rfl)) ?_
 refine G7 (h20 (Jr fun h21=>(JLm (.vsl 1114 (ver+1) 4 0 (xs.length+1)) O (JLm (.vsl 1114 (ver+1) 4 0 (xs.length+1)) O (G7 (h21 (Jb7 6 O O (H2b (f:=Stowed.av) (xs.take n++y::xs.drop n) 6 (ver+4) rfl rfl (by omega) ?_ (Gn ⟨[.vec 1114 (ver+4) 4 (xs.take n++y::xs.drop n).length],[(1114,.vec 39 4 (ver+4) ((xs.take n++y::xs.drop n).map Stowed.av))],⟨⟨_,rfl,.vec⟩,G⟩,rfl,⟨⟨_,rfl,.conv (.same rfl)⟩,G⟩,rfl,rfl⟩)))))))))
 have hlm:(xs.map Stowed.av).length=xs.length:=List.length_map ..
 have:=Qcc (f:=id) (xs.map Stowed.av) n (Stowed.av y) (.agg (List.replicate 4 .junk)) (by rw [hlm]; exact hlt) (xs.length+1 - n) (xs.length+1 - (n+1)) (by rw [hlm]) (by rw [hlm]) X Y hX hY
 rw [hlm] at this
 rw [List.map_append,List.map_cons,List.map_take,List.map_drop]
 exact this

def Rx (l:List Stowed) (n:Int) (x:Stowed):Option (List Stowed):=bif decide (0≤n)&&(decide (n≤(l.length:Int))&&decide (l.length≤100000)) then some (l.take n.toNat++x::l.drop n.toNat) else none
theorem J36:Ge6 Tryz.prog 39 4=true:=by kernel_rfl
theorem Gc0 (l:List Stowed) (n:Int) (x:Stowed) (r:List Stowed) (h:Rx l n x=some r):Qb Tryz.prog 103 [LS 4 Stowed.av l,I64 n,.agg (Stowed.cs x)] [] (fun av L'=>∃ p:Nat,av=.vec 1114 p 4 r.length∧L'=[(1114,.vec 39 4 p (r.map Stowed.av))]):=by
 unfold Rx at h
 cases hc:(decide (0≤n)&&(decide (n≤(l.length:Int))&&decide (l.length≤100000))) with
 | false=>rw [hc] at h; cases h
 | true=>
  rw [hc] at h
  simp only [Bool.and_eq_true,decide_eq_true_eq] at hc
  obtain⟨h1,h2,h3⟩:=hc
  obtain⟨q,rfl⟩:∃ q:Nat,n=(q:Int):=⟨n.toNat,by omega⟩
  have h:=Option.some.inj h
  simp only [Int.toNat_natCast] at h
  subst h
  refine Qz [] [.tmp 6] Tryz.func103 O O (Ga6 O) (Jr fun h1=>(JLh (.ptr 77000003 0) (Je (cs:=Stowed.cs x) 77000003 O O O O O) O (JLm (.sc (.slice none 0 0)) O (G7 (h1 (Gx [(0,LS 4 Stowed.av l),(1,I64 (q:Int)),(5,.dptr (Stowed.cs x))] [] 77000003 rfl rfl rfl G rfl (by exact⟨.conv (.same rfl),.conv (.same rfl),.ptr,G⟩) (Js fun h2=>Jb [1,5] [0,0,0,0,0,0,2] [0,0,1,1,1,0,2] [[],[(1114,.vec 39 4 0 (l.map Stowed.av))],[(1114,.vec 39 4 (0+4) ((l.take q++x::l.drop q).map Stowed.av))]] H16 (by kernel_rfl) rfl rfl ?_)))))))
  refine Gb (u:=LS 4 Stowed.av l) O O ⟨Gp (G90 _ O O) O,G⟩ (D_w (u:=.vec 1114 0 4 l.length) rfl rfl rfl rfl (Gp (Gb7 (args:=[LS 4 Stowed.av l]) (L0:=[]) (Lr:=[(1114,.vec 39 4 0 (l.map Stowed.av))]) rfl ((G8a l l (H67 l h3)).ver 0) (by kernel_rfl) ⟨.inl rfl,rfl,G⟩ G rfl rfl rfl) rfl) (Gb (u:=I64 (q:Int)) O O ⟨Gp (G90 _ O O) O,Gp (G90 _ O O) O,G⟩ (Gb (u:=.agg (Stowed.cs x)) O O ⟨Gp (Gh J36 O O O) O,Gp (Gh J36 O O O) O,G⟩ (Gb (u:=LS 4 Stowed.av [x]) rfl rfl ⟨Gp (Hj (xs:=[Stowed.av x]) rfl ⟨rfl,rfl,G⟩ J5 (by kernel_rfl) rfl rfl rfl rfl) rfl,Gp (Hj (xs:=[Stowed.av x]) rfl ⟨rfl,rfl,G⟩ J5 (by kernel_rfl) rfl rfl rfl rfl) rfl,G⟩ (D_w (u:=.vec 1114 (0+4) 4 (l.take q++x::l.drop q).length) rfl rfl rfl rfl (Gp (Gb7 (args:=[.vec 1114 0 4 l.length,I64 (q:Int),LS 4 Stowed.av [x]]) rfl (J2f l q x (by omega) h3 0) (by kernel_rfl) ⟨.inl rfl,rfl,.inl rfl,rfl,.inl rfl,rfl,G⟩ ⟨rfl,G⟩ rfl rfl rfl) rfl) (Gb (u:=.vec 1114 (0+4) 4 (l.take q++x::l.drop q).length) O O ⟨Gp (G90 _ O O) O,G⟩ ?_))))))
  refine Qw (h2 (Gn (⟨[.vec 1114 (0+4) 4 (l.take q++x::l.drop q).length],[(1114,.vec 39 4 (0+4) ((l.take q++x::l.drop q).map Stowed.av))],⟨⟨_,O,.vec⟩,G⟩,O,⟨⟨_,O,.conv (.same O)⟩,G⟩,0+4,O,O⟩)))
theorem H8f (l:List Stowed) (n:Int) (x:Stowed) (r:List Stowed) (h:Rx l n x=some r):Pure Tryz.prog 103 [LS 4 Stowed.av l,I64 n,.agg (Stowed.cs x)] (·=LS 4 Stowed.av r):=(Gc0 l n x r h).data0
def H90:=PLift.up Gc0
def H8e:=PLift.up H8f
end Go.Proofs.YtecjdioomlhhiaaGreat
