/-
 Models of functions of the program,and that they return what the models say.
-/
import Derived.Test.YteogacmpgdpjlaaGreatSpecM
set_option maxRecDepth 100000
namespace Go.Proofs.YteogacmpgdpjlaaGreat
open Go.RowKit
noncomputable section

namespace XMF
open XAF
open XLF
open XSF
theorem Qa3:Hb En 125=true:=by kernel_rfl
theorem Q98:Hb En 140=true:=by kernel_rfl
theorem Q94:Hb En 144=true:=by kernel_rfl
theorem Jc2:Hb En 175=true:=by kernel_rfl
theorem Q8d:Hb En 179=true:=by kernel_rfl
theorem Q8c:Hb En 196=true:=by kernel_rfl
theorem Qf2:Hb En 27=true:=by kernel_rfl
theorem Qf1:Hb En 28=true:=by kernel_rfl
theorem Hd3:Hb En 54=true:=by kernel_rfl
theorem Q1c:Hb En 55=true:=by kernel_rfl
theorem Q1b:Hb En 56=true:=by kernel_rfl
theorem H53:Hb En 57=true:=by kernel_rfl
theorem Q1a:Hb En 58=true:=by kernel_rfl
theorem Qcf:Hb En 92=true:=by kernel_rfl
theorem Qce:Hb En 93=true:=by kernel_rfl
theorem Qcc:Hb En 98=true:=by kernel_rfl
theorem Qca:J3f En 176 .u64=true:=by kernel_rfl
theorem Hd1:Ym En 40=true:=by kernel_rfl
theorem Q08:Yp En 40 1=true:=by kernel_rfl
theorem Qc1:(En.info? 40).bind (fun i=>i.zero.map Value.cells)=some (List.toArray [.slice none 0 0]):=by kernel_rfl
end XMF
open XAF
open XLF
open XSF
open XMF

def G35 (kind:Int) (l:List G6) (p2:List Move):Option (List Move):=
 each (fun y26 i26 (s26:(List Move)) nx26=>
  need (decide ((s26.length+[(Move.mk kind y26.H2 y26.Slot 0)].length)*48≤140737488355328∧s26.length+[(Move.mk kind y26.H2 y26.Slot 0)].length≤maxLen)) <|
  nx26 (s26++[(Move.mk kind y26.H2 y26.Slot 0)]))
 (fun(s26:(List Move))=>
  some s26) l 0 p2
theorem Gb8 (kind:Int) (l:List G6) (p2:List Move) (r:(List Move)) (h:G35 kind l p2=some r):Rn En 54 [U8 kind,E0 l,.ptr 1041 0] [(1041,.box 40 [OW 1042 6 Move.av p2]),(1042,.spare 69 6 p2.length p2.length)] (fun av L'=>av=.tup []∧L'=[(1041,.box 40 [OW 1042 6 Move.av r]),(1042,.spare 69 6 r.length r.length)]):=by
 unfold G35 at h
 refine Z6 [1041,1042] [] Tryz.func54 O O (H3b O) (Jr fun hK1=>(JLm (E0 l) O (JLl Gz O O O fun hm8=>(JLm (G0 0) O (G8 (hK1 (Gk ?_)))))))
 obtain⟨b26,kx26,hb26,hkx26,h⟩:=J4 h
 refine H6 (fun i26 (s26:(List Move))=>each b26 kx26 (List.drop i26 l) i26 s26=some r) (fun i26 s26=>[(0,U8 kind),(2,.ptr 1041 0),(7,E0 l),(8,Em l.length),(9,Em i26)]) (fun i26 s26=>[(1042,.spare 69 6 s26.length s26.length),(1041,.box 40 [OW 1042 6 Move.av s26])]) (fun i26=>l.length - i26) 0 p2 h ⟨(by repeat' constructor),⟨⟨_,rfl,.same⟩,⟨_,rfl,.boxL rfl ⟨.same rfl,G⟩⟩,G⟩,rfl⟩ ?_
 clear h
 intro i26 s26 hi26 K26 e26
 refine Jr fun hK27=>(JLh (BL (decide ((i26:Int) < (l.length:Int)))) (Hy O O O) O (G8 (hK27 (Js fun hK28=>Gj O (fun hb=>?_) (fun hb=>?_)))))
 ·
  have hk26:=Je hb
  obtain⟨y26,nx26,hy26,hn26,h⟩:=Hs hi26 hk26
  replace h:=Y8 hb26 h
  refine Gm (hK28 (Js fun hK29=>Gk (Jr fun hK30=>(JLh (Ee y26) (Gs (f:=G6.av) (xs:=l) (y:=y26) O O O Gz hy26 O) O (JLh (.agg (G6.cs y26)) (Gi Qv O O O) O (JLh (.ptr 1091 0) (Ju 1091 4 Rv O O) O (Ja (u:=.junk) (J0 (u:=.agg (G6.cs y26)) (ds:=[G0 y26.H2,G0 y26.Slot.G4,G0 y26.Slot.Tier,U8 y26.Slot.Half]) Z4 O O O O O O O O) (G8 (hK30 (Gx [(0,U8 kind),(2,.ptr 1041 0),(6,Ee y26),(7,E0 l),(8,Em l.length),(9,Em i26)] [(1042,.spare 69 6 s26.length s26.length),(1041,.box 40 [OW 1042 6 Move.av s26])] 1091 rfl rfl rfl ⟨⟨_,rfl,.same⟩,⟨_,rfl,.boxEq rfl rfl⟩,G⟩ rfl (by repeat' (first | exact .ptr | constructor)) (G2 ?_)))))))))))
  refine JLh (OW 1042 6 Move.av s26) (Z7 Hd1 O O O O) O (JLm (U8 kind) O (JLh (Ee y26) (Ga Q7 O O O) O (JLh (G0 y26.H2) (Gh Gc O O O) O (JLh (.dptr ((G6.cs y26).drop 1)) (Ga Hg O O O) O (JLh (.agg ((G6.cs y26).drop 1)) (Gi Jg O O O) O (JLh (.agg [U8 kind,G0 y26.H2,G0 y26.Slot.G4,G0 y26.Slot.Tier,U8 y26.Slot.Half,G0 0]) (Ji (cs:=[U8 kind,G0 y26.H2,G0 y26.Slot.G4,G0 y26.Slot.Tier,U8 y26.Slot.Half,G0 0]) [(0,1),(1,1),(2,3),(5,1)] [U8 0,G0 0,G0 0,G0 0,U8 0,G0 0] [.int .u8 0,.int .i64 0,.int .i64 0,.int .i64 0,.int .u8 0,.int .i64 0] G25 G4f ⟨.inl O,.inl O,.inl O,.inl O,.inl O,.inl O,G⟩ O O) O (JLh (E2 [(Move.mk kind y26.H2 y26.Slot 0)]) (Hv (xs:=[.agg [U8 kind,G0 y26.H2,G0 y26.Slot.G4,G0 y26.Slot.Tier,U8 y26.Slot.Half,G0 0]]) O ⟨O,O,G⟩ Hr G7a O O O O) O ?_)))))))
  obtain⟨ha31,h⟩:=Hz h
  refine JLh (OW 1042 6 Move.av (s26++[(Move.mk kind y26.H2 y26.Slot 0)])) (Y0 (f:=Move.av) (xs:=s26) (ys:=[(Move.mk kind y26.H2 y26.Slot 0)]) O O O O Hr G22 ha31 (fun _=>O) (.inl O) O) O (Ja (u:=.junk) (J0 (u:=OW 1042 6 Move.av (s26++[(Move.mk kind y26.H2 y26.Slot 0)])) (ds:=[OW 1042 6 Move.av (s26++[(Move.mk kind y26.H2 y26.Slot 0)])]) Q08 O O O O O O O O) (G8 (hK29 (G2 (JLh (G0 ((i26+1:Nat):Int)) (Hx (Hc hk26 hm8) O O O) O (JLm (G0 ((i26+1:Nat):Int)) O (G8 (e26 _ _ (i26+1) (s26++[(Move.mk kind y26.H2 y26.Slot 0)]) (app1 hn26 h) (by omega) ⟨(by repeat' constructor),⟨⟨_,rfl,.same⟩,⟨_,rfl,.boxL rfl ⟨.same rfl,G⟩⟩,G⟩,rfl⟩))))))))
 ·
  have h:=app1 hkx26 (Ht hi26 (H9 hb))
  refine Hd ?_
  obtain rfl:=Option.some.inj h
  exact⟨[],[(1041,.box 40 [OW 1042 6 Move.av s26]),(1042,.spare 69 6 s26.length s26.length)],⟨⟨_,O,.boxL O ⟨.same O,G⟩⟩,⟨_,O,.same⟩,G⟩,O,G,O,O⟩

def G77 (kind:Int) (l:List Int) (p2:List Move):Option (List Move):=
 each (fun y26 i26 (s26:(List Move)) nx26=>
  need (decide ((s26.length+[(Move.mk kind 0 (Slot.mk 0 0 0) y26)].length)*48≤140737488355328∧s26.length+[(Move.mk kind 0 (Slot.mk 0 0 0) y26)].length≤maxLen)) <|
  nx26 (s26++[(Move.mk kind 0 (Slot.mk 0 0 0) y26)]))
 (fun(s26:(List Move))=>
  some s26) l 0 p2
theorem Hc2 (kind:Int) (l:List Int) (p2:List Move) (r:(List Move)) (h:G77 kind l p2=some r):Rn En 55 [U8 kind,E1 l,.ptr 1041 0] [(1041,.box 40 [OW 1042 6 Move.av p2]),(1042,.spare 69 6 p2.length p2.length)] (fun av L'=>av=.tup []∧L'=[(1041,.box 40 [OW 1042 6 Move.av r]),(1042,.spare 69 6 r.length r.length)]):=by
 unfold G77 at h
 refine Z6 [1041,1042] [] Tryz.func55 O O (H3b O) (Jr fun hK1=>(JLm (E1 l) O (JLl H4 O O O fun hm8=>(JLm (G0 0) O (G8 (hK1 (Gk ?_)))))))
 obtain⟨b26,kx26,hb26,hkx26,h⟩:=J4 h
 refine H6 (fun i26 (s26:(List Move))=>each b26 kx26 (List.drop i26 l) i26 s26=some r) (fun i26 s26=>[(0,U8 kind),(2,.ptr 1041 0),(7,E1 l),(8,Em l.length),(9,Em i26)]) (fun i26 s26=>[(1042,.spare 69 6 s26.length s26.length),(1041,.box 40 [OW 1042 6 Move.av s26])]) (fun i26=>l.length - i26) 0 p2 h ⟨(by repeat' constructor),⟨⟨_,rfl,.same⟩,⟨_,rfl,.boxL rfl ⟨.same rfl,G⟩⟩,G⟩,rfl⟩ ?_
 clear h
 intro i26 s26 hi26 K26 e26
 refine Jr fun hK27=>(JLh (BL (decide ((i26:Int) < (l.length:Int)))) (Hy O O O) O (G8 (hK27 (Js fun hK28=>Gj O (fun hb=>?_) (fun hb=>?_)))))
 ·
  have hk26:=Je hb
  obtain⟨y26,nx26,hy26,hn26,h⟩:=Hs hi26 hk26
  replace h:=Y8 hb26 h
  refine Gm (hK28 (Js fun hK29=>Gk (Jr fun hK30=>(JLh (.dptr [G0 y26]) (Gs (f:=G0) (xs:=l) (y:=y26) O O O H4 hy26 O) O (JLh (G0 y26) (Gh Gc O O O) O (JLm (G0 y26) O (G8 (hK30 (G2 ?_)))))))))
  refine JLh (OW 1042 6 Move.av s26) (Z7 Hd1 O O O O) O (JLm (U8 kind) O (JLm (G0 y26) O (JLh (.agg [U8 kind,G0 0,G0 0,G0 0,U8 0,G0 y26]) (Ji (cs:=[U8 kind,G0 0,G0 0,G0 0,U8 0,G0 y26]) [(0,1),(1,1),(2,3),(5,1)] [U8 0,G0 0,G0 0,G0 0,U8 0,G0 0] [.int .u8 0,.int .i64 0,.int .i64 0,.int .i64 0,.int .u8 0,.int .i64 0] G25 G4f ⟨.inl O,.inl O,.inl O,.inl O,.inl O,.inl O,G⟩ O O) O (JLh (E2 [(Move.mk kind 0 (Slot.mk 0 0 0) y26)]) (Hv (xs:=[.agg [U8 kind,G0 0,G0 0,G0 0,U8 0,G0 y26]]) O ⟨O,O,G⟩ Hr G7a O O O O) O ?_))))
  obtain⟨ha31,h⟩:=Hz h
  refine JLh (OW 1042 6 Move.av (s26++[(Move.mk kind 0 (Slot.mk 0 0 0) y26)])) (Y0 (f:=Move.av) (xs:=s26) (ys:=[(Move.mk kind 0 (Slot.mk 0 0 0) y26)]) O O O O Hr G22 ha31 (fun _=>O) (.inl O) O) O (Ja (u:=.junk) (J0 (u:=OW 1042 6 Move.av (s26++[(Move.mk kind 0 (Slot.mk 0 0 0) y26)])) (ds:=[OW 1042 6 Move.av (s26++[(Move.mk kind 0 (Slot.mk 0 0 0) y26)])]) Q08 O O O O O O O O) (G8 (hK29 (G2 (JLh (G0 ((i26+1:Nat):Int)) (Hx (Hc hk26 hm8) O O O) O (JLm (G0 ((i26+1:Nat):Int)) O (G8 (e26 _ _ (i26+1) (s26++[(Move.mk kind 0 (Slot.mk 0 0 0) y26)]) (app1 hn26 h) (by omega) ⟨(by repeat' constructor),⟨⟨_,rfl,.same⟩,⟨_,rfl,.boxL rfl ⟨.same rfl,G⟩⟩,G⟩,rfl⟩))))))))
 ·
  have h:=app1 hkx26 (Ht hi26 (H9 hb))
  refine Hd ?_
  obtain rfl:=Option.some.inj h
  exact⟨[],[(1041,.box 40 [OW 1042 6 Move.av s26]),(1042,.spare 69 6 s26.length s26.length)],⟨⟨_,O,.boxL O ⟨.same O,G⟩⟩,⟨_,O,.same⟩,G⟩,O,G,O,O⟩

def G17 (a:G6) (b:G6):Option Int:=
 bnd (Qj b.Slot.Tier a.Slot.Tier) fun r3=>
 some r3
theorem Hf3 (a:G6) (b:G6) (r:Int) (h:G17 a b=some r):Pure En 93 [.agg (G6.cs a),.agg (G6.cs b)] (·=G0 r):=by
 unfold G17 at h
 refine H0 [.tmp 4] Tryz.func93 O O (Jr fun hK1=>(JLh (.ptr 1137 0) (Jq (cs:=[G0 a.H2,G0 a.Slot.G4,G0 a.Slot.Tier,U8 a.Slot.Half]) 1137 O O O O O) O (JLh (.ptr 1138 0) (Jq (cs:=[G0 b.H2,G0 b.Slot.G4,G0 b.Slot.Tier,U8 b.Slot.Half]) 1138 O O O O O) O (JLm (G0 0) O (G8 (hK1 (Gx [(2,Ee a),(3,.ptr 1138 0)] [(1138,.box 62 [G0 b.H2,G0 b.Slot.G4,G0 b.Slot.Tier,U8 b.Slot.Half])] 1137 rfl rfl rfl ⟨⟨_,rfl,.boxEq rfl rfl⟩,G⟩ rfl (by exact⟨.ptr,.conv (.same rfl),G⟩) (Gx [(2,Ee a),(3,Ee b)] [] 1138 rfl rfl rfl G rfl (by exact⟨.conv (.same rfl),.ptr,G⟩) ?_))))))))
 refine Jr fun hK2=>(JLh (.dptr ((G6.cs b).drop 1)) (Ga Hg O O O) O (JLh (.dptr [G0 b.Slot.Tier,U8 b.Slot.Half]) (Ga J9 O O O) O (JLh (G0 b.Slot.Tier) (Gh Gc O O O) O (JLh (.dptr ((G6.cs a).drop 1)) (Ga Hg O O O) O (JLh (.dptr [G0 a.Slot.Tier,U8 a.Slot.Half]) (Ga J9 O O O) O (JLh (G0 a.Slot.Tier) (Gh Gc O O O) O ?_))))))
 obtain⟨r3,hr3,h⟩:=Gf h
 refine JLh (G0 r3) (Gq O (Z5 b.Slot.Tier a.Slot.Tier r3 hr3) Gdc ⟨O,O,O,O,G⟩) O (JLm (G0 r3) O (G8 (hK2 (Gt (fin1 G0 h)))))

def Y9 (F:Nat) (data:List Int) (a:Int) (b:Int) (cmp:Int→Int→Option Int):Option (List Int):=
 Yn (a+1) fun v2=>
 loop (fun nx3 (s3:Int×(List Int))=>
  bif decide (s3.1 < b) then
  (loop (fun nx58 (s58:Int×(List Int))=>
    bnd (bif decide (a < s58.1) then Jc s58.2 s58.1 some else some default) fun y61=>
    bnd (bif decide (a < s58.1) then Yn (s58.1 - 1) some else some 0) fun v62=>
    bnd (bif decide (a < s58.1) then Jc s58.2 v62 some else some default) fun y63=>
    bnd (bif decide (a < s58.1) then cmp y61 y63 else some default) fun r64=>
    bif ((decide (a < s58.1))&&(decide (r64 < 0))) then
    (Yn (s58.1 - 1) fun v66=>
     Yn (s58.1 - 1) fun v67=>
     Jc s58.2 v67 fun y68=>
     Jc s58.2 s58.1 fun y69=>
     Jc s58.2 s58.1 fun y70=>
     Jc (s58.2.set s58.1.toNat y68) v66 fun y71=>
     Yn (s58.1 - 1) fun v72=>
     nx58 (v72,((s58.2.set s58.1.toNat y68).set v66.toNat y69)))
    else
    (Yn (s3.1+1) fun v73=>
     nx3 (v73,s58.2))) F (s3.1,s3.2))
  else
  (some s3.2)) F (v2,data)
theorem G73 (F:Nat) (data:List Int) (data_q:Nat) (a:Int) (b:Int) (cmp:Int→Int→Option Int) (cmp_f:FuncId) (cmp_c:List AV) (cmp_B:Hb En cmp_f=true) (cmp_d:Zt (fun _=>false) cmp_c=true) (cmp_w:∀ a0 a1 q,cmp a0 a1=some q→Pure En cmp_f ([G0 a0,G0 a1]++cmp_c) (·=G0 q)) (r:(List Int)) (h:Y9 F data a b cmp=some r):Rn En 196 [.vec 1099 data_q 1 data.length,G0 a,G0 b,.fn cmp_f cmp_c] [(1099,.vec 3 1 data_q (data.map G0))] (fun av L'=>av=.tup []∧L'=[(1099,.vec 3 1 data_q (r.map G0))]):=by
 unfold Y9 at h
 refine Z6 [1099] [] Tryz.func196 O O (H3b O) (Jr fun hK1=>(JLm (G0 a) O ?_))
 obtain⟨v2,hv2,h⟩:=Jh h
 refine JLh (G0 v2) (Hx hv2 O O O) O (JLm (G0 v2) O (G8 (hK1 (Gk ?_))))
 obtain⟨b3,hb3,h⟩:=Gd6 h
 refine H6 (fun i3 (s3:Int×(List Int))=>loop b3 i3 s3=some r) (fun i3 s3=>[(0,.vec 1099 data_q 1 data.length),(1,G0 a),(2,G0 b),(3,.fn cmp_f cmp_c),(8,G0 s3.1)]) (fun i3 s3=>[(1099,.vec 3 1 data_q (s3.2.map G0))]) (fun i3=>i3) F (v2,data) h ⟨⟨.same O,.same O,.same O,.same (Jf _ _ cmp_d),.same O,G⟩,⟨⟨_,O,.vec⟩,G⟩,O⟩ ?_
 clear h
 intro i3 s3 hi3 K3 e3
 obtain⟨m3,nx3,hm_3,hn3,h⟩:=G85 hi3
 replace h:=Jed hb3 h
 refine Js fun hK4=>Jr fun hK5=>(JLm (G0 s3.1) O (JLm (G0 b) O (JLh (BL (decide (s3.1 < b))) (Hy O O O) O (G8 (hK5 (JCc O h (fun h hb=>?_) (fun h hb=>?_)))))))
 ·
  refine Gm (hK4 (Js fun hK6=>Gk (Jr fun hK7=>(JLm (G0 s3.1) O (JLm (G0 s3.1) O (G8 (hK7 (Gk ?_))))))))
  obtain⟨b58,hb58,h⟩:=Gd6 h
  refine H6 (fun i58 (s58:Int×(List Int))=>loop b58 i58 s58=some r) (fun i58 s58=>[(0,.vec 1099 data_q 1 data.length),(1,G0 a),(2,G0 b),(3,.fn cmp_f cmp_c),(8,G0 s3.1),(9,G0 s58.1)]) (fun i58 s58=>[(1099,.vec 3 1 data_q (s58.2.map G0))]) (fun i58=>i58) F (s3.1,s3.2) h ⟨⟨.same O,.same O,.same O,.same (Jf _ _ cmp_d),.same O,.same O,G⟩,⟨⟨_,O,.vec⟩,G⟩,O⟩ ?_
  clear h
  intro i58 s58 hi58 K58 e58
  obtain⟨m58,nx58,hm_58,hn58,h⟩:=G85 hi58
  replace h:=Jed hb58 h
  refine Js fun hK59=>Js fun hK60=>G9c (l':=[(0,.vec 1099 data_q 1 data.length),(1,G0 a),(2,G0 b),(3,.fn cmp_f cmp_c),(8,G0 s3.1),(9,G0 s58.1)]) (L':=[(1099,.vec 3 1 data_q (s58.2.map G0))]) ⟨⟨.same O,.same O,.same O,.same (Jf _ _ cmp_d),.same O,.same O,G⟩,⟨⟨_,O,.vec⟩,G⟩,O⟩ ?_
  obtain⟨y61,hy61,h⟩:=Gf h
  obtain⟨v62,hv62,h⟩:=Gf h
  obtain⟨y63,hy63,h⟩:=Gf h
  obtain⟨r64,hr64,h⟩:=Gf h
  refine JC_d0 Jb (by kernel_rfl) (Dq (G0 s58.1) (G5 O O) O (Dq (G0 a) (G5 O O) O (Dq (BL (decide (a < s58.1))) (G4d O O O) O (Dq (BL (decide (a < s58.1))) (G5 O O) O (Do (.fn cmp_f cmp_c) [] O .sct G (fun hc=>G5 O O) O (Do (.vec 1099 data_q 1 data.length) [] O .sct G (fun hc=>G5 O O) O (Do (G0 s58.1) [] O .sct G (fun hc=>G5 O O) O (Do (.vptr 1099 data_q s58.1.toNat 0) [23,24] O .sct ⟨Ua,Ua,G⟩ (fun hc=>G2c (f:=G0) (xs:=s58.2) (y:=y61) O O O O H4 (G0c (Gv hc hy61)) (Gdd (Gv hc hy61))) O (Do (G0 y61) [25] O .sct ⟨Ua,G⟩ (fun hc=>Gad (f:=G0) (xs:=s58.2) (y:=y61) Gc O O O (G0c (Gv hc hy61)) O O) O (Do (.vec 1099 data_q 1 data.length) [] O .sct G (fun hc=>G5 O O) O (Do (G0 s58.1) [] O .sct G (fun hc=>G5 O O) O (Do (G0 v62) [28] O .sct ⟨Ua,G⟩ (fun hc=>G6d (G1c (Gv hc hv62)) O O O) O (Do (.vptr 1099 data_q v62.toNat 0) [27,29] O .sct ⟨Ua,Ua,G⟩ (fun hc=>G2c (f:=G0) (xs:=s58.2) (y:=y63) O O O O H4 (G0c (Gv hc hy63)) (Gdd (Gv hc hy63))) O ?_)))))))))))))
  refine Do (G0 y63) [30] O .sct ⟨Ua,G⟩ (fun hc=>Gad (f:=G0) (xs:=s58.2) (y:=y63) Gc O O O (G0c (Gv hc hy63)) O O) O (Do (G0 r64) [22,26,31] O .sct ⟨Ua,Ua,Ua,G⟩ (fun hc=>Gaf (args:=[G0 y61,G0 y63]) (caps:=cmp_c) O O (cmp_w y61 y63 _ (Gv hc hr64)) cmp_B ⟨O,O,O,O,G⟩ cmp_d) O (Do (BL (decide (r64 < 0))) [32] O .sct ⟨Ua,G⟩ (fun hc=>Hy O O O) O (Dq (BL ((decide (a < s58.1))&&(decide (r64 < 0)))) (J3 O O O O) O (Dnil (hK60 (JCc O h (fun h hb=>?_) (fun h hb=>?_)))))))
  ·
   refine Gm (hK59 (Js fun hK65=>Gk (G9c (l':=[(0,.vec 1099 data_q 1 data.length),(1,G0 a),(2,G0 b),(3,.fn cmp_f cmp_c),(8,G0 s3.1),(9,G0 s58.1)]) (L':=[(1099,.vec 3 1 data_q (s58.2.map G0))]) ⟨⟨.same O,.same O,.same O,.same (Jf _ _ cmp_d),.same O,.same O,G⟩,⟨⟨_,O,.vec⟩,G⟩,O⟩ ?_)))
   obtain⟨v66,hv66,h⟩:=Jh h
   obtain⟨v67,hv67,h⟩:=Jh h
   obtain⟨y68,hmy68,hy68,h⟩:=G3a h
   obtain⟨y69,hmy69,hy69,h⟩:=G3a h
   obtain⟨y70,hmy70,hy70,h⟩:=G3a h
   obtain⟨y71,hmy71,hy71,h⟩:=G3a h
   refine Jt [15,17] [0,0,0,0,0,0,0,0,0,0,0,0,0,0,0,0,1,0] [0,0,1,1,1,0,0,0,0,0,0,0,0,0,0,0,1,0] [[(1099,.vec 3 1 data_q (s58.2.map G0))],((1099,.vec 3 1 data_q ((s58.2.set s58.1.toNat y68).map G0))::[(1099,.vec 3 1 data_q (s58.2.map G0))]),((1099,.vec 3 1 data_q (((s58.2.set s58.1.toNat y68).set v66.toNat y69).map G0))::((1099,.vec 3 1 data_q ((s58.2.set s58.1.toNat y68).map G0))::[(1099,.vec 3 1 data_q (s58.2.map G0))]))] Jb (by kernel_rfl) rfl rfl ?_
   refine Gd (u:=.vec 1099 data_q 1 data.length) O O ⟨Gr (G5 O O) O,G⟩ (Gd (u:=G0 s58.1) O O ⟨Gr (G5 O O) O,G⟩ (Gd (u:=.vec 1099 data_q 1 data.length) O O ⟨Gr (G5 O O) O,Gr (G5 O O) O,G⟩ (Gd (u:=G0 s58.1) O O ⟨Gr (G5 O O) O,Gr (G5 O O) O,G⟩ (Gd (u:=G0 v66) O O ⟨Gr (G6d hv66 O O O) O,Gr (G6d hv66 O O O) O,G⟩ (Gd (u:=.vec 1099 data_q 1 data.length) O O ⟨Gr (G5 O O) O,G⟩ (Gd (u:=G0 s58.1) O O ⟨Gr (G5 O O) O,G⟩ (Gd (u:=G0 v67) O O ⟨Gr (G6d hv67 O O O) O,G⟩ (Gd (u:=.vptr 1099 data_q v67.toNat 0) O O ⟨Gr (G2c (f:=G0) (xs:=s58.2) (y:=y68) O O O O H4 hy68 hmy68) O,G⟩ (Gd (u:=G0 y68) O O ⟨Gr (Gad (f:=G0) (xs:=s58.2) (y:=y68) Gc O O O hy68 O O) O,G⟩ (Gd (u:=.vec 1099 data_q 1 data.length) O O ⟨Gr (G5 O O) O,G⟩ (Gd (u:=G0 s58.1) O O ⟨Gr (G5 O O) O,G⟩ (Gd (u:=.vptr 1099 data_q s58.1.toNat 0) O O ⟨Gr (G2c (f:=G0) (xs:=s58.2) (y:=y69) O O O O H4 hy69 hmy69) O,G⟩ (Gd (u:=G0 y69) O O ⟨Gr (Gad (f:=G0) (xs:=s58.2) (y:=y69) Gc O O O hy69 O O) O,G⟩ ?_)))))))))))))
   refine Gd (u:=.vptr 1099 data_q s58.1.toNat 0) O O ⟨Gr (G2c (f:=G0) (xs:=s58.2) (y:=y70) O O O O H4 hy70 hmy70) O,G⟩ (Q7e (u:=.junk) O O O O (Gr (Hc5 (f:=G0) (xs:=s58.2) (z:=y68) G6f O O O O (List.getElem?_eq_some_iff.1 hy70).1 O O O O) O) (Gd (u:=.vptr 1099 data_q v66.toNat 0) O O ⟨Gr (G2c (f:=G0) (xs:=(s58.2.set s58.1.toNat y68)) (y:=y71) O O O O H4 hy71 hmy71) O,G⟩ (Q7e (u:=.junk) O O O O (Gr (Hc5 (f:=G0) (xs:=(s58.2.set s58.1.toNat y68)) (z:=y69) G6f O O O O (List.getElem?_eq_some_iff.1 hy71).1 O O O O) O) (Ru (hK65 (G2 (JLm (G0 s58.1) O ?_)))))))
   obtain⟨v72,hv72,h⟩:=Jh h
   refine JLh (G0 v72) (G6d hv72 O O O) O (JLm (G0 v72) O (G8 (e58 _ _ m58 (v72,((s58.2.set s58.1.toNat y68).set v66.toNat y69)) (app1 hn58 h) (by omega) ⟨⟨.same rfl,.same rfl,.same rfl,.same (Jf _ _ cmp_d),.same rfl,.same rfl,G⟩,⟨⟨_,rfl,.vec⟩,G⟩,rfl⟩)))
  ·
   refine Hd (hK6 (G2 (JLm (G0 s3.1) O ?_)))
   obtain⟨v73,hv73,h⟩:=Jh h
   refine JLh (G0 v73) (Hx hv73 O O O) O (JLm (G0 v73) O (G8 (e3 _ _ m3 (v73,s58.2) (app1 hn3 h) (by omega) ⟨⟨.same rfl,.same rfl,.same rfl,.same (Jf _ _ cmp_d),.same rfl,G⟩,⟨⟨_,rfl,.vec⟩,G⟩,rfl⟩)))
 ·
  refine Hd ?_
  obtain rfl:=Option.some.inj h
  exact⟨[],[(1099,.vec 3 1 data_q (s3.2.map G0))],⟨⟨_,O,.vec⟩,G⟩,O,G,O,O⟩

def G05 (F:Nat) (data:List Int) (a:Int) (b:Int) (limit:Int) (cmp:Int→Int→Option Int):Option (List Int):=
 loop (fun nx23 (s23:Int×Int×Int×Bool×Bool)=>
  Yn (s23.2.1 - s23.1) fun v25=>
  bif decide (v25≤12) then
  (bnd (Y9 F data s23.1 s23.2.1 cmp) fun r29=>
   some r29)
  else
  (bif decide (s23.2.2.1=0) then
   (none)
   else
   (bif (!s23.2.2.2.1) then
    (none)
    else
    (none)))) F (a,b,limit,true,true)
theorem Gab (F:Nat) (data:List Int) (data_q:Nat) (a:Int) (b:Int) (limit:Int) (cmp:Int→Int→Option Int) (cmp_f:FuncId) (cmp_c:List AV) (cmp_B:Hb En cmp_f=true) (cmp_d:Zt (fun _=>false) cmp_c=true) (cmp_w:∀ a0 a1 q,cmp a0 a1=some q→Pure En cmp_f ([G0 a0,G0 a1]++cmp_c) (·=G0 q)) (r:(List Int)) (h:G05 F data a b limit cmp=some r):Rn En 179 [.vec 1099 data_q 1 data.length,G0 a,G0 b,G0 limit,.fn cmp_f cmp_c] [(1099,.vec 3 1 data_q (data.map G0))] (fun av L'=>av=.tup []∧L'=[(1099,.vec 3 1 data_q (r.map G0))]):=by
 unfold G05 at h
 refine Z6 [1099] [] Tryz.func179 O O (H3b O) (Jr fun hK1=>(JLm (BL true) O (G8 (hK1 (Jr fun hK2=>(JLm (BL true) O (G8 (hK2 (Gk ?_)))))))))
 obtain⟨b23,hb23,h⟩:=Gd6 h
 refine H6 (fun i23 (s23:Int×Int×Int×Bool×Bool)=>loop b23 i23 s23=some r) (fun i23 s23=>[(0,.vec 1099 data_q 1 data.length),(1,G0 s23.1),(2,G0 s23.2.1),(3,G0 s23.2.2.1),(4,.fn cmp_f cmp_c),(10,BL s23.2.2.2.1),(11,BL s23.2.2.2.2)]) (fun i23 s23=>[(1099,.vec 3 1 data_q (data.map G0))]) (fun i23=>i23) F (a,b,limit,true,true) h ⟨⟨.same O,.same O,.same O,.same O,.same (Jf _ _ cmp_d),.same O,.same O,G⟩,⟨⟨_,O,.vec⟩,G⟩,O⟩ ?_
 clear h
 intro i23 s23 hi23 K23 e23
 obtain⟨m23,nx23,hm_23,hn23,h⟩:=G85 hi23
 replace h:=Jed hb23 h
 refine Gk (Jr fun hK24=>(JLm (G0 s23.2.1) O (JLm (G0 s23.1) O ?_)))
 obtain⟨v25,hv25,h⟩:=Jh h
 refine JLh (G0 v25) (G6d hv25 O O O) O (JLm (G0 v25) O (G8 (hK24 (Js fun hK26=>Jr fun hK27=>(JLm (G0 v25) O (JLh (BL (decide (v25≤12))) (H97 O O O) O (G8 (hK27 (JCc O h (fun h hb=>?_) (fun h hb=>?_))))))))))
 ·
  refine Jr fun hK28=>(JLm (.vec 1099 data_q 1 data.length) O (JLm (G0 s23.1) O (JLm (G0 s23.2.1) O (JLm (.fn cmp_f cmp_c) O ?_))))
  obtain⟨r29,hr29,h⟩:=Gf h
  refine JLh (.tup []) (H1f (args:=[.vec 1099 data_q 1 data.length,G0 s23.1,G0 s23.2.1,.fn cmp_f cmp_c]) (L0:=[(1099,.vec 3 1 data_q (data.map G0))]) (Lr:=[(1099,.vec 3 1 data_q (r29.map G0))]) O (G73 F data data_q s23.1 s23.2.1 cmp cmp_f cmp_c cmp_B cmp_d cmp_w r29 hr29) Q8c ⟨.inl O,O,.inl O,O,.inl O,O,.inl O,(Jf _ _ cmp_d),G⟩ ⟨O,G⟩ O O O) O (G8 (hK28 (Gt ?_)))
  obtain rfl:=Option.some.inj h
  exact⟨[],[(1099,.vec 3 1 data_q (r29.map G0))],⟨⟨_,O,.vec⟩,G⟩,O,G,O,O⟩
 ·
  refine Gm (hK26 (Js fun hK30=>Jr fun hK31=>(JLm (G0 s23.2.2.1) O (JLh (BL (decide (s23.2.2.1=0))) (Jk O O O) O (G8 (hK31 (JCc O h (fun h hb=>?_) (fun h hb=>?_))))))))
  ·
   refine Js fun hK32=>?_
   cases h
  ·
   refine Gm (hK30 (Js fun hK33=>Jr fun hK34=>(JLm (BL s23.2.2.2.1) O (JLh (BL (!s23.2.2.2.1)) (R9 (b:=s23.2.2.2.1) O O) O (G8 (hK34 (JCc O h (fun h hb=>?_) (fun h hb=>?_))))))))
   ·
    refine Js fun hK35=>?_
    cases h
   ·
    refine Gm (hK33 (Js fun hK36=>?_))
    cases h

def G21 (F:Nat) (x:List Int) (cmp:Int→Int→Option Int):Option (List Int):=
 bnd (G8b (IntKind.u64.wrap (x.length:Int))) fun r2=>
 bnd (G05 F x 0 (x.length:Int) r2 cmp) fun r3=>
 some r3
theorem Gfc (F:Nat) (x:List Int) (x_q:Nat) (cmp:Int→Int→Option Int) (cmp_f:FuncId) (cmp_c:List AV) (cmp_B:Hb En cmp_f=true) (cmp_d:Zt (fun _=>false) cmp_c=true) (cmp_w:∀ a0 a1 q,cmp a0 a1=some q→Pure En cmp_f ([G0 a0,G0 a1]++cmp_c) (·=G0 q)) (r:(List Int)) (h:G21 F x cmp=some r):Rn En 144 [.vec 1099 x_q 1 x.length,.fn cmp_f cmp_c] [(1099,.vec 3 1 x_q (x.map G0))] (fun av L'=>av=.tup []∧L'=[(1099,.vec 3 1 x_q (r.map G0))]):=by
 unfold G21 at h
 refine Z6 [1099] [] Tryz.func144 O O (H3b O) (Jr fun hK1=>(JLm (.vec 1099 x_q 1 x.length) O (Qb6 (f:=G0) (xs:=x) H4 O O O (fun hm6=>?_) O O O)))
 refine JLm (Em x.length) O (G8 (hK1 (G2 (JLm (.vec 1099 x_q 1 x.length) O (JLm (Em x.length) O (JLm (Em x.length) O (JLh (.sc (.int .u64 (IntKind.u64.wrap (x.length:Int)))) (Jba Qca J76 O O O) O ?_)))))))
 obtain⟨r2,hr2,h⟩:=Gf h
 refine JLh (G0 r2) (Gq O (J97 (IntKind.u64.wrap (x.length:Int)) r2 hr2) Qa3 ⟨O,O,G⟩) O (JLm (.fn cmp_f cmp_c) O ?_)
 obtain⟨r3,hr3,h⟩:=Gf h
 refine JLh (.tup []) (H1f (args:=[.vec 1099 x_q 1 x.length,G0 0,Em x.length,G0 r2,.fn cmp_f cmp_c]) (L0:=[(1099,.vec 3 1 x_q (x.map G0))]) (Lr:=[(1099,.vec 3 1 x_q (r3.map G0))]) O (Gab F x x_q 0 (x.length:Int) r2 cmp cmp_f cmp_c cmp_B cmp_d cmp_w r3 hr3) Q8d ⟨.inl O,O,.inl O,O,.inl O,O,.inl O,O,.inl O,(Jf _ _ cmp_d),G⟩ ⟨O,G⟩ O O O) O (G8 ?_)
 obtain rfl:=Option.some.inj h
 exact⟨[],[(1099,.vec 3 1 x_q (r3.map G0))],⟨⟨_,O,.vec⟩,G⟩,O,G,O,O⟩

def G54 (F:Nat) (l:List Int) (compare:Int→Int→Option Int):Option (List Int):=
 bnd (G21 F l compare) fun r3=>
 some r3
theorem H2d (F:Nat) (l:List Int) (l_q:Nat) (compare:Int→Int→Option Int) (compare_f:FuncId) (compare_c:List AV) (compare_B:Hb En compare_f=true) (compare_d:Zt (fun _=>false) compare_c=true) (compare_w:∀ a0 a1 q,compare a0 a1=some q→Pure En compare_f ([G0 a0,G0 a1]++compare_c) (·=G0 q)) (r:(List Int)) (h:G54 F l compare=some r):Rn En 98 [.vec 1099 l_q 1 l.length,.fn compare_f compare_c] [(1099,.vec 3 1 l_q (l.map G0))] (fun av L'=>∃ p:Nat,av=.vec 1099 p 1 r.length∧L'=[(1099,.vec 3 1 p (r.map G0))]):=by
 unfold G54 at h
 refine Z6 [1099] [.tmp 4] Tryz.func98 O O (H3b O) (Jr fun hK1=>(JLh (.vec 1144 (([]:List Int).length) 1 (([]:List Int).length)) (Hac 1144 3 1 O O O) O (G8 (hK1 (Jr fun hK2=>(JLm (.vec 1099 l_q 1 l.length) O (JLm (.fn compare_f compare_c) O ?_)))))))
 obtain⟨r3,hr3,h⟩:=Gf h
 refine JLh (.tup []) (H1f (args:=[.vec 1099 l_q 1 l.length,.fn compare_f compare_c]) (L0:=[(1099,.vec 3 1 l_q (l.map G0))]) (Lr:=[(1099,.vec 3 1 l_q (r3.map G0))]) O (Gfc F l l_q compare compare_f compare_c compare_B compare_d compare_w r3 hr3) Q94 ⟨.inl O,O,.inl O,(Jf _ _ compare_d),G⟩ ⟨O,G⟩ O O O) O (G8 (hK2 (Jr fun hK4=>(JLm (.vec 1099 l_q 1 l.length) O (JLm (.vec 1099 l_q 1 l.length) O (G8 (hK4 (J98 4 O O (fun hn_=>Gt ?_)))))))))
 obtain rfl:=Option.some.inj h
 exact⟨[.vec 1099 l_q 1 l.length],[(1099,.vec 3 1 l_q (r3.map G0))],⟨⟨_,O,.vec⟩,G⟩,O,⟨⟨_,O,.conv (.same O)⟩,G⟩,l_q,congrArg (fun n_:Nat=>(.vec 1099 l_q 1 n_:AV)) (hn_.trans (List.length_map _)),O⟩

def G55 (F:Nat) (s:H8) (before:List G6) (after:List G6) (lifted:List Int) (bay:Int):Option (List Int):=
 each (fun y5 i5 (s5:(List Int)) nx5=>
  bnd (G45 s y5 lifted bay false) fun r11=>
  each (fun y52 i52 (s52:(List Int)) nx52=>
   jp (fun kj55=>
    bnd (G33 s y52.Slot.G4) fun r58=>
    bnd (bif decide (0≤r58) then Zd s52 r58 else some default) fun r60=>
    bif ((decide (0≤r58))&&(!r60)) then
    (need (decide ((s52.length+[r58].length)*8≤140737488355328∧s52.length+[r58].length≤maxLen)) <|
     kj55 (s52++[r58]))
    else
    (kj55 s52)) fun(j55:(List Int))=>
   nx52 j55)
  (fun(s52:(List Int))=>
   nx5 s52) r11 0 s5)
 (fun(s5:(List Int))=>
  bnd (G54 F s5 (fun z0 z1=>Qj z0 z1)) fun r63=>
  some r63) [before,after] 0 []
theorem Hc1 (F:Nat) (s:H8) (before:List G6) (after:List G6) (lifted:List Int) (bay:Int) (r:(List Int)) (h:G55 F s before after lifted bay=some r):Pure En 58 [.agg (H8.cs s),E0 before,E0 after,E1 lifted,G0 bay] (·=E1 r):=by
 unfold G55 at h
 refine H0 [.tmp 10] Tryz.func58 O O (Jr fun hK1=>(JLh (.ptr 1098 0) (Jq (cs:=(H8.cs s)) 1098 O O O O O) O (JLh (E1 ([]:List Int)) (Q2 1 O O) O (G8 (hK1 ?_)))))
 refine Gx [(1,E0 before),(2,E0 after),(3,E1 lifted),(4,G0 bay),(5,Ed s)] [] 1098 rfl rfl rfl G rfl (by repeat' (first | exact .ptr | constructor)) (Jr fun hK2=>(JLh (.vec 1099 (([]:List Int).length) 1 (([]:List Int).length)) (Hac 1099 3 1 O O O) O (G8 (hK2 (Js fun hK3=>?_)))))
 refine Jr fun hK4=>(JLm (E0 before) O (JLm (E0 after) O (JLh (LS 1 (E0) [before,after]) (Hv (xs:=[E0 before,E0 after]) O ⟨O,O,O,O,G⟩ G24 Jbc O O O O) O (JLl G24 O O O fun hm20=>(JLm (G0 0) O (G8 (hK4 (Gk ?_))))))))
 obtain⟨b5,kx5,hb5,hkx5,h⟩:=J4 h
 refine H6 (fun i5 (s5:(List Int))=>each b5 kx5 (List.drop i5 [before,after]) i5 s5=some r) (fun i5 s5=>[(3,E1 lifted),(4,G0 bay),(5,Ed s),(11,.vec 1099 s5.length 1 s5.length),(19,LS 1 (E0) [before,after]),(20,G0 ([before,after].length:Int)),(21,Em i5)]) (fun i5 s5=>[(1099,.vec 3 1 s5.length (s5.map G0))]) (fun i5=>[before,after].length - i5) 0 [] h ⟨(by repeat' constructor),⟨⟨_,rfl,.vec⟩,G⟩,rfl⟩ ?_
 clear h
 intro i5 s5 hi5 K5 e5
 refine Jr fun hK6=>(JLh (BL (decide ((i5:Int) < ([before,after].length:Int)))) (Hy O O O) O (G8 (hK6 (Js fun hK7=>Gj O (fun hb=>?_) (fun hb=>?_)))))
 ·
  have hk5:=Je hb
  obtain⟨y5,nx5,hy5,hn5,h⟩:=Hs hi5 hk5
  replace h:=Y8 hb5 h
  refine Gm (hK7 (Js fun hK8=>Gk (Jr fun hK9=>(JLh (.dptr [E0 y5]) (Gs (f:=(E0)) (xs:=[before,after]) (y:=y5) O O O G24 hy5 O) O (JLh (E0 y5) (Gh H3f O O O) O (JLm (E0 y5) O (G8 (hK9 (Jr fun hK10=>(JLh (.agg (H8.cs s)) (Gi J1 O O O) O (JLm (E0 y5) O (JLm (E1 lifted) O (JLm (G0 bay) O ?_)))))))))))))
  obtain⟨r11,hr11,h⟩:=Gf h
  refine JLh (E0 r11) (Gq O (H66.down s y5 lifted bay false r11 hr11) H53 ⟨O,O,O,O,O,O,O,O,O,O,G⟩) O (JLl Gz O O O fun hm30=>(JLm (G0 0) O (G8 (hK10 (Gk ?_)))))
  obtain⟨b52,kx52,hb52,hkx52,h⟩:=J4 h
  refine H6 (fun i52 (s52:(List Int))=>each b52 kx52 (List.drop i52 r11) i52 s52=some r) (fun i52 s52=>[(3,E1 lifted),(4,G0 bay),(5,Ed s),(11,.vec 1099 s52.length 1 s52.length),(19,LS 1 (E0) [before,after]),(20,G0 ([before,after].length:Int)),(21,Em i5),(29,E0 r11),(30,Em r11.length),(31,Em i52)]) (fun i52 s52=>[(1099,.vec 3 1 s52.length (s52.map G0))]) (fun i52=>r11.length - i52) 0 s5 h ⟨(by repeat' constructor),⟨⟨_,rfl,.vec⟩,G⟩,rfl⟩ ?_
  clear h
  intro i52 s52 hi52 K52 e52
  refine Jr fun hK53=>(JLh (BL (decide ((i52:Int) < (r11.length:Int)))) (Hy O O O) O (G8 (hK53 (Js fun hK54=>Gj O (fun hb=>?_) (fun hb=>?_)))))
  ·
   have hk52:=Je hb
   obtain⟨y52,nx52,hy52,hn52,h⟩:=Hs hi52 hk52
   replace h:=Y8 hb52 h
   refine Gm (hK54 ?_)
   obtain⟨kj55,hkj55,h⟩:=Zf h
   refine Rt (fun j55:(List Int)=>kj55 j55=some r) (fun j55=>[(3,E1 lifted),(4,G0 bay),(5,Ed s),(11,.vec 1099 j55.length 1 j55.length),(19,LS 1 (E0) [before,after]),(20,G0 ([before,after].length:Int)),(21,Em i5),(29,E0 r11),(30,Em r11.length),(31,Em i52)]) (fun j55=>[(1099,.vec 3 1 j55.length (j55.map G0))]) (fun Kj55 ej55=>?_) ?_
   ·
    refine Gk (Jr fun hK56=>(JLh (Ee y52) (Gs (f:=G6.av) (xs:=r11) (y:=y52) O O O Gz hy52 O) O (JLh (.agg (G6.cs y52)) (Gi Qv O O O) O (JLh (.ptr 1100 0) (Ju 1100 4 Rv O O) O (Ja (u:=.junk) (J0 (u:=.agg (G6.cs y52)) (ds:=[G0 y52.H2,G0 y52.Slot.G4,G0 y52.Slot.Tier,U8 y52.Slot.Half]) Z4 O O O O O O O O) (G8 (hK56 ?_)))))))
    refine Gx [(3,E1 lifted),(4,G0 bay),(5,Ed s),(11,.vec 1099 s52.length 1 s52.length),(15,Ee y52),(19,LS 1 (E0) [before,after]),(20,G0 ([before,after].length:Int)),(21,Em i5),(29,E0 r11),(30,Em r11.length),(31,Em i52)] [(1099,.vec 3 1 s52.length (s52.map G0))] 1100 rfl rfl rfl ⟨⟨_,rfl,.vec⟩,G⟩ rfl (by repeat' (first | exact .ptr | constructor)) ?_
    refine Jr fun hK57=>(JLh (.agg (H8.cs s)) (Gi J1 O O O) O (JLh (.dptr ((G6.cs y52).drop 1)) (Ga Hg O O O) O (JLh (.dptr ((G6.cs y52).drop 1)) (Ga Hk O O O) O (JLh (G0 y52.Slot.G4) (Gh Gc O O O) O ?_))))
    obtain⟨r58,hr58,h⟩:=Gf h
    refine JLh (G0 r58) (Gq O (H13 s y52.Slot.G4 r58 hr58) J58 ⟨O,O,O,O,G⟩) O (JLm (G0 r58) O (G8 (hK57 (Jr fun hK59=>(JLm (G0 r58) O (JLh (BL (decide (0≤r58))) (G06 O O O) O (JLm (BL (decide (0≤r58))) O (JLo (.vec 1099 s52.length 1 s52.length) [] O .sct G (fun hc=>G5 O O) O (JLo (G0 r58) [] O .sct G (fun hc=>G5 O O) O ?_)))))))))
    obtain⟨r60,hr60,h⟩:=Gf h
    refine JLo (BL r60) [43,44] O .sct ⟨Ua,Ua,G⟩ (fun hc=>A_callLend (args:=[E1 s52,G0 r58]) O (G75 s52 r58 r60 (Gv hc hr60)) J57 ⟨.vec O,.data O O,G⟩ O) O (JLo (BL (!r60)) [45] O .sct ⟨Ua,G⟩ (fun hc=>R9 (b:=r60) O O) O (JLh (BL ((decide (0≤r58))&&(!r60))) (J3 O O O O) O (G8 (hK59 (JCc O h (fun h hb=>?_) (fun h hb=>?_))))))
    ·
     refine G2 (JLm (.vec 1099 s52.length 1 s52.length) O (JLm (G0 r58) O (JLh (E1 [r58]) (Hv (xs:=[G0 r58]) O ⟨O,O,G⟩ H4 G67 O O O O) O ?_)))
     obtain⟨ha61,h⟩:=Hz h
     refine JLh (.vec 1099 ((s52++[r58]).length) 1 ((s52++[r58]).length)) (H15 (f:=G0) (xs:=s52) (ys:=[r58]) (ver:=s52.length) (ver1:=(s52++[r58]).length) rfl rfl rfl rfl H4 Ge0 ha61 (fun _=>rfl) (.inl rfl) (by simp)) O (JLm (.vec 1099 ((s52++[r58]).length) 1 ((s52++[r58]).length)) O (G8 (ej55 _ _ (s52++[r58]) h ⟨(by repeat' constructor),⟨⟨_,rfl,.vec⟩,G⟩,rfl⟩)))
    ·
     refine Gm (ej55 _ _ s52 h ⟨(by repeat' constructor),⟨⟨_,rfl,.vec⟩,G⟩,rfl⟩)
   ·intro j55 h
    replace h:=app1 hkj55 h
    refine G2 (JLh (G0 ((i52+1:Nat):Int)) (Hx (Hc hk52 hm30) O O O) O (JLm (G0 ((i52+1:Nat):Int)) O (G8 (e52 _ _ (i52+1) j55 (app1 hn52 h) (by omega) ⟨(by repeat' constructor),⟨⟨_,rfl,.vec⟩,G⟩,rfl⟩))))
  ·
   have h:=app1 hkx52 (Ht hi52 (H9 hb))
   refine Hd (hK8 (G2 (JLh (G0 ((i5+1:Nat):Int)) (Hx (Hc hk5 hm20) O O O) O (JLm (G0 ((i5+1:Nat):Int)) O (G8 (e5 _ _ (i5+1) s52 (app1 hn5 h) (by omega) ⟨(by repeat' constructor),⟨⟨_,rfl,.vec⟩,G⟩,rfl⟩))))))
 ·
  have h:=app1 hkx5 (Ht hi5 (H9 hb))
  refine Hd (hK3 (Jr fun hK62=>(JLm (.vec 1099 s5.length 1 s5.length) O ?_)))
  obtain⟨r63,hr63,h⟩:=Gf h
  refine H00 O O O (H2e (args:=[.vec 1099 s5.length 1 s5.length,.fn 42 []]) (L0:=[(1099,.vec 3 1 s5.length (s5.map G0))]) (u:=fun p=>.vec 1099 p 1 r63.length) (Lr:=fun p=>[(1099,.vec 3 1 p (r63.map G0))]) O (H2d F s5 s5.length (fun z0 z1=>Qj z0 z1) 42 [] Gdc O (fun z0 z1 q hq=>Z5 z0 z1 q hq) r63 hr63) Qcc ⟨.inl O,O,.inl O,O,G⟩ ⟨O,G⟩ O (fun _=>O)) ?_
  rintro u_ L_ ⟨v64,rfl,rfl⟩
  refine JLm (.vec 1099 v64 1 r63.length) O (G8 (hK62 (H77 [(10,E1 r63)] [] 1099 rfl rfl G rfl (by exact⟨.vec,G⟩) (Gt (fin1 (fun r:(List Int)=>(E1 r:AV)) h)))))

def Qc (F:Nat) (data:List G6) (a:Int) (b:Int) (cmp:G6→G6→Option Int):Option (List G6):=
 Yn (a+1) fun v2=>
 loop (fun nx3 (s3:Int×(List G6))=>
  bif decide (s3.1 < b) then
  (loop (fun nx58 (s58:Int×(List G6))=>
    bnd (bif decide (a < s58.1) then Jc s58.2 s58.1 some else some default) fun y61=>
    bnd (bif decide (a < s58.1) then Yn (s58.1 - 1) some else some 0) fun v62=>
    bnd (bif decide (a < s58.1) then Jc s58.2 v62 some else some default) fun y63=>
    bnd (bif decide (a < s58.1) then cmp y61 y63 else some default) fun r64=>
    bif ((decide (a < s58.1))&&(decide (r64 < 0))) then
    (Yn (s58.1 - 1) fun v66=>
     Yn (s58.1 - 1) fun v67=>
     Jc s58.2 v67 fun y68=>
     Jc s58.2 s58.1 fun y69=>
     Jc s58.2 s58.1 fun y70=>
     Jc (s58.2.set s58.1.toNat y68) v66 fun y71=>
     Yn (s58.1 - 1) fun v72=>
     nx58 (v72,((s58.2.set s58.1.toNat y68).set v66.toNat y69)))
    else
    (Yn (s3.1+1) fun v73=>
     nx3 (v73,s58.2))) F (s3.1,s3.2))
  else
  (some s3.2)) F (v2,data)
theorem Ys (F:Nat) (data:List G6) (data_q:Nat) (a:Int) (b:Int) (cmp:G6→G6→Option Int) (cmp_f:FuncId) (cmp_c:List AV) (cmp_B:Hb En cmp_f=true) (cmp_d:Zt (fun _=>false) cmp_c=true) (cmp_w:∀ a0 a1 q,cmp a0 a1=some q→Pure En cmp_f ([.agg (G6.cs a0),.agg (G6.cs a1)]++cmp_c) (·=G0 q)) (r:(List G6)) (h:Qc F data a b cmp=some r):Rn En 175 [.vec 1095 data_q 4 data.length,G0 a,G0 b,.fn cmp_f cmp_c] [(1095,.vec 62 4 data_q (data.map G6.av))] (fun av L'=>av=.tup []∧L'=[(1095,.vec 62 4 data_q (r.map G6.av))]):=by
 unfold Qc at h
 refine Z6 [1095] [] Tryz.func175 O O (H3b O) (Jr fun hK1=>(JLm (G0 a) O ?_))
 obtain⟨v2,hv2,h⟩:=Jh h
 refine JLh (G0 v2) (Hx hv2 O O O) O (JLm (G0 v2) O (G8 (hK1 (Gk ?_))))
 obtain⟨b3,hb3,h⟩:=Gd6 h
 refine H6 (fun i3 (s3:Int×(List G6))=>loop b3 i3 s3=some r) (fun i3 s3=>[(0,.vec 1095 data_q 4 data.length),(1,G0 a),(2,G0 b),(3,.fn cmp_f cmp_c),(8,G0 s3.1)]) (fun i3 s3=>[(1095,.vec 62 4 data_q (s3.2.map G6.av))]) (fun i3=>i3) F (v2,data) h ⟨⟨.same O,.same O,.same O,.same (Jf _ _ cmp_d),.same O,G⟩,⟨⟨_,O,.vec⟩,G⟩,O⟩ ?_
 clear h
 intro i3 s3 hi3 K3 e3
 obtain⟨m3,nx3,hm_3,hn3,h⟩:=G85 hi3
 replace h:=Jed hb3 h
 refine Js fun hK4=>Jr fun hK5=>(JLm (G0 s3.1) O (JLm (G0 b) O (JLh (BL (decide (s3.1 < b))) (Hy O O O) O (G8 (hK5 (JCc O h (fun h hb=>?_) (fun h hb=>?_)))))))
 ·
  refine Gm (hK4 (Js fun hK6=>Gk (Jr fun hK7=>(JLm (G0 s3.1) O (JLm (G0 s3.1) O (G8 (hK7 (Gk ?_))))))))
  obtain⟨b58,hb58,h⟩:=Gd6 h
  refine H6 (fun i58 (s58:Int×(List G6))=>loop b58 i58 s58=some r) (fun i58 s58=>[(0,.vec 1095 data_q 4 data.length),(1,G0 a),(2,G0 b),(3,.fn cmp_f cmp_c),(8,G0 s3.1),(9,G0 s58.1)]) (fun i58 s58=>[(1095,.vec 62 4 data_q (s58.2.map G6.av))]) (fun i58=>i58) F (s3.1,s3.2) h ⟨⟨.same O,.same O,.same O,.same (Jf _ _ cmp_d),.same O,.same O,G⟩,⟨⟨_,O,.vec⟩,G⟩,O⟩ ?_
  clear h
  intro i58 s58 hi58 K58 e58
  obtain⟨m58,nx58,hm_58,hn58,h⟩:=G85 hi58
  replace h:=Jed hb58 h
  refine Js fun hK59=>Js fun hK60=>G9c (l':=[(0,.vec 1095 data_q 4 data.length),(1,G0 a),(2,G0 b),(3,.fn cmp_f cmp_c),(8,G0 s3.1),(9,G0 s58.1)]) (L':=[(1095,.vec 62 4 data_q (s58.2.map G6.av))]) ⟨⟨.same O,.same O,.same O,.same (Jf _ _ cmp_d),.same O,.same O,G⟩,⟨⟨_,O,.vec⟩,G⟩,O⟩ ?_
  obtain⟨y61,hy61,h⟩:=Gf h
  obtain⟨v62,hv62,h⟩:=Gf h
  obtain⟨y63,hy63,h⟩:=Gf h
  obtain⟨r64,hr64,h⟩:=Gf h
  refine JC_d0 Jb (by kernel_rfl) (Dq (G0 s58.1) (G5 O O) O (Dq (G0 a) (G5 O O) O (Dq (BL (decide (a < s58.1))) (G4d O O O) O (Dq (BL (decide (a < s58.1))) (G5 O O) O (Do (.fn cmp_f cmp_c) [] O .sct G (fun hc=>G5 O O) O (Do (.vec 1095 data_q 4 data.length) [] O .sct G (fun hc=>G5 O O) O (Do (G0 s58.1) [] O .sct G (fun hc=>G5 O O) O (Do (.vptr 1095 data_q s58.1.toNat 0) [23,24] O .sct ⟨Ua,Ua,G⟩ (fun hc=>G2c (f:=G6.av) (xs:=s58.2) (y:=y61) O O O O Gz (G0c (Gv hc hy61)) (Gdd (Gv hc hy61))) O (Do (.agg (G6.cs y61)) [25] O .sct ⟨Ua,G⟩ (fun hc=>H96 (f:=G6.av) (xs:=s58.2) (y:=y61) Qv O O O (G0c (Gv hc hy61)) O O) O (Do (.vec 1095 data_q 4 data.length) [] O .sct G (fun hc=>G5 O O) O (Do (G0 s58.1) [] O .sct G (fun hc=>G5 O O) O (Do (G0 v62) [28] O .sct ⟨Ua,G⟩ (fun hc=>G6d (G1c (Gv hc hv62)) O O O) O (Do (.vptr 1095 data_q v62.toNat 0) [27,29] O .sct ⟨Ua,Ua,G⟩ (fun hc=>G2c (f:=G6.av) (xs:=s58.2) (y:=y63) O O O O Gz (G0c (Gv hc hy63)) (Gdd (Gv hc hy63))) O ?_)))))))))))))
  refine Do (.agg (G6.cs y63)) [30] O .sct ⟨Ua,G⟩ (fun hc=>H96 (f:=G6.av) (xs:=s58.2) (y:=y63) Qv O O O (G0c (Gv hc hy63)) O O) O (Do (G0 r64) [22,26,31] O .sct ⟨Ua,Ua,Ua,G⟩ (fun hc=>Gaf (args:=[.agg (G6.cs y61),.agg (G6.cs y63)]) (caps:=cmp_c) O O (cmp_w y61 y63 _ (Gv hc hr64)) cmp_B ⟨O,O,O,O,G⟩ cmp_d) O (Do (BL (decide (r64 < 0))) [32] O .sct ⟨Ua,G⟩ (fun hc=>Hy O O O) O (Dq (BL ((decide (a < s58.1))&&(decide (r64 < 0)))) (J3 O O O O) O (Dnil (hK60 (JCc O h (fun h hb=>?_) (fun h hb=>?_)))))))
  ·
   refine Gm (hK59 (Js fun hK65=>Gk (G9c (l':=[(0,.vec 1095 data_q 4 data.length),(1,G0 a),(2,G0 b),(3,.fn cmp_f cmp_c),(8,G0 s3.1),(9,G0 s58.1)]) (L':=[(1095,.vec 62 4 data_q (s58.2.map G6.av))]) ⟨⟨.same O,.same O,.same O,.same (Jf _ _ cmp_d),.same O,.same O,G⟩,⟨⟨_,O,.vec⟩,G⟩,O⟩ ?_)))
   obtain⟨v66,hv66,h⟩:=Jh h
   obtain⟨v67,hv67,h⟩:=Jh h
   obtain⟨y68,hmy68,hy68,h⟩:=G3a h
   obtain⟨y69,hmy69,hy69,h⟩:=G3a h
   obtain⟨y70,hmy70,hy70,h⟩:=G3a h
   obtain⟨y71,hmy71,hy71,h⟩:=G3a h
   refine Jt [15,17] [0,0,0,0,0,0,0,0,0,0,0,0,0,0,0,0,1,0] [0,0,1,1,1,0,0,0,0,0,0,0,0,0,0,0,1,0] [[(1095,.vec 62 4 data_q (s58.2.map G6.av))],((1095,.vec 62 4 data_q ((s58.2.set s58.1.toNat y68).map G6.av))::[(1095,.vec 62 4 data_q (s58.2.map G6.av))]),((1095,.vec 62 4 data_q (((s58.2.set s58.1.toNat y68).set v66.toNat y69).map G6.av))::((1095,.vec 62 4 data_q ((s58.2.set s58.1.toNat y68).map G6.av))::[(1095,.vec 62 4 data_q (s58.2.map G6.av))]))] Jb (by kernel_rfl) rfl rfl ?_
   refine Gd (u:=.vec 1095 data_q 4 data.length) O O ⟨Gr (G5 O O) O,G⟩ (Gd (u:=G0 s58.1) O O ⟨Gr (G5 O O) O,G⟩ (Gd (u:=.vec 1095 data_q 4 data.length) O O ⟨Gr (G5 O O) O,Gr (G5 O O) O,G⟩ (Gd (u:=G0 s58.1) O O ⟨Gr (G5 O O) O,Gr (G5 O O) O,G⟩ (Gd (u:=G0 v66) O O ⟨Gr (G6d hv66 O O O) O,Gr (G6d hv66 O O O) O,G⟩ (Gd (u:=.vec 1095 data_q 4 data.length) O O ⟨Gr (G5 O O) O,G⟩ (Gd (u:=G0 s58.1) O O ⟨Gr (G5 O O) O,G⟩ (Gd (u:=G0 v67) O O ⟨Gr (G6d hv67 O O O) O,G⟩ (Gd (u:=.vptr 1095 data_q v67.toNat 0) O O ⟨Gr (G2c (f:=G6.av) (xs:=s58.2) (y:=y68) O O O O Gz hy68 hmy68) O,G⟩ (Gd (u:=.agg (G6.cs y68)) O O ⟨Gr (H96 (f:=G6.av) (xs:=s58.2) (y:=y68) Qv O O O hy68 O O) O,G⟩ (Gd (u:=.vec 1095 data_q 4 data.length) O O ⟨Gr (G5 O O) O,G⟩ (Gd (u:=G0 s58.1) O O ⟨Gr (G5 O O) O,G⟩ (Gd (u:=.vptr 1095 data_q s58.1.toNat 0) O O ⟨Gr (G2c (f:=G6.av) (xs:=s58.2) (y:=y69) O O O O Gz hy69 hmy69) O,G⟩ (Gd (u:=.agg (G6.cs y69)) O O ⟨Gr (H96 (f:=G6.av) (xs:=s58.2) (y:=y69) Qv O O O hy69 O O) O,G⟩ ?_)))))))))))))
   refine Gd (u:=.vptr 1095 data_q s58.1.toNat 0) O O ⟨Gr (G2c (f:=G6.av) (xs:=s58.2) (y:=y70) O O O O Gz hy70 hmy70) O,G⟩ (Q7e (u:=.junk) O O O O (Gr (Hc5 (f:=G6.av) (xs:=s58.2) (z:=y68) Z4 O O O O (List.getElem?_eq_some_iff.1 hy70).1 O O O O) O) (Gd (u:=.vptr 1095 data_q v66.toNat 0) O O ⟨Gr (G2c (f:=G6.av) (xs:=(s58.2.set s58.1.toNat y68)) (y:=y71) O O O O Gz hy71 hmy71) O,G⟩ (Q7e (u:=.junk) O O O O (Gr (Hc5 (f:=G6.av) (xs:=(s58.2.set s58.1.toNat y68)) (z:=y69) Z4 O O O O (List.getElem?_eq_some_iff.1 hy71).1 O O O O) O) (Ru (hK65 (G2 (JLm (G0 s58.1) O ?_)))))))
   obtain⟨v72,hv72,h⟩:=Jh h
   refine JLh (G0 v72) (G6d hv72 O O O) O (JLm (G0 v72) O (G8 (e58 _ _ m58 (v72,((s58.2.set s58.1.toNat y68).set v66.toNat y69)) (app1 hn58 h) (by omega) ⟨⟨.same rfl,.same rfl,.same rfl,.same (Jf _ _ cmp_d),.same rfl,.same rfl,G⟩,⟨⟨_,rfl,.vec⟩,G⟩,rfl⟩)))
  ·
   refine Hd (hK6 (G2 (JLm (G0 s3.1) O ?_)))
   obtain⟨v73,hv73,h⟩:=Jh h
   refine JLh (G0 v73) (Hx hv73 O O O) O (JLm (G0 v73) O (G8 (e3 _ _ m3 (v73,s58.2) (app1 hn3 h) (by omega) ⟨⟨.same rfl,.same rfl,.same rfl,.same (Jf _ _ cmp_d),.same rfl,G⟩,⟨⟨_,rfl,.vec⟩,G⟩,rfl⟩)))
 ·
  refine Hd ?_
  obtain rfl:=Option.some.inj h
  exact⟨[],[(1095,.vec 62 4 data_q (s3.2.map G6.av))],⟨⟨_,O,.vec⟩,G⟩,O,G,O,O⟩

def Yh (F:Nat) (data:List G6) (n:Int) (cmp:G6→G6→Option Int):Option (List G6):=
 loop (fun nx19 (s19:Int×Int×(List G6))=>
  bif decide (s19.2.1≤n) then
  (bnd (Qc F s19.2.2 s19.1 s19.2.1 cmp) fun r23=>
   Yn (s19.2.1+20) fun v26=>
   nx19 (s19.2.1,v26,r23))
  else
  (bnd (Qc F s19.2.2 s19.1 n cmp) fun r28=>
   loop (fun nx30 (s30:Int)=>
    bif decide (s30 < n) then
    (Yn (2*s30) fun v34=>
     loop (fun nx40 (s40:Int×Int)=>
      bif decide (s40.2≤n) then
      (none)
      else
      (Yn (s40.1+s30) fun v46=>
       bif decide (v46 < n) then
       (none)
       else
       (Yn (s30*2) fun v48=>
        nx30 v48))) F (0,v34))
    else
    (some r28)) F 20)) F (0,20,data)
theorem G78 (F:Nat) (data:List G6) (data_q:Nat) (n:Int) (cmp:G6→G6→Option Int) (cmp_f:FuncId) (cmp_c:List AV) (cmp_B:Hb En cmp_f=true) (cmp_d:Zt (fun _=>false) cmp_c=true) (cmp_w:∀ a0 a1 q,cmp a0 a1=some q→Pure En cmp_f ([.agg (G6.cs a0),.agg (G6.cs a1)]++cmp_c) (·=G0 q)) (r:(List G6)) (h:Yh F data n cmp=some r):Rn En 140 [.vec 1095 data_q 4 data.length,G0 n,.fn cmp_f cmp_c] [(1095,.vec 62 4 data_q (data.map G6.av))] (fun av L'=>av=.tup []∧L'=[(1095,.vec 62 4 data_q (r.map G6.av))]):=by
 unfold Yh at h
 refine Z6 [1095] [] Tryz.func140 O O (H3b O) (Jr fun hK1=>(JLm (G0 20) O (G8 (hK1 (Jr fun hK2=>(JLm (G0 20) O (JLm (G0 0) O (JLm (G0 20) O (G8 (hK2 (Js fun hK3=>Gk ?_)))))))))))
 obtain⟨b19,hb19,h⟩:=Gd6 h
 refine H6 (fun i19 (s19:Int×Int×(List G6))=>loop b19 i19 s19=some r) (fun i19 s19=>[(0,.vec 1095 data_q 4 data.length),(1,G0 n),(2,.fn cmp_f cmp_c),(6,G0 20),(7,G0 s19.1),(8,G0 s19.2.1)]) (fun i19 s19=>[(1095,.vec 62 4 data_q (s19.2.2.map G6.av))]) (fun i19=>i19) F (0,20,data) h ⟨⟨.same O,.same O,.same (Jf _ _ cmp_d),.same O,.same O,.same O,G⟩,⟨⟨_,O,.vec⟩,G⟩,O⟩ ?_
 clear h
 intro i19 s19 hi19 K19 e19
 obtain⟨m19,nx19,hm_19,hn19,h⟩:=G85 hi19
 replace h:=Jed hb19 h
 refine Js fun hK20=>Jr fun hK21=>(JLm (G0 s19.2.1) O (JLm (G0 n) O (JLh (BL (decide (s19.2.1≤n))) (H97 O O O) O (G8 (hK21 (JCc O h (fun h hb=>?_) (fun h hb=>?_)))))))
 ·
  refine Gm (hK20 (Gk (Jr fun hK22=>(JLm (.vec 1095 data_q 4 data.length) O (JLm (G0 s19.1) O (JLm (G0 s19.2.1) O (JLm (.fn cmp_f cmp_c) O ?_)))))))
  obtain⟨r23,hr23,h⟩:=Gf h
  refine JL_vlen 14 O O (fun hn24=>JLh (.tup []) (H1f (args:=[.vec 1095 data_q 4 s19.2.2.length,G0 s19.1,G0 s19.2.1,.fn cmp_f cmp_c]) (L0:=[(1095,.vec 62 4 data_q (s19.2.2.map G6.av))]) (Lr:=[(1095,.vec 62 4 data_q (r23.map G6.av))]) O (Ys F s19.2.2 data_q s19.1 s19.2.1 cmp cmp_f cmp_c cmp_B cmp_d cmp_w r23 hr23) Jc2 ⟨.inl (congrArg (fun n_:Nat=>(.vec 1095 data_q 4 n_:AV)) (hn24.trans (List.length_map _))),O,.inl O,O,.inl O,O,.inl O,(Jf _ _ cmp_d),G⟩ ⟨O,G⟩ O O O) O (G8 (hK22 (Jr fun hK25=>(JLm (G0 s19.2.1) O (JLm (G0 s19.2.1) O (G8 (hK25 (G2 (JLm (G0 s19.2.1) O (JLm (G0 20) O ?_)))))))))))
  obtain⟨v26,hv26,h⟩:=Jh h
  refine JLh (G0 v26) (Hx hv26 O O O) O (JLm (G0 v26) O (G8 (e19 _ _ m19 (s19.2.1,v26,r23) (app1 hn19 h) (by omega) ⟨⟨.same rfl,.same rfl,.same (Jf _ _ cmp_d),.same rfl,.same rfl,.same rfl,G⟩,⟨⟨_,rfl,.vec⟩,G⟩,rfl⟩)))
 ·
  refine Hd (hK3 (Jr fun hK27=>(JLm (.vec 1095 data_q 4 data.length) O (JLm (G0 s19.1) O (JLm (G0 n) O (JLm (.fn cmp_f cmp_c) O ?_))))))
  obtain⟨r28,hr28,h⟩:=Gf h
  refine JL_vlen 23 O O (fun hn29=>JLh (.tup []) (H1f (args:=[.vec 1095 data_q 4 s19.2.2.length,G0 s19.1,G0 n,.fn cmp_f cmp_c]) (L0:=[(1095,.vec 62 4 data_q (s19.2.2.map G6.av))]) (Lr:=[(1095,.vec 62 4 data_q (r28.map G6.av))]) O (Ys F s19.2.2 data_q s19.1 n cmp cmp_f cmp_c cmp_B cmp_d cmp_w r28 hr28) Jc2 ⟨.inl (congrArg (fun n_:Nat=>(.vec 1095 data_q 4 n_:AV)) (hn29.trans (List.length_map _))),O,.inl O,O,.inl O,O,.inl O,(Jf _ _ cmp_d),G⟩ ⟨O,G⟩ O O O) O (G8 (hK27 (Gk ?_))))
  obtain⟨b30,hb30,h⟩:=Gd6 h
  refine H6 (fun i30 (s30:Int)=>loop b30 i30 s30=some r) (fun i30 s30=>[(0,.vec 1095 data_q 4 data.length),(1,G0 n),(2,.fn cmp_f cmp_c),(6,G0 s30)]) (fun i30 s30=>[(1095,.vec 62 4 data_q (r28.map G6.av))]) (fun i30=>i30) F 20 h ⟨⟨.same O,.same O,.same (Jf _ _ cmp_d),.same O,G⟩,⟨⟨_,O,.vec⟩,G⟩,O⟩ ?_
  clear h
  intro i30 s30 hi30 K30 e30
  obtain⟨m30,nx30,hm_30,hn30,h⟩:=G85 hi30
  replace h:=Jed hb30 h
  refine Js fun hK31=>Jr fun hK32=>(JLm (G0 s30) O (JLm (G0 n) O (JLh (BL (decide (s30 < n))) (Hy O O O) O (G8 (hK32 (JCc O h (fun h hb=>?_) (fun h hb=>?_)))))))
  ·
   refine Gm (hK31 (Gk (Jr fun hK33=>(JLm (G0 s30) O ?_))))
   obtain⟨v34,hv34,h⟩:=Jh h
   refine JLh (G0 v34) (A_mul hv34 O O O) O (JLm (G0 0) O (JLm (G0 v34) O (G8 (hK33 (Js fun hK35=>Gk ?_)))))
   obtain⟨b40,hb40,h⟩:=Gd6 h
   refine H6 (fun i40 (s40:Int×Int)=>loop b40 i40 s40=some r) (fun i40 s40=>[(0,.vec 1095 data_q 4 data.length),(1,G0 n),(2,.fn cmp_f cmp_c),(6,G0 s30),(7,G0 s40.1),(8,G0 s40.2)]) (fun i40 s40=>[(1095,.vec 62 4 data_q (r28.map G6.av))]) (fun i40=>i40) F (0,v34) h ⟨⟨.same O,.same O,.same (Jf _ _ cmp_d),.same O,.same O,.same O,G⟩,⟨⟨_,O,.vec⟩,G⟩,O⟩ ?_
   clear h
   intro i40 s40 hi40 K40 e40
   obtain⟨m40,nx40,hm_40,hn40,h⟩:=G85 hi40
   replace h:=Jed hb40 h
   refine Js fun hK41=>Jr fun hK42=>(JLm (G0 s40.2) O (JLm (G0 n) O (JLh (BL (decide (s40.2≤n))) (H97 O O O) O (G8 (hK42 (JCc O h (fun h hb=>?_) (fun h hb=>?_)))))))
   ·
    refine Gm (hK41 (Gk (Js fun hK43=>?_)))
    cases h
   ·
    refine Hd (hK35 (Js fun hK44=>Jr fun hK45=>(JLm (G0 s40.1) O (JLm (G0 s30) O ?_))))
    obtain⟨v46,hv46,h⟩:=Jh h
    refine JLh (G0 v46) (Hx hv46 O O O) O (JLm (G0 v46) O (G8 (hK45 (Jr fun hK47=>(JLm (G0 v46) O (JLm (G0 n) O (JLh (BL (decide (v46 < n))) (Hy O O O) O (G8 (hK47 (JCc O h (fun h hb=>?_) (fun h hb=>?_)))))))))))
    ·
     cases h
    ·
     refine Gm (hK44 (G2 (JLm (G0 s30) O ?_)))
     obtain⟨v48,hv48,h⟩:=Jh h
     refine JLh (G0 v48) (A_mul hv48 O O O) O (JLm (G0 v48) O (G8 (e30 _ _ m30 v48 (app1 hn30 h) (by omega) ⟨⟨.same rfl,.same rfl,.same (Jf _ _ cmp_d),.same rfl,G⟩,⟨⟨_,rfl,.vec⟩,G⟩,rfl⟩)))
  ·
   refine Hd ?_
   obtain rfl:=Option.some.inj h
   exact⟨[],[(1095,.vec 62 4 data_q (r28.map G6.av))],⟨⟨_,O,.vec⟩,G⟩,O,G,O,O⟩

def R2 (F:Nat) (x:List G6) (cmp:G6→G6→Option Int):Option (List G6):=
 bnd (Yh F x (x.length:Int) cmp) fun r1=>
 some r1
theorem G74 (F:Nat) (x:List G6) (x_q:Nat) (cmp:G6→G6→Option Int) (cmp_f:FuncId) (cmp_c:List AV) (cmp_B:Hb En cmp_f=true) (cmp_d:Zt (fun _=>false) cmp_c=true) (cmp_w:∀ a0 a1 q,cmp a0 a1=some q→Pure En cmp_f ([.agg (G6.cs a0),.agg (G6.cs a1)]++cmp_c) (·=G0 q)) (r:(List G6)) (h:R2 F x cmp=some r):Rn En 92 [.vec 1095 x_q 4 x.length,.fn cmp_f cmp_c] [(1095,.vec 62 4 x_q (x.map G6.av))] (fun av L'=>av=.tup []∧L'=[(1095,.vec 62 4 x_q (r.map G6.av))]):=by
 unfold R2 at h
 refine Z6 [1095] [] Tryz.func92 O O (H3b O) (G2 (JLm (.vec 1095 x_q 4 x.length) O (JLm (.vec 1095 x_q 4 x.length) O (Qb6 (f:=G6.av) (xs:=x) Gz O O O (fun hm6=>?_) O O O))))
 refine JLm (.fn cmp_f cmp_c) O ?_
 obtain⟨r1,hr1,h⟩:=Gf h
 refine JLh (.tup []) (H1f (args:=[.vec 1095 x_q 4 x.length,Em x.length,.fn cmp_f cmp_c]) (L0:=[(1095,.vec 62 4 x_q (x.map G6.av))]) (Lr:=[(1095,.vec 62 4 x_q (r1.map G6.av))]) O (G78 F x x_q (x.length:Int) cmp cmp_f cmp_c cmp_B cmp_d cmp_w r1 hr1) Q98 ⟨.inl O,O,.inl O,O,.inl O,(Jf _ _ cmp_d),G⟩ ⟨O,G⟩ O O O) O (G8 ?_)
 obtain rfl:=Option.some.inj h
 exact⟨[],[(1095,.vec 62 4 x_q (r1.map G6.av))],⟨⟨_,O,.vec⟩,G⟩,O,G,O,O⟩

def G3b (F:Nat) (l:List G6):Option (List G6):=
 bnd (R2 F l (fun z0 z1=>G17 z0 z1)) fun r3=>
 some r3
theorem G8a (F:Nat) (l:List G6) (l_q:Nat) (r:(List G6)) (h:G3b F l=some r):Rn En 56 [.vec 1095 l_q 4 l.length] [(1095,.vec 62 4 l_q (l.map G6.av))] (fun av L'=>∃ p:Nat,av=.vec 1095 p 4 r.length∧L'=[(1095,.vec 62 4 p (r.map G6.av))]):=by
 unfold G3b at h
 refine Z6 [1095] [.tmp 2] Tryz.func56 O O (H3b O) (Jr fun hK1=>(JLh (.vec 1092 (([]:List G6).length) 4 (([]:List G6).length)) (Hac 1092 62 4 O O O) O (G8 (hK1 (Jr fun hK2=>(JLm (.vec 1095 l_q 4 l.length) O ?_))))))
 obtain⟨r3,hr3,h⟩:=Gf h
 refine JLh (.tup []) (H1f (args:=[.vec 1095 l_q 4 l.length,.fn 93 []]) (L0:=[(1095,.vec 62 4 l_q (l.map G6.av))]) (Lr:=[(1095,.vec 62 4 l_q (r3.map G6.av))]) O (G74 F l l_q (fun z0 z1=>G17 z0 z1) 93 [] Qce O (fun z0 z1 q hq=>Hf3 z0 z1 q hq) r3 hr3) Qcf ⟨.inl O,O,.inl O,O,G⟩ ⟨O,G⟩ O O O) O (G8 (hK2 (Jr fun hK4=>(JLm (.vec 1095 l_q 4 l.length) O (JLm (.vec 1095 l_q 4 l.length) O (G8 (hK4 (J98 2 O O (fun hn_=>Gt ?_)))))))))
 obtain rfl:=Option.some.inj h
 exact⟨[.vec 1095 l_q 4 l.length],[(1095,.vec 62 4 l_q (r3.map G6.av))],⟨⟨_,O,.vec⟩,G⟩,O,⟨⟨_,O,.conv (.same O)⟩,G⟩,l_q,congrArg (fun n_:Nat=>(.vec 1095 l_q 4 n_:AV)) (hn_.trans (List.length_map _)),O⟩

def Gfe (F:Nat) (s:H8) (before:List G6) (after:List G6) (lifted:List Int):Option (List Move):=
 need (decide (40≤9223372036854775807)) <|
 upto (fun i75 (s75:(List Move)) nx75=>
  bnd (G45 s before lifted (i75:Int) true) fun r81=>
  bnd (G3b F r81) fun r83=>
  bnd (G35 2 r83 s75) fun r85=>
  bnd (G55 F s before after lifted (i75:Int)) fun r87=>
  bnd (G77 1 r87 r85) fun r88=>
  bnd (G45 s before lifted (i75:Int) false) fun r89=>
  bnd (G3b F r89) fun r91=>
  bnd (G35 2 r91 r88) fun r93=>
  nx75 r93)
 (fun(s75:(List Move))=>
  need (decide (40≤9223372036854775807)) <|
  upto (fun i140 (s140:(List Move)) nx140=>
   bnd (G45 s after lifted (i140:Int) false) fun r146=>
   bnd (G35 3 r146 s140) fun r147=>
   bnd (G55 F s before after lifted (i140:Int)) fun r149=>
   bnd (G77 4 r149 r147) fun r150=>
   bnd (G45 s after lifted (i140:Int) true) fun r151=>
   bnd (G35 3 r151 r150) fun r152=>
   nx140 r152)
  (fun(s140:(List Move))=>
   some s140) (40:Int).toNat 0 s75) (40:Int).toNat 0 []
theorem Q59 (F:Nat) (s:H8) (before:List G6) (after:List G6) (lifted:List Int) (r:(List Move)) (h:Gfe F s before after lifted=some r):Pure En 28 [.agg (H8.cs s),E0 before,E0 after,E1 lifted] (·=E2 r):=by
 unfold Gfe at h
 refine H0 [.tmp 8] Tryz.func28 O O (Jr fun hK1=>(JLh (.ptr 1040 0) (Jq (cs:=(H8.cs s)) 1040 O O O O O) O (JLh (E2 ([]:List Move)) (Q2 6 O O) O (G8 (hK1 ?_)))))
 refine Gx [(1,E0 before),(2,E0 after),(3,E1 lifted),(4,Ed s)] [] 1040 rfl rfl rfl G rfl (by repeat' (first | exact .ptr | constructor)) (Jr fun hK2=>(JLh (.ptr 1041 0) (G15 1041 [.sc (.slice none 0 0)] [.slice none 0 0] Qc1 ⟨.inl O,G⟩ O O) O (Qff 1041 0 1042 69 6 O O O (cs':=[OW 1042 6 Move.av ([]:List Move)]) O (G8 (hK2 (Jr fun hK3=>(JLh (.fn 54 [.ptr 1041 0]) (Gae (cs:=[.ptr 1041 0]) O O) O (JLm (.fn 54 [.ptr 1041 0]) O (G8 (hK3 ?_))))))))))
 refine Jr fun hK4=>(JLh (.fn 55 [.ptr 1041 0]) (Gae (cs:=[.ptr 1041 0]) O O) O (JLm (.fn 55 [.ptr 1041 0]) O (G8 (hK4 (Js fun hK5=>Jr fun hK6=>(JLm (G0 0) O (G8 (hK6 (Gk ?_)))))))))
 obtain⟨hx75,h⟩:=Hz h
 obtain⟨b75,kx75,hb75,hkx75,h⟩:=G44 h
 refine H6 (fun i75 (s75:(List Move))=>upto b75 kx75 ((40:Int).toNat - i75) i75 s75=some r) (fun i75 s75=>[(1,E0 before),(2,E0 after),(3,E1 lifted),(4,Ed s),(9,.ptr 1041 0),(10,.fn 54 [.ptr 1041 0]),(11,.fn 55 [.ptr 1041 0]),(16,Em i75)]) (fun i75 s75=>[(1042,.spare 69 6 s75.length s75.length),(1041,.box 40 [OW 1042 6 Move.av s75])]) (fun i75=>(40:Int).toNat - i75) 0 [] h ⟨(by repeat' constructor),⟨⟨_,rfl,.same⟩,⟨_,rfl,.boxL rfl ⟨.same rfl,G⟩⟩,G⟩,rfl⟩ ?_
 clear h
 intro i75 s75 hi75 K75 e75
 refine Jr fun hK76=>(JLh (BL (decide ((i75:Int) < 40))) (Hy O O O) O (G8 (hK76 (Js fun hK77=>Gj O (fun hb=>?_) (fun hb=>?_)))))
 ·
  have hk75:=G0b hb
  obtain⟨nx75,hn75,h⟩:=G07 hi75 hk75
  replace h:=H9f hb75 h
  refine Gm (hK77 (Js fun hK78=>Gk (Jr fun hK79=>(JLm (Em i75) O (JLm (Em i75) O (G8 (hK79 (Jr fun hK80=>(JLm (.fn 54 [.ptr 1041 0]) O (JLh (.agg (H8.cs s)) (Gi J1 O O O) O (JLm (E0 before) O (JLm (E1 lifted) O (JLm (Em i75) O ?_)))))))))))))
  obtain⟨r81,hr81,h⟩:=Gf h
  refine H00 O O O (H2e (args:=[.agg (H8.cs s),E0 before,E1 lifted,Em i75,BL true]) (L0:=[]) (u:=fun p=>.vec 1095 p 4 r81.length) (Lr:=fun p=>[(1095,.vec 62 4 p (r81.map G6.av))]) O (J1f.down s before lifted (i75:Int) true r81 hr81) H53 ⟨.inl O,O,.inl O,O,.inl O,O,.inl O,O,.inl O,O,G⟩ G O (fun _=>O)) ?_
  rintro u_ L_ ⟨v82,rfl,rfl⟩
  obtain⟨r83,hr83,h⟩:=Gf h
  refine H00 O O O (H2e (args:=[.vec 1095 v82 4 r81.length]) (L0:=[(1095,.vec 62 4 v82 (r81.map G6.av))]) (u:=fun p=>.vec 1095 p 4 r83.length) (Lr:=fun p=>[(1095,.vec 62 4 p (r83.map G6.av))]) O (G8a F r81 v82 r83 hr83) Q1b ⟨.inl O,O,G⟩ ⟨O,G⟩ O (fun _=>O)) ?_
  rintro u_ L_ ⟨v84,rfl,rfl⟩
  refine Q5c [(1,E0 before),(2,E0 after),(3,E1 lifted),(4,Ed s),(9,.ptr 1041 0),(10,.fn 54 [.ptr 1041 0]),(11,.fn 55 [.ptr 1041 0]),(12,Em i75),(16,Em i75),(17,BL (decide ((i75:Int) < 40))),(18,Em i75),(19,.fn 54 [.ptr 1041 0]),(20,.agg (H8.cs s)),(21,E0 before),(22,E1 lifted),(23,Em i75),(25,E0 r83)] [(1042,.spare 69 6 s75.length s75.length),(1041,.box 40 [OW 1042 6 Move.av s75])] 1095 rfl rfl ⟨⟨_,rfl,.same⟩,⟨_,rfl,.boxEq rfl rfl⟩,G⟩ rfl (by exact⟨.conv (.same rfl),.conv (.same rfl),.conv (.same rfl),.conv (.same rfl),.conv (.same rfl),.conv (.same rfl),.conv (.same rfl),.conv (.same rfl),.conv (.same rfl),.conv (.same rfl),.conv (.same rfl),.conv (.same rfl),.conv (.same rfl),.conv (.same rfl),.conv (.same rfl),.conv (.same rfl),.vec,G⟩) ?_
  obtain⟨r85,hr85,h⟩:=Gf h
  refine JLh (.tup []) (H03 (args:=[U8 2,E0 r83]) (caps:=[.ptr 1041 0]) (L0:=[(1041,.box 40 [OW 1042 6 Move.av s75]),(1042,.spare 69 6 s75.length s75.length)]) (Lr:=[(1041,.box 40 [OW 1042 6 Move.av r85]),(1042,.spare 69 6 r85.length r85.length)]) O O (Gb8 2 r83 s75 r85 hr85) Hd3 ⟨.inl O,O,.inl O,O,G⟩ O ⟨O,O,G⟩ O O O) O (G8 (hK80 ?_))
  refine Jr fun hK86=>(JLm (.fn 55 [.ptr 1041 0]) O (JLh (.agg (H8.cs s)) (Gi J1 O O O) O (JLm (E0 before) O (JLm (E0 after) O (JLm (E1 lifted) O (JLm (Em i75) O ?_))))))
  obtain⟨r87,hr87,h⟩:=Gf h
  refine JLh (E1 r87) (Gq O (Hc1 F s before after lifted (i75:Int) r87 hr87) Q1a ⟨O,O,O,O,O,O,O,O,O,O,G⟩) O ?_
  obtain⟨r88,hr88,h⟩:=Gf h
  refine JLh (.tup []) (H03 (args:=[U8 1,E1 r87]) (caps:=[.ptr 1041 0]) (L0:=[(1041,.box 40 [OW 1042 6 Move.av r85]),(1042,.spare 69 6 r85.length r85.length)]) (Lr:=[(1041,.box 40 [OW 1042 6 Move.av r88]),(1042,.spare 69 6 r88.length r88.length)]) O O (Hc2 1 r87 r85 r88 hr88) Q1c ⟨.inl O,O,.inl O,O,G⟩ O ⟨O,O,G⟩ O O O) O (G8 (hK86 (G2 (JLm (.fn 54 [.ptr 1041 0]) O (JLh (.agg (H8.cs s)) (Gi J1 O O O) O (JLm (E0 before) O (JLm (E1 lifted) O (JLm (Em i75) O ?_))))))))
  obtain⟨r89,hr89,h⟩:=Gf h
  refine H00 O O O (H2e (args:=[.agg (H8.cs s),E0 before,E1 lifted,Em i75,BL false]) (L0:=[]) (u:=fun p=>.vec 1095 p 4 r89.length) (Lr:=fun p=>[(1095,.vec 62 4 p (r89.map G6.av))]) O (J1f.down s before lifted (i75:Int) false r89 hr89) H53 ⟨.inl O,O,.inl O,O,.inl O,O,.inl O,O,.inl O,O,G⟩ G O (fun _=>O)) ?_
  rintro u_ L_ ⟨v90,rfl,rfl⟩
  obtain⟨r91,hr91,h⟩:=Gf h
  refine H00 O O O (H2e (args:=[.vec 1095 v90 4 r89.length]) (L0:=[(1095,.vec 62 4 v90 (r89.map G6.av))]) (u:=fun p=>.vec 1095 p 4 r91.length) (Lr:=fun p=>[(1095,.vec 62 4 p (r91.map G6.av))]) O (G8a F r89 v90 r91 hr91) Q1b ⟨.inl O,O,G⟩ ⟨O,G⟩ O (fun _=>O)) ?_
  rintro u_ L_ ⟨v92,rfl,rfl⟩
  refine Q5c [(1,E0 before),(2,E0 after),(3,E1 lifted),(4,Ed s),(9,.ptr 1041 0),(10,.fn 54 [.ptr 1041 0]),(11,.fn 55 [.ptr 1041 0]),(12,Em i75),(16,Em i75),(17,BL (decide ((i75:Int) < 40))),(18,Em i75),(19,.fn 54 [.ptr 1041 0]),(20,.agg (H8.cs s)),(21,E0 before),(22,E1 lifted),(23,Em i75),(25,E0 r83),(26,.tup []),(27,.fn 55 [.ptr 1041 0]),(28,.agg (H8.cs s)),(29,E0 before),(30,E0 after),(31,E1 lifted),(32,Em i75),(33,E1 r87),(34,.tup []),(35,.fn 54 [.ptr 1041 0]),(36,.agg (H8.cs s)),(37,E0 before),(38,E1 lifted),(39,Em i75),(41,E0 r91)] [(1042,.spare 69 6 r88.length r88.length),(1041,.box 40 [OW 1042 6 Move.av r88])] 1095 rfl rfl ⟨⟨_,rfl,.same⟩,⟨_,rfl,.boxEq rfl rfl⟩,G⟩ rfl (by exact⟨.conv (.same rfl),.conv (.same rfl),.conv (.same rfl),.conv (.same rfl),.conv (.same rfl),.conv (.same rfl),.conv (.same rfl),.conv (.same rfl),.conv (.same rfl),.conv (.same rfl),.conv (.same rfl),.conv (.same rfl),.conv (.same rfl),.conv (.same rfl),.conv (.same rfl),.conv (.same rfl),.conv (.same rfl),.conv (.same rfl),.conv (.same rfl),.conv (.same rfl),.conv (.same rfl),.conv (.same rfl),.conv (.same rfl),.conv (.same rfl),.conv (.same rfl),.conv (.same rfl),.conv (.same rfl),.conv (.same rfl),.conv (.same rfl),.conv (.same rfl),.conv (.same rfl),.vec,G⟩) ?_
  obtain⟨r93,hr93,h⟩:=Gf h
  refine JLh (.tup []) (H03 (args:=[U8 2,E0 r91]) (caps:=[.ptr 1041 0]) (L0:=[(1041,.box 40 [OW 1042 6 Move.av r88]),(1042,.spare 69 6 r88.length r88.length)]) (Lr:=[(1041,.box 40 [OW 1042 6 Move.av r93]),(1042,.spare 69 6 r93.length r93.length)]) O O (Gb8 2 r91 r88 r93 hr93) Hd3 ⟨.inl O,O,.inl O,O,G⟩ O ⟨O,O,G⟩ O O O) O (G8 (hK78 (G2 (JLh (G0 ((i75+1:Nat):Int)) (Hx (Hc hk75 (Yt hx75)) O O O) O (JLm (G0 ((i75+1:Nat):Int)) O (G8 (e75 _ _ (i75+1) r93 (app1 hn75 h) (by omega) ⟨(by repeat' constructor),⟨⟨_,rfl,.same⟩,⟨_,rfl,.boxL rfl ⟨.same rfl,G⟩⟩,G⟩,rfl⟩)))))))
 ·
  have h:=app1 hkx75 (G08 hi75 (Qr hb))
  refine Hd (hK5 (Js fun hK94=>Jr fun hK95=>(JLm (G0 0) O (G8 (hK95 (Gk ?_))))))
  obtain⟨hx140,h⟩:=Hz h
  obtain⟨b140,kx140,hb140,hkx140,h⟩:=G44 h
  refine H6 (fun i140 (s140:(List Move))=>upto b140 kx140 ((40:Int).toNat - i140) i140 s140=some r) (fun i140 s140=>[(1,E0 before),(2,E0 after),(3,E1 lifted),(4,Ed s),(9,.ptr 1041 0),(10,.fn 54 [.ptr 1041 0]),(11,.fn 55 [.ptr 1041 0]),(44,Em i140)]) (fun i140 s140=>[(1042,.spare 69 6 s140.length s140.length),(1041,.box 40 [OW 1042 6 Move.av s140])]) (fun i140=>(40:Int).toNat - i140) 0 s75 h ⟨(by repeat' constructor),⟨⟨_,rfl,.same⟩,⟨_,rfl,.boxL rfl ⟨.same rfl,G⟩⟩,G⟩,rfl⟩ ?_
  clear h
  intro i140 s140 hi140 K140 e140
  refine Jr fun hK141=>(JLh (BL (decide ((i140:Int) < 40))) (Hy O O O) O (G8 (hK141 (Js fun hK142=>Gj O (fun hb=>?_) (fun hb=>?_)))))
  ·
   have hk140:=G0b hb
   obtain⟨nx140,hn140,h⟩:=G07 hi140 hk140
   replace h:=H9f hb140 h
   refine Gm (hK142 (Js fun hK143=>Gk (Jr fun hK144=>(JLm (Em i140) O (JLm (Em i140) O (G8 (hK144 (Jr fun hK145=>(JLm (.fn 54 [.ptr 1041 0]) O (JLh (.agg (H8.cs s)) (Gi J1 O O O) O (JLm (E0 after) O (JLm (E1 lifted) O (JLm (Em i140) O ?_)))))))))))))
   obtain⟨r146,hr146,h⟩:=Gf h
   refine JLh (E0 r146) (Gq O (H66.down s after lifted (i140:Int) false r146 hr146) H53 ⟨O,O,O,O,O,O,O,O,O,O,G⟩) O ?_
   obtain⟨r147,hr147,h⟩:=Gf h
   refine JLh (.tup []) (H03 (args:=[U8 3,E0 r146]) (caps:=[.ptr 1041 0]) (L0:=[(1041,.box 40 [OW 1042 6 Move.av s140]),(1042,.spare 69 6 s140.length s140.length)]) (Lr:=[(1041,.box 40 [OW 1042 6 Move.av r147]),(1042,.spare 69 6 r147.length r147.length)]) O O (Gb8 3 r146 s140 r147 hr147) Hd3 ⟨.inl O,O,.inl O,O,G⟩ O ⟨O,O,G⟩ O O O) O (G8 (hK145 ?_))
   refine Jr fun hK148=>(JLm (.fn 55 [.ptr 1041 0]) O (JLh (.agg (H8.cs s)) (Gi J1 O O O) O (JLm (E0 before) O (JLm (E0 after) O (JLm (E1 lifted) O (JLm (Em i140) O ?_))))))
   obtain⟨r149,hr149,h⟩:=Gf h
   refine JLh (E1 r149) (Gq O (Hc1 F s before after lifted (i140:Int) r149 hr149) Q1a ⟨O,O,O,O,O,O,O,O,O,O,G⟩) O ?_
   obtain⟨r150,hr150,h⟩:=Gf h
   refine JLh (.tup []) (H03 (args:=[U8 4,E1 r149]) (caps:=[.ptr 1041 0]) (L0:=[(1041,.box 40 [OW 1042 6 Move.av r147]),(1042,.spare 69 6 r147.length r147.length)]) (Lr:=[(1041,.box 40 [OW 1042 6 Move.av r150]),(1042,.spare 69 6 r150.length r150.length)]) O O (Hc2 4 r149 r147 r150 hr150) Q1c ⟨.inl O,O,.inl O,O,G⟩ O ⟨O,O,G⟩ O O O) O (G8 (hK148 (G2 (JLm (.fn 54 [.ptr 1041 0]) O (JLh (.agg (H8.cs s)) (Gi J1 O O O) O (JLm (E0 after) O (JLm (E1 lifted) O (JLm (Em i140) O ?_))))))))
   obtain⟨r151,hr151,h⟩:=Gf h
   refine JLh (E0 r151) (Gq O (H66.down s after lifted (i140:Int) true r151 hr151) H53 ⟨O,O,O,O,O,O,O,O,O,O,G⟩) O ?_
   obtain⟨r152,hr152,h⟩:=Gf h
   refine JLh (.tup []) (H03 (args:=[U8 3,E0 r151]) (caps:=[.ptr 1041 0]) (L0:=[(1041,.box 40 [OW 1042 6 Move.av r150]),(1042,.spare 69 6 r150.length r150.length)]) (Lr:=[(1041,.box 40 [OW 1042 6 Move.av r152]),(1042,.spare 69 6 r152.length r152.length)]) O O (Gb8 3 r151 r150 r152 hr152) Hd3 ⟨.inl O,O,.inl O,O,G⟩ O ⟨O,O,G⟩ O O O) O (G8 (hK143 (G2 (JLh (G0 ((i140+1:Nat):Int)) (Hx (Hc hk140 (Yt hx140)) O O O) O (JLm (G0 ((i140+1:Nat):Int)) O (G8 (e140 _ _ (i140+1) r152 (app1 hn140 h) (by omega) ⟨(by repeat' constructor),⟨⟨_,rfl,.same⟩,⟨_,rfl,.boxL rfl ⟨.same rfl,G⟩⟩,G⟩,rfl⟩)))))))
  ·
   have h:=app1 hkx140 (G08 hi140 (Qr hb))
   refine Hd (hK94 (Jr fun hK153=>(JLh (OW 1042 6 Move.av s140) (Z7 Hd1 O O O O) O (JLm (OW 1042 6 Move.av s140) O (G8 (hK153 (Gt (fin1l (fun r:(List Move)=>(E2 r:AV)) h))))))))

def G7f (F:Nat) (s:H8) (boxes:List H2) (before:List G6) (after:List G6):Option ((List Move)×Int):=
 bnd (Gd3 F s boxes before after) fun r3=>
 bif decide (r3.2≠0) then
 (some ([],r3.2))
 else
 (bnd (Gfe F s before after r3.1) fun r8=>
  some (r8,0))
theorem J23 (F:Nat) (s:H8) (boxes:List H2) (before:List G6) (after:List G6) (r:(List Move)×Int) (h:G7f F s boxes before after=some r):Pure En 9 [.agg (H8.cs s),E3 boxes,E0 before,E0 after] (·=.tup [E2 r.1,G0 r.2]):=by
 unfold G7f at h
 refine H0 [.tmp 8,.tmp 9] Tryz.func9 O O (Jr fun hK1=>(JLh (.ptr 1013 0) (Jq (cs:=(H8.cs s)) 1013 O O O O O) O (JLh (E2 ([]:List Move)) (Q2 6 O O) O (JLm (G0 0) O (G8 (hK1 ?_))))))
 refine Gx [(1,E3 boxes),(2,E0 before),(3,E0 after),(4,Ed s)] [] 1013 rfl rfl rfl G rfl (by repeat' (first | exact .ptr | constructor)) (Jr fun hK2=>(JLh (.agg (H8.cs s)) (Gi J1 O O O) O (JLm (E3 boxes) O (JLm (E0 before) O (JLm (E0 after) O ?_)))))
 obtain⟨r3,hr3,h⟩:=Gf h
 refine JLh (.tup [E1 r3.1,G0 r3.2]) (Gq O (Jf5 F s boxes before after r3 hr3) Qf2 ⟨O,O,O,O,O,O,O,O,G⟩) O (JLm (.tup [E1 r3.1,G0 r3.2]) O (JLh (E1 r3.1) (Jn O O O) O (JLh (G0 r3.2) (Jn O O O) O (JLm (E1 r3.1) O (JLm (G0 r3.2) O (G8 (hK2 (Js fun hK4=>Jr fun hK5=>(JLm (G0 r3.2) O (JLh (BL (decide (r3.2≠0))) (G56 O O O) O (G8 (hK5 (JCc O h (fun h hb=>?_) (fun h hb=>?_))))))))))))))
 ·
  refine Jr fun hK6=>(JLm (G0 r3.2) O (JLh (E2 ([]:List Move)) (Q2 6 O O) O (JLm (G0 r3.2) O (G8 (hK6 (Gt (⟨[E2 ([]:List Move),G0 r3.2],[],G,O,⟨⟨_,O,.conv (.same O)⟩,⟨_,O,.conv (.same O)⟩,G⟩,O,congrArg (fun r:(List Move)×Int=>(.tup [E2 r.1,G0 r.2]:AV)) (Option.some.inj h)⟩)))))))
 ·
  refine Gm (hK4 (Jr fun hK7=>(JLh (.agg (H8.cs s)) (Gi J1 O O O) O (JLm (E0 before) O (JLm (E0 after) O (JLm (E1 r3.1) O ?_))))))
  obtain⟨r8,hr8,h⟩:=Gf h
  refine JLh (E2 r8) (Gq O (Q59 F s before after r3.1 r8 hr8) Qf1 ⟨O,O,O,O,O,O,O,O,G⟩) O (JLm (E2 r8) O (JLm (G0 0) O (G8 (hK7 (Gt (⟨[E2 r8,G0 0],[],G,O,⟨⟨_,O,.conv (.same O)⟩,⟨_,O,.conv (.same O)⟩,G⟩,O,congrArg (fun r:(List Move)×Int=>(.tup [E2 r.1,G0 r.2]:AV)) (Option.some.inj h)⟩))))))

def G6c (l:List Move):Option Int:=
 each (fun y19 i19 (s19:Int) nx19=>
  jp (fun kj22=>
   bif ((decide (y19.Kind=2))||(decide (y19.Kind=3))) then
   (Yn (s19+1) fun v25=>
    kj22 v25)
   else
   (kj22 s19)) fun(j22:Int)=>
  nx19 j22)
 (fun(s19:Int)=>
  some s19) l 0 0
theorem Hf0 (l:List Move) (r:Int) (h:G6c l=some r):Pure En 19 [E2 l] (·=G0 r):=by
 unfold G6c at h
 refine H0 [.tmp 2] Tryz.func19 O O (Jr fun hK1=>(JLm (G0 0) O (G8 (hK1 (Jr fun hK2=>(JLm (G0 0) O (G8 (hK2 (Js fun hK3=>Jr fun hK4=>(JLm (E2 l) O (JLl Hr O O O fun hm7=>(JLm (G0 0) O (G8 (hK4 (Gk ?_)))))))))))))))
 obtain⟨b19,kx19,hb19,hkx19,h⟩:=J4 h
 refine H6 (fun i19 (s19:Int)=>each b19 kx19 (List.drop i19 l) i19 s19=some r) (fun i19 s19=>[(3,G0 s19),(6,E2 l),(7,Em l.length),(8,Em i19)]) (fun i19 s19=>[]) (fun i19=>l.length - i19) 0 0 h ⟨(by repeat' constructor),G,rfl⟩ ?_
 clear h
 intro i19 s19 hi19 K19 e19
 refine Jr fun hK20=>(JLh (BL (decide ((i19:Int) < (l.length:Int)))) (Hy O O O) O (G8 (hK20 (Js fun hK21=>Gj O (fun hb=>?_) (fun hb=>?_)))))
 ·
  have hk19:=Je hb
  obtain⟨y19,nx19,hy19,hn19,h⟩:=Hs hi19 hk19
  replace h:=Y8 hb19 h
  refine Gm (hK21 ?_)
  obtain⟨kj22,hkj22,h⟩:=Zf h
  refine Rt (fun j22:Int=>kj22 j22=some r) (fun j22=>[(3,G0 j22),(6,E2 l),(7,Em l.length),(8,Em i19)]) (fun j22=>[]) (fun Kj22 ej22=>?_) ?_
  ·
   refine Gk (Jr fun hK23=>(JLh (Eg y19) (Gs (f:=Move.av) (xs:=l) (y:=y19) O O O Hr hy19 O) O (JLh (.agg (Move.cs y19)) (Gi Gb1 O O O) O (JLh (.ptr 1028 0) (Ju 1028 6 G7a O O) O (Ja (u:=.junk) (J0 (u:=.agg (Move.cs y19)) (ds:=[U8 y19.Kind,G0 y19.H2,G0 y19.Slot.G4,G0 y19.Slot.Tier,U8 y19.Slot.Half,G0 y19.Ge]) J51 O O O O O O O O) (G8 (hK23 (Gx [(3,G0 s19),(5,Eg y19),(6,E2 l),(7,Em l.length),(8,Em i19)] [] 1028 rfl rfl rfl G rfl (by repeat' (first | exact .ptr | constructor)) ?_))))))))
   refine Jr fun hK24=>(JLh (Eg y19) (Ga Ro O O O) O (JLh (U8 y19.Kind) (Gh J5 O O O) O (JLh (BL (decide (y19.Kind=2))) (Jk O O O) O (JLm (BL (decide (y19.Kind=2))) O (JLo (Eg y19) [] O .scf G (fun hc=>Ga Ro O O O) O (JLo (U8 y19.Kind) [16] O .scf ⟨Ua,G⟩ (fun hc=>Gh J5 O O O) O (JLo (BL (decide (y19.Kind=3))) [17] O .scf ⟨Ua,G⟩ (fun hc=>Jk O O O) O (JLh (BL ((decide (y19.Kind=2))||(decide (y19.Kind=3)))) (Y7 O O O O) O (G8 (hK24 (JCc O h (fun h hb=>?_) (fun h hb=>?_))))))))))))
   ·
    refine G2 (JLm (G0 s19) O ?_)
    obtain⟨v25,hv25,h⟩:=Jh h
    refine JLh (G0 v25) (Hx hv25 O O O) O (JLm (G0 v25) O (G8 (ej22 _ _ v25 h ⟨(by repeat' constructor),G,rfl⟩)))
   ·
    refine Gm (ej22 _ _ s19 h ⟨(by repeat' constructor),G,rfl⟩)
  ·intro j22 h
   replace h:=app1 hkj22 h
   refine G2 (JLh (G0 ((i19+1:Nat):Int)) (Hx (Hc hk19 hm7) O O O) O (JLm (G0 ((i19+1:Nat):Int)) O (G8 (e19 _ _ (i19+1) j22 (app1 hn19 h) (by omega) ⟨(by repeat' constructor),G,rfl⟩))))
 ·
  have h:=app1 hkx19 (Ht hi19 (H9 hb))
  refine Hd (hK3 (Jr fun hK26=>(JLm (G0 s19) O (JLm (G0 s19) O (G8 (hK26 (Gt (fin1 G0 h))))))))
end
end Go.Proofs.YteogacmpgdpjlaaGreat
