/-
 Models of functions of the program,and that they return what the models say.
-/
import Derived.Test.YtecjdioomlhhiaaGreatXHa
set_option maxRecDepth 100000
set_option maxHeartbeats 1000000
set_option linter.unusedVariables false
set_option linter.unusedSimpArgs false
namespace Go.Proofs.YtecjdioomlhhiaaGreat
open Go.RowKit
noncomputable section
open XAF
open XLF
open XCF
open XGF
open XHF


theorem Q35 (F:Nat) (s:H0) (boxes:List Box) (l:List Stowed) (open_:List Int) (cover:Int) (r:(List Int)×Int) (h:G24 F s boxes l open_ cover=some r):Qb Ei 16 [.agg (H0.cs s),E3 boxes,E2 l,E1 open_,I64 cover] [] (fun av L'=>∃ p:Nat,av=.tup [.vec 1086 p 1 r.1.length,I64 r.2]∧L'=[(1086,.vec 3 1 p (r.1.map I64))]):=by
 unfold G24 at h
 refine Qz [] [.tmp 10,.tmp 11] Tryz.func16 O O (Ga6 O) (Jr fun hK1=>(JLh (.ptr 1026 0) (Je (cs:=(H0.cs s)) 1026 O O O O O) O (JLh (E1 ([]:List Int)) (Hb 1 O O) O (JLm (I64 0) O (G7 (hK1 ?_))))))
 refine Gx [(1,E3 boxes),(2,E2 l),(3,E1 open_),(4,I64 cover),(5,Eb s)] [] 1026 rfl rfl rfl G rfl (by repeat' (first | exact .ptr | constructor)) (Js fun hK2=>Gq ?_)
 refine Jr fun hK3=>(JLh (.agg (H0.cs s)) (Gh Hc O O O) O (JLm (E3 boxes) O (JLm (E2 l) O (JLm (E1 open_) O ?_))))
 obtain⟨r4,hr4,h⟩:=Gc h
 refine JLh (BL r4) (Gm O (Zx s boxes l open_ r4 hr4) G80 ⟨O,O,O,O,O,O,O,O,G⟩) O (JLh (BL (!r4)) (Q7 (b:=r4) O O) O (JLm (BL (!r4)) O (G7 (hK3 (JCc O h (fun h hb=>?_) (fun h hb=>?_))))))
 ·
  refine Jr fun hK5=>(JLh (.vec 1086 (([]:List Int).length) 1 (([]:List Int).length)) (G8f 1086 3 1 O O O) O (JLm (I64 2) O (G7 (hK5 (Zg 10 O O (fun hn_=>Gn ?_))))))
  obtain rfl:=Option.some.inj h
  exact⟨[.vec 1086 (([]:List Int).length) 1 (([]:List Int).length),I64 2],[(1086,.vec 3 1 (([]:List Int).length) (([]:List Int).map I64))],⟨⟨_,O,.vec⟩,G⟩,O,⟨⟨_,O,.conv (.same O)⟩,⟨_,O,.conv (.same O)⟩,G⟩,(([]:List Int).length),congrArg (fun n_:Nat=>(.tup [.vec 1086 (([]:List Int).length) 1 n_,I64 2]:AV)) (hn_.trans O),O⟩
 ·
  refine Jr fun hK6=>(JLm (I64 cover) O (JLh (BL (decide (cover < 0))) (Hz O O O) O (JLm (BL (decide (cover < 0))) O (JLo (I64 cover) [] O .scf G (fun hc=>G4 O O) O (JLo (.dptr [E4 s.Covers,I64 s.Light.Kilos,I64 s.Light.X,I64 s.Light.Y,I64 s.Light.Z,E7 s.Rows,E6 s.Frames,E8 s.Tanks,I64 s.G1.Tolerance,I64 s.G1.Trim,I64 s.G1.List_,I64 s.G1.Stability]) [] O .scf G (fun hc=>Ga J0 O O O) O (JLo (E4 s.Covers) [26] O .scf ⟨Ua,G⟩ (fun hc=>Gf J8 O O O) O (JLo (Eh s.Covers.length) [27] O .scf ⟨Ua,G⟩ (fun hc=>Qe (f:=G9.av) (xs:=s.Covers) He O O) O (JLo (BL (decide ((s.Covers.length:Int)≤cover))) [25,28] O .scf ⟨Ua,Ua,G⟩ (fun hc=>Zf O O O) O (JLh (BL ((decide (cover < 0))||(decide ((s.Covers.length:Int)≤cover)))) (Y4 O O O O) O (JLm (BL ((decide (cover < 0))||(decide ((s.Covers.length:Int)≤cover)))) O (G7 (hK6 ?_))))))))))))
  refine JCc O h ?_ ?_<;>intro h hb
  ·
   refine Jr fun hK7=>(JLh (.vec 1086 (([]:List Int).length) 1 (([]:List Int).length)) (G8f 1086 3 1 O O O) O (JLm (I64 6) O (G7 (hK7 (Zg 10 O O (fun hn_=>Gn ?_))))))
   obtain rfl:=Option.some.inj h
   exact⟨[.vec 1086 (([]:List Int).length) 1 (([]:List Int).length),I64 6],[(1086,.vec 3 1 (([]:List Int).length) (([]:List Int).map I64))],⟨⟨_,O,.vec⟩,G⟩,O,⟨⟨_,O,.conv (.same O)⟩,⟨_,O,.conv (.same O)⟩,G⟩,(([]:List Int).length),congrArg (fun n_:Nat=>(.tup [.vec 1086 (([]:List Int).length) 1 n_,I64 6]:AV)) (hn_.trans O),O⟩
  ·
   refine Jr fun hK8=>(JLh (.agg (H0.cs s)) (Gh Hc O O O) O (JLm (E2 l) O (JLm (I64 cover) O ?_)))
   obtain⟨r9,hr9,h⟩:=Gc h
   refine JLh (E1 r9) (Gm O (H7e s l cover r9 hr9) J1d ⟨O,O,O,O,O,O,G⟩) O (JLl Gs O O O fun hm36=>(JLh (BL (decide (0 < (r9.length:Int)))) (G30 O O O) O (JLm (BL (decide (0 < (r9.length:Int)))) O (G7 (hK8 (JCc O h (fun h hb=>?_) (fun h hb=>?_)))))))
   ·
    refine Jr fun hK10=>(JLh (.vec 1086 (([]:List Int).length) 1 (([]:List Int).length)) (G8f 1086 3 1 O O O) O (JLm (I64 95) O (G7 (hK10 (Zg 10 O O (fun hn_=>Gn ?_))))))
    obtain rfl:=Option.some.inj h
    exact⟨[.vec 1086 (([]:List Int).length) 1 (([]:List Int).length),I64 95],[(1086,.vec 3 1 (([]:List Int).length) (([]:List Int).map I64))],⟨⟨_,O,.vec⟩,G⟩,O,⟨⟨_,O,.conv (.same O)⟩,⟨_,O,.conv (.same O)⟩,G⟩,(([]:List Int).length),congrArg (fun n_:Nat=>(.tup [.vec 1086 (([]:List Int).length) 1 n_,I64 95]:AV)) (hn_.trans O),O⟩
   ·
    refine Gk (hK2 (Jr fun hK11=>(JLm (E1 open_) O (JLm (I64 cover) O ?_))))
    obtain⟨r12,hr12,h⟩:=Gc h
    refine JLh (.tup [I64 r12.1,BL r12.2]) (Gm O (G00 F open_ cover r12 hr12) Ha3 ⟨O,O,O,O,G⟩) O (JLm (.tup [I64 r12.1,BL r12.2]) O (JLh (I64 r12.1) (Hk O O O) O (JLh (BL r12.2) (Hk O O O) O (JLm (I64 r12.1) O (JLm (BL r12.2) O (G7 (hK11 (Js fun hK13=>Jr fun hK14=>(JLm (BL r12.2) O (G7 (hK14 (JCc O h (fun h hb=>?_) (fun h hb=>?_)))))))))))))
    ·
     refine Jr fun hK15=>(JLm (E1 open_) O ?_)
     obtain⟨r16,hr16,h⟩:=Gc h
     refine G48 O O O (Ge2 (args:=[E1 open_]) (L0:=[]) (u:=fun p=>.vec 1086 p 1 r16.length) (Lr:=fun p=>[(1086,.vec 3 1 p (r16.map I64))]) O (G55 open_ r16 hr16) Ha2 ⟨.inl O,O,G⟩ G O (fun _=>O)) ?_
     rintro u_ L_ ⟨v17,rfl,rfl⟩
     refine JLm (.vec 1086 v17 1 r16.length) O (JLm (I64 0) O (G7 (hK15 (Zg 10 O O (fun hn_=>Gn ?_)))))
     obtain rfl:=Option.some.inj h
     exact⟨[.vec 1086 v17 1 r16.length,I64 0],[(1086,.vec 3 1 v17 (r16.map I64))],⟨⟨_,O,.vec⟩,G⟩,O,⟨⟨_,O,.conv (.same O)⟩,⟨_,O,.conv (.same O)⟩,G⟩,v17,congrArg (fun n_:Nat=>(.tup [.vec 1086 v17 1 n_,I64 0]:AV)) (hn_.trans (List.length_map _)),O⟩
    ·
     refine Gk (hK13 (Jr fun hK18=>(JLm (E1 open_) O (JLm (I64 r12.1) O (JLm (I64 cover) O ?_)))))
     obtain⟨r19,hr19,h⟩:=Gc h
     refine G48 O O O (Ge2 (args:=[E1 open_,I64 r12.1,I64 cover]) (L0:=[]) (u:=fun p=>.vec 1086 p 1 r19.length) (Lr:=fun p=>[(1086,.vec 3 1 p (r19.map I64))]) O (J56.down open_ r12.1 cover r19 hr19) Jcf ⟨.inl O,O,.inl O,O,.inl O,O,G⟩ G O (fun _=>O)) ?_
     rintro u_ L_ ⟨v20,rfl,rfl⟩
     refine JLm (.vec 1086 v20 1 r19.length) O (JLm (I64 0) O (G7 (hK18 (Zg 10 O O (fun hn_=>Gn ?_)))))
     obtain rfl:=Option.some.inj h
     exact⟨[.vec 1086 v20 1 r19.length,I64 0],[(1086,.vec 3 1 v20 (r19.map I64))],⟨⟨_,O,.vec⟩,G⟩,O,⟨⟨_,O,.conv (.same O)⟩,⟨_,O,.conv (.same O)⟩,G⟩,v20,congrArg (fun n_:Nat=>(.tup [.vec 1086 v20 1 n_,I64 0]:AV)) (hn_.trans (List.length_map _)),O⟩


theorem Q13 (F:Nat) (s:H0) (boxes:List Box) (l:List Stowed) (open_:List Int) (cover:Int) (r:(List Int)×Int) (h:G1c F s boxes l open_ cover=some r):Qb Ei 18 [.agg (H0.cs s),E3 boxes,E2 l,E1 open_,I64 cover] [] (fun av L'=>∃ p:Nat,av=.tup [.vec 1086 p 1 r.1.length,I64 r.2]∧L'=[(1086,.vec 3 1 p (r.1.map I64))]):=by
 unfold G1c at h
 refine Qz [] [.tmp 10,.tmp 11] Tryz.func18 O O (Ga6 O) (Jr fun hK1=>(JLh (.ptr 1029 0) (Je (cs:=(H0.cs s)) 1029 O O O O O) O (JLh (E1 ([]:List Int)) (Hb 1 O O) O (JLm (I64 0) O (G7 (hK1 ?_))))))
 refine Gx [(1,E3 boxes),(2,E2 l),(3,E1 open_),(4,I64 cover),(5,Eb s)] [] 1029 rfl rfl rfl G rfl (by repeat' (first | exact .ptr | constructor)) (Js fun hK2=>Gq ?_)
 refine Jr fun hK3=>(JLh (.agg (H0.cs s)) (Gh Hc O O O) O (JLm (E3 boxes) O (JLm (E2 l) O (JLm (E1 open_) O ?_))))
 obtain⟨r4,hr4,h⟩:=Gc h
 refine JLh (BL r4) (Gm O (Zx s boxes l open_ r4 hr4) G80 ⟨O,O,O,O,O,O,O,O,G⟩) O (JLh (BL (!r4)) (Q7 (b:=r4) O O) O (JLm (BL (!r4)) O (G7 (hK3 (JCc O h (fun h hb=>?_) (fun h hb=>?_))))))
 ·
  refine Jr fun hK5=>(JLh (.vec 1086 (([]:List Int).length) 1 (([]:List Int).length)) (G8f 1086 3 1 O O O) O (JLm (I64 2) O (G7 (hK5 (Zg 10 O O (fun hn_=>Gn ?_))))))
  obtain rfl:=Option.some.inj h
  exact⟨[.vec 1086 (([]:List Int).length) 1 (([]:List Int).length),I64 2],[(1086,.vec 3 1 (([]:List Int).length) (([]:List Int).map I64))],⟨⟨_,O,.vec⟩,G⟩,O,⟨⟨_,O,.conv (.same O)⟩,⟨_,O,.conv (.same O)⟩,G⟩,(([]:List Int).length),congrArg (fun n_:Nat=>(.tup [.vec 1086 (([]:List Int).length) 1 n_,I64 2]:AV)) (hn_.trans O),O⟩
 ·
  refine Jr fun hK6=>(JLm (I64 cover) O (JLh (BL (decide (cover < 0))) (Hz O O O) O (JLm (BL (decide (cover < 0))) O (JLo (I64 cover) [] O .scf G (fun hc=>G4 O O) O (JLo (.dptr [E4 s.Covers,I64 s.Light.Kilos,I64 s.Light.X,I64 s.Light.Y,I64 s.Light.Z,E7 s.Rows,E6 s.Frames,E8 s.Tanks,I64 s.G1.Tolerance,I64 s.G1.Trim,I64 s.G1.List_,I64 s.G1.Stability]) [] O .scf G (fun hc=>Ga J0 O O O) O (JLo (E4 s.Covers) [26] O .scf ⟨Ua,G⟩ (fun hc=>Gf J8 O O O) O (JLo (Eh s.Covers.length) [27] O .scf ⟨Ua,G⟩ (fun hc=>Qe (f:=G9.av) (xs:=s.Covers) He O O) O (JLo (BL (decide ((s.Covers.length:Int)≤cover))) [25,28] O .scf ⟨Ua,Ua,G⟩ (fun hc=>Zf O O O) O (JLh (BL ((decide (cover < 0))||(decide ((s.Covers.length:Int)≤cover)))) (Y4 O O O O) O (JLm (BL ((decide (cover < 0))||(decide ((s.Covers.length:Int)≤cover)))) O (G7 (hK6 ?_))))))))))))
  refine JCc O h ?_ ?_<;>intro h hb
  ·
   refine Jr fun hK7=>(JLh (.vec 1086 (([]:List Int).length) 1 (([]:List Int).length)) (G8f 1086 3 1 O O O) O (JLm (I64 6) O (G7 (hK7 (Zg 10 O O (fun hn_=>Gn ?_))))))
   obtain rfl:=Option.some.inj h
   exact⟨[.vec 1086 (([]:List Int).length) 1 (([]:List Int).length),I64 6],[(1086,.vec 3 1 (([]:List Int).length) (([]:List Int).map I64))],⟨⟨_,O,.vec⟩,G⟩,O,⟨⟨_,O,.conv (.same O)⟩,⟨_,O,.conv (.same O)⟩,G⟩,(([]:List Int).length),congrArg (fun n_:Nat=>(.tup [.vec 1086 (([]:List Int).length) 1 n_,I64 6]:AV)) (hn_.trans O),O⟩
  ·
   refine Gk (hK2 (Jr fun hK8=>(JLm (E1 open_) O (JLm (I64 cover) O ?_))))
   obtain⟨r9,hr9,h⟩:=Gc h
   refine JLh (.tup [I64 r9.1,BL r9.2]) (Gm O (G00 F open_ cover r9 hr9) Ha3 ⟨O,O,O,O,G⟩) O (JLm (.tup [I64 r9.1,BL r9.2]) O (JLh (I64 r9.1) (Hk O O O) O (JLh (BL r9.2) (Hk O O O) O (JLm (I64 r9.1) O (JLm (BL r9.2) O (G7 (hK8 (Js fun hK10=>Jr fun hK11=>(JLm (BL r9.2) O (JLh (BL (!r9.2)) (Q7 (b:=r9.2) O O) O (G7 (hK11 (JCc O h (fun h hb=>?_) (fun h hb=>?_))))))))))))))
   ·
    refine Jr fun hK12=>(JLm (E1 open_) O ?_)
    obtain⟨r13,hr13,h⟩:=Gc h
    refine G48 O O O (Ge2 (args:=[E1 open_]) (L0:=[]) (u:=fun p=>.vec 1086 p 1 r13.length) (Lr:=fun p=>[(1086,.vec 3 1 p (r13.map I64))]) O (G55 open_ r13 hr13) Ha2 ⟨.inl O,O,G⟩ G O (fun _=>O)) ?_
    rintro u_ L_ ⟨v14,rfl,rfl⟩
    refine JLm (.vec 1086 v14 1 r13.length) O (JLm (I64 0) O (G7 (hK12 (Zg 10 O O (fun hn_=>Gn ?_)))))
    obtain rfl:=Option.some.inj h
    exact⟨[.vec 1086 v14 1 r13.length,I64 0],[(1086,.vec 3 1 v14 (r13.map I64))],⟨⟨_,O,.vec⟩,G⟩,O,⟨⟨_,O,.conv (.same O)⟩,⟨_,O,.conv (.same O)⟩,G⟩,v14,congrArg (fun n_:Nat=>(.tup [.vec 1086 v14 1 n_,I64 0]:AV)) (hn_.trans (List.length_map _)),O⟩
   ·
    refine Gk (hK10 (Jr fun hK15=>(JLm (E1 open_) O (JLm (I64 r9.1) O ?_))))
    obtain⟨r16,hr16,h⟩:=Gc h
    refine G48 O O O (Ge2 (args:=[E1 open_,I64 r9.1]) (L0:=[]) (u:=fun p=>.vec 1086 p 1 r16.length) (Lr:=fun p=>[(1086,.vec 3 1 p (r16.map I64))]) O (Heb.down open_ r9.1 r16 hr16) Jce ⟨.inl O,O,.inl O,O,G⟩ G O (fun _=>O)) ?_
    rintro u_ L_ ⟨v17,rfl,rfl⟩
    refine JLm (.vec 1086 v17 1 r16.length) O (JLm (I64 0) O (G7 (hK15 (Zg 10 O O (fun hn_=>Gn ?_)))))
    obtain rfl:=Option.some.inj h
    exact⟨[.vec 1086 v17 1 r16.length,I64 0],[(1086,.vec 3 1 v17 (r16.map I64))],⟨⟨_,O,.vec⟩,G⟩,O,⟨⟨_,O,.conv (.same O)⟩,⟨_,O,.conv (.same O)⟩,G⟩,v17,congrArg (fun n_:Nat=>(.tup [.vec 1086 v17 1 n_,I64 0]:AV)) (hn_.trans (List.length_map _)),O⟩
end
end Go.Proofs.YtecjdioomlhhiaaGreat
