/- Walks of functions. -/
import Derived.Test.YthkihfoleenlmaaGreatXL
set_option maxRecDepth 100000
set_option maxHeartbeats 1000000
set_option linter.unusedVariables false
set_option linter.unusedSimpArgs false
namespace Go.Proofs.YthkihfoleenlmaaGreat
open Go.RowKit
noncomputable section
structure Gt where
 id:Int
 in_:Bool
 deriving DecidableEq,Inhabited
def Gt.cs (x:Gt):List AV:=[I64 x.id,BL x.in_]
def Gt.av (x:Gt):AV:=.agg x.cs
abbrev Ec:=LS 2 Gt.av
namespace XPF
open XAF
open XLF
theorem Haf (a b:Slot):rT Ek 4 81 [.int .i64 a.G6,.int .i64 a.Tier,.int .u8 a.Half] [.int .i64 b.G6,.int .i64 b.Tier,.int .u8 b.Half]=some (decide (a=b)):=by
 refine(show _=some ((a.G6==b.G6)&&((a.Tier==b.Tier)&&((a.Half==b.Half)&&true))) by kernel_rfl).trans (congrArg some ?_)
 rw [Bool.eq_iff_iff]
 simp only [Pp,beq_iff_eq,Pq,Bool.and_true]
 constructor
 .intro h; obtain⟨_,_,_⟩:=a; obtain⟨_,_,_⟩:=b; simp_all
 .intro h; subst h; simp
theorem Q9:iC Ek 81 3=true:=by kernel_rfl
theorem qV:cI Ek 81=true:=by kernel_rfl
theorem H02:H7 Ek 101=true:=by kernel_rfl
theorem QW:H7 Ek 102=true:=by kernel_rfl
theorem H01:H7 Ek 103=true:=by kernel_rfl
theorem H00:H7 Ek 104=true:=by kernel_rfl
theorem Gff:H7 Ek 105=true:=by kernel_rfl
theorem Gfe:H7 Ek 106=true:=by kernel_rfl
theorem Zs:H7 Ek 107=true:=by kernel_rfl
theorem Gfd:H7 Ek 108=true:=by kernel_rfl
theorem QV:H7 Ek 109=true:=by kernel_rfl
theorem yY:H7 Ek 11=true:=by kernel_rfl
theorem QU:H7 Ek 110=true:=by kernel_rfl
theorem Gfc:H7 Ek 111=true:=by kernel_rfl
theorem Gfb:H7 Ek 112=true:=by kernel_rfl
theorem Gfa:H7 Ek 113=true:=by kernel_rfl
theorem Gf9:H7 Ek 114=true:=by kernel_rfl
theorem Gf8:H7 Ek 115=true:=by kernel_rfl
theorem Gf7:H7 Ek 116=true:=by kernel_rfl
theorem Gf6:H7 Ek 117=true:=by kernel_rfl
theorem qU:H7 Ek 118=true:=by kernel_rfl
theorem Gf5:H7 Ek 119=true:=by kernel_rfl
theorem ZZ:H7 Ek 12=true:=by kernel_rfl
theorem QT:H7 Ek 120=true:=by kernel_rfl
theorem Gf4:H7 Ek 121=true:=by kernel_rfl
theorem QS:H7 Ek 122=true:=by kernel_rfl
theorem Gf3:H7 Ek 123=true:=by kernel_rfl
theorem Gf2:H7 Ek 124=true:=by kernel_rfl
theorem Gf1:H7 Ek 125=true:=by kernel_rfl
theorem QR:H7 Ek 126=true:=by kernel_rfl
theorem Gf0:H7 Ek 127=true:=by kernel_rfl
theorem ZY:H7 Ek 13=true:=by kernel_rfl
theorem ZX:H7 Ek 14=true:=by kernel_rfl
theorem yX:H7 Ek 16=true:=by kernel_rfl
theorem ZW:H7 Ek 17=true:=by kernel_rfl
theorem yW:H7 Ek 18=true:=by kernel_rfl
theorem Ge4:H7 Ek 185=true:=by kernel_rfl
theorem Ge3:H7 Ek 186=true:=by kernel_rfl
theorem Ge2:H7 Ek 187=true:=by kernel_rfl
theorem Ge1:H7 Ek 188=true:=by kernel_rfl
theorem vW:H7 Ek 189=true:=by kernel_rfl
theorem ZV:H7 Ek 19=true:=by kernel_rfl
theorem Ge0:H7 Ek 190=true:=by kernel_rfl
theorem QN:H7 Ek 191=true:=by kernel_rfl
theorem QM:H7 Ek 192=true:=by kernel_rfl
theorem qS:H7 Ek 193=true:=by kernel_rfl
theorem QL:H7 Ek 194=true:=by kernel_rfl
theorem QK:H7 Ek 195=true:=by kernel_rfl
theorem Gdf:H7 Ek 196=true:=by kernel_rfl
theorem Gde:H7 Ek 197=true:=by kernel_rfl
theorem Gdd:H7 Ek 198=true:=by kernel_rfl
theorem Gdc:H7 Ek 201=true:=by kernel_rfl
theorem QJ:H7 Ek 202=true:=by kernel_rfl
theorem Gda:H7 Ek 222=true:=by kernel_rfl
theorem Gd9:H7 Ek 223=true:=by kernel_rfl
theorem Gd8:H7 Ek 224=true:=by kernel_rfl
theorem Gd7:H7 Ek 225=true:=by kernel_rfl
theorem Gd6:H7 Ek 226=true:=by kernel_rfl
theorem QI:H7 Ek 238=true:=by kernel_rfl
theorem ZR:H7 Ek 43=true:=by kernel_rfl
theorem yV:H7 Ek 44=true:=by kernel_rfl
theorem H66:H7 Ek 45=true:=by kernel_rfl
theorem H65:H7 Ek 46=true:=by kernel_rfl
theorem ZQ:H7 Ek 47=true:=by kernel_rfl
theorem yU:H7 Ek 48=true:=by kernel_rfl
theorem eJ:H7 Ek 49=true:=by kernel_rfl
theorem H64:H7 Ek 50=true:=by kernel_rfl
theorem H63:H7 Ek 51=true:=by kernel_rfl
theorem ZP:H7 Ek 52=true:=by kernel_rfl
theorem H62:H7 Ek 53=true:=by kernel_rfl
theorem jN:H7 Ek 54=true:=by kernel_rfl
theorem H61:H7 Ek 55=true:=by kernel_rfl
theorem Gd5:Qo Ek 210 2 16=true:=by kernel_rfl
theorem ZG:Qo Ek 81 3 24=true:=by kernel_rfl
theorem xD:Ek.eqGuardType Ek.depth 81=false:=by kernel_rfl
theorem aL:Jm Ek 210 0 0=true:=by kernel_rfl
theorem kO:Jm Ek 210 1 1=true:=by kernel_rfl
theorem Yq:Jm Ek 77 0 0=true:=by kernel_rfl
theorem eI:Jm Ek 77 2 2=true:=by kernel_rfl
theorem lU:Jm Ek 77 3 3=true:=by kernel_rfl
theorem fT:Jm Ek 77 5 5=true:=by kernel_rfl
theorem fS:Jm Ek 77 6 6=true:=by kernel_rfl
theorem Jk:Jm Ek 81 0 0=true:=by kernel_rfl
theorem Qz:Jm Ek 81 1 1=true:=by kernel_rfl
theorem Q4:Jm Ek 81 2 2=true:=by kernel_rfl
theorem Qf:Jm Ek 83 0 0=true:=by kernel_rfl
theorem Jj:Jm Ek 83 1 1=true:=by kernel_rfl
theorem Gd4:GW Ek 3 .i64=true:=by kernel_rfl
theorem Gd3:GW Ek 5 .u8=true:=by kernel_rfl
theorem ZC:fE Ek 202 3 268=true:=by kernel_rfl
theorem G53:placesOf Ek 210=some [(0,1),(1,1)]:=by kernel_rfl
theorem G52:placesOf Ek 268=some []:=by kernel_rfl
theorem nN:placesOf Ek 81=some [(0,1),(1,1),(2,1)]:=by kernel_rfl
theorem G4d:Jc Ek 188=true:=by kernel_rfl
theorem G4c:Jc Ek 202=true:=by kernel_rfl
theorem lT:Jc Ek 203=true:=by kernel_rfl
theorem Jw:Jc Ek 5=true:=by kernel_rfl
theorem QH:Rc Ek 202 1=true:=by kernel_rfl
theorem QG:Rc Ek 203 1=true:=by kernel_rfl
theorem Gce:Rc Ek 268 0=true:=by kernel_rfl
theorem Hdc:Rc Ek 3 1=true:=by kernel_rfl
theorem Hdb:Rc Ek 4 1=true:=by kernel_rfl
theorem ZA:Rc Ek 74 1=true:=by kernel_rfl
theorem dG:Rc Ek 81 3=true:=by kernel_rfl
theorem Yt:sliceB Ek 188 81 3=true:=by kernel_rfl
theorem Qx:sliceB Ek 207 210 2=true:=by kernel_rfl
theorem Gc9:(Ek.info? 210).bind (fun i=>i.zero.map Value.cells)=some (List.toArray [E0,.bool false]):=by kernel_rfl
theorem Gc8:(Ek.info? 268).bind (fun i=>i.zero.map Value.cells)=some (List.toArray []):=by kernel_rfl
theorem Hda:(Ek.info? 3).bind (fun i=>i.zero.map Value.cells)=some (List.toArray [E0]):=by kernel_rfl
theorem H4c:(Ek.info? 35).bind (fun i=>i.zero.map Value.cells)=some (List.toArray [.slice none 0 0]):=by kernel_rfl
theorem YZ:(Ek.info? 51).bind (fun i=>i.zero.map Value.cells)=some (List.toArray [.slice none 0 0]):=by kernel_rfl
theorem lE:(Ek.info? 81).bind (fun i=>i.zero.map Value.cells)=some (List.toArray [E0,E0,.int .u8 0]):=by kernel_rfl
theorem zW:Yf Ek 202 1=true:=by kernel_rfl
theorem zV:Yf Ek 203 1=true:=by kernel_rfl
theorem G97:Yf Ek 210 2=true:=by kernel_rfl
theorem G96:Yf Ek 268 0=true:=by kernel_rfl
theorem JX:Yf Ek 34 1=true:=by kernel_rfl
theorem cY:Yf Ek 81 3=true:=by kernel_rfl
theorem Hd9:(Ek.info? 268).bind (·.zero)=some (.agg #[]):=by kernel_rfl
theorem tk_3:qP Ek 3 Nx:=qP.of_int (by kernel_rfl)
end XPF
open XAF
open XLF
open XPF

def fJ (bx:List Box) (calls:Int):Option Bool:=
 bif (((decide (calls < 1))||(decide (20 < calls)))||(decide (2000 < (bx.length:Int)))) then
 (some false)
 else
 (each (fun a d (b:Int) c=>
   bif ((((((decide (a.ID≤b))||(decide (999999 < a.ID)))||((decide (a.Size≠40))&&((decide (a.Size≠20))||a.High)))||(decide (a.Load < 0)))||(decide (a.Discharge≤a.Load)))||(decide (calls≤a.Discharge))) then
   (some false)
   else
   (c a.ID))
  (fun(b:Int)=>
   some true) bx 0 0)
abbrev Kz (calls:Int):Bool:=((decide (calls < 1))||(decide (20 < calls)))
theorem xA (bx:List Box) (calls:Int) (r:Bool) (h:fJ bx calls=some r):Pure Ek 13 [E3 bx,I64 calls] (·=BL r):=by
 unfold fJ at h
 refine Gy [.tmp 4] Tryz.func13 G G (Jr fun x=>(JLm (BL false) G (G5 (x (Js fun z=>?_)))))
 refine Jr fun a0=>(JLm (I64 calls) G (JLh (BL (decide (calls < 1))) (Hr G G G) G (JLm (BL (decide (calls < 1))) G (JLo (I64 calls) [] G .scf U (fun hc=>G3 G G) G (JLo (BL (decide (20 < calls))) [11] G .scf ⟨Ua,U⟩ (fun hc=>dE G G G) G (JLh (BL (Kz calls)) (Rm G G G G) G (JLm (BL (Kz calls)) G (JLo (E3 bx) [] G .scf U (fun hc=>G3 G G) G (JLo (Ej bx.length) [15] G .scf ⟨Ua,U⟩ (fun hc=>Q8 (f:=Box.av) (xs:=bx) J3 G G) G (JLo (BL (decide (2000 < (bx.length:Int)))) [16] G .scf ⟨Ua,U⟩ (fun hc=>dE G G G) G (JLh (BL ((Kz calls)||(decide (2000 < (bx.length:Int))))) (Rm G G G G) G (G5 (a0 (JCc G h (fun h hb=>?_) (fun h hb=>?_)))))))))))))))
 ·
  refine Jr fun a1=>(JLm (BL false) G (G5 (a1 (Gs (fin1 BL h)))))
 ·
  refine Gn (z (Jr fun a2=>(JLm (I64 0) G (G5 (a2 (Js fun a3=>Jr fun a4=>(JLm (E3 bx) G (JLl J3 G G G fun i=>(JLm (I64 0) G (G5 (a4 (Gf ?_))))))))))))
  obtain⟨a5,j,k,g,h⟩:=Hy h
  refine H8 (fun c (b:Int)=>each a5 j (List.drop c bx) c b=some r) (fun c b=>[(1,I64 calls),(5,I64 b),(19,E3 bx),(20,Ej bx.length),(21,Ej c)]) (fun c b=>[]) (fun c=>bx.length - c) 0 0 h ⟨(.sm G G),U,rfl⟩ ?_
  clear h
  intro c b d a8 a6
  refine Jr fun l=>(JLh (BL (decide ((c:Int) < (bx.length:Int)))) (Hr G G G) G (G5 (l (Js fun m=>Gg G (fun hb=>?_) (fun hb=>?_)))))
  ·
   have e:=Je hb
   obtain⟨a,a7,n,o,h⟩:=Hh d e
   replace h:=Rx k h
   refine Gn (m (Js fun p=>Gf (Jr fun q=>(JLh (Eg a) (Gr (f:=Box.av) (xs:=bx) (y:=a) G G G J3 n G) G (JLh (.agg (Box.cs a)) (Gj bN G G G) G (JLh (.ptr 1020 0) (Jp 1020 9 dX G G) G (J7 (u:=.junk) (Hv (u:=.agg (Box.cs a)) (ds:=(Box.cs a)) cJ G G G G G G G G) (G5 (q (fzQ [(1,I64 calls),(5,I64 b),(7,Eg a),(19,E3 bx),(20,Ej bx.length),(21,Ej c)] [] 1020 rfl rfl rfl U rfl (Js fun s=>?_)))))))))))
   refine Jr fun t=>(JLh (Eg a) (Ga Yq G G G) G (JLh (I64 a.ID) (Ge Gb G G G) G (JLm (I64 b) G (JLh (BL (decide (a.ID≤b))) (rQ G G G) G (JLm (BL (decide (a.ID≤b))) G (JLo (Eg a) [] G .scf U (fun hc=>Ga Yq G G G) G (JLo (I64 a.ID) [30] G .scf ⟨Ua,U⟩ (fun hc=>Ge Gb G G G) G (JLo (BL (decide (999999 < a.ID))) [31] G .scf ⟨Ua,U⟩ (fun hc=>dE G G G) G (JLh (BL ((decide (a.ID≤b))||(decide (999999 < a.ID)))) (Rm G G G G) G (JLm (BL ((decide (a.ID≤b))||(decide (999999 < a.ID)))) G (JLo (.dptr ((Box.cs a).drop 2)) [] G .scf U (fun hc=>Ga eI G G G) G (JLo (U8 a.Size) [35] G .scf ⟨Ua,U⟩ (fun hc=>Ge Jw G G G) G (JLo (BL (decide (a.Size≠40))) [36] G .scf ⟨Ua,U⟩ (fun hc=>aH G G G) G ?_)))))))))))))
   refine JLo (BL (decide (a.Size≠40))) [37] G .scf ⟨Ua,U⟩ (fun hc=>G3 G G) G (JLo (.dptr ((Box.cs a).drop 2)) [] G .optt U (fun hc=>Ga eI G G G) G (JLo (U8 a.Size) [39] G .optt ⟨Ua,U⟩ (fun hc=>Ge Jw G G G) G (JLo (BL (decide (a.Size≠20))) [40] G .optt ⟨Ua,U⟩ (fun hc=>aH G G G) G (JLo (BL (decide (a.Size≠20))) [41] G .optt ⟨Ua,U⟩ (fun hc=>G3 G G) G (JLo (.dptr ((Box.cs a).drop 3)) [] G .optf U (fun hc=>Ga lU G G G) G (JLo (BL a.High) [43] G .optf ⟨Ua,U⟩ (fun hc=>Ge Ye G G G) G (G9 (u:=BL ((decide (a.Size≠20))||a.High)) [(42,BL (decide (a.Size≠20))),(44,_)] G G G .optt ⟨.all id,.part,U⟩ (fun hc=>Rm G G G G) ?_)))))))
   refine G9 (u:=BL ((decide (a.Size≠40))&&((decide (a.Size≠20))||a.High))) [(38,BL (decide (a.Size≠40))),(45,_)] G G G .scf ⟨.all id,.part,U⟩ (fun hc=>J9 G G G G) ?_
   refine JLh (BL (((decide (a.ID≤b))||(decide (999999 < a.ID)))||((decide (a.Size≠40))&&((decide (a.Size≠20))||a.High)))) (Rm G G G G) G (JLm (BL (((decide (a.ID≤b))||(decide (999999 < a.ID)))||((decide (a.Size≠40))&&((decide (a.Size≠20))||a.High)))) G (JLo (.dptr ((Box.cs a).drop 5)) [] G .scf U (fun hc=>Ga fT G G G) G (JLo (I64 a.Load) [49] G .scf ⟨Ua,U⟩ (fun hc=>Ge Gb G G G) G (JLo (BL (decide (a.Load < 0))) [50] G .scf ⟨Ua,U⟩ (fun hc=>Hr G G G) G (JLh (BL ((((decide (a.ID≤b))||(decide (999999 < a.ID)))||((decide (a.Size≠40))&&((decide (a.Size≠20))||a.High)))||(decide (a.Load < 0)))) (Rm G G G G) G (JLm (BL ((((decide (a.ID≤b))||(decide (999999 < a.ID)))||((decide (a.Size≠40))&&((decide (a.Size≠20))||a.High)))||(decide (a.Load < 0)))) G (JLo (.dptr ((Box.cs a).drop 5)) [] G .scf U (fun hc=>Ga fT G G G) G (JLo (I64 a.Load) [54] G .scf ⟨Ua,U⟩ (fun hc=>Ge Gb G G G) G (JLo (.dptr ((Box.cs a).drop 6)) [] G .scf U (fun hc=>Ga fS G G G) G (JLo (I64 a.Discharge) [56] G .scf ⟨Ua,U⟩ (fun hc=>Ge Gb G G G) G (JLo (BL (decide (a.Discharge≤a.Load))) [55,57] G .scf ⟨Ua,Ua,U⟩ (fun hc=>cH G G G) G (JLh (BL (((((decide (a.ID≤b))||(decide (999999 < a.ID)))||((decide (a.Size≠40))&&((decide (a.Size≠20))||a.High)))||(decide (a.Load < 0)))||(decide (a.Discharge≤a.Load)))) (Rm G G G G) G (JLm (BL (((((decide (a.ID≤b))||(decide (999999 < a.ID)))||((decide (a.Size≠40))&&((decide (a.Size≠20))||a.High)))||(decide (a.Load < 0)))||(decide (a.Discharge≤a.Load)))) G ?_)))))))))))))
   refine JLo (.dptr ((Box.cs a).drop 6)) [] G .scf U (fun hc=>Ga fS G G G) G (JLo (I64 a.Discharge) [61] G .scf ⟨Ua,U⟩ (fun hc=>Ge Gb G G G) G (JLo (I64 calls) [] G .scf U (fun hc=>G3 G G) G (JLo (BL (decide (calls≤a.Discharge))) [62,63] G .scf ⟨Ua,Ua,U⟩ (fun hc=>cH G G G) G (JLh (BL ((((((decide (a.ID≤b))||(decide (999999 < a.ID)))||((decide (a.Size≠40))&&((decide (a.Size≠20))||a.High)))||(decide (a.Load < 0)))||(decide (a.Discharge≤a.Load)))||(decide (calls≤a.Discharge)))) (Rm G G G G) G (G5 (t (JCc G h (fun h hb=>?_) (fun h hb=>?_))))))))
   ·
    refine Jr fun v=>(JLm (BL false) G (G5 (v (Gs (fin1 BL h)))))
   ·
    refine Gn (s (G1 (JLh (Eg a) (Ga Yq G G G) G (JLh (I64 a.ID) (Ge Gb G G G) G (JLm (I64 a.ID) G (G5 (p (G1 (JLh (I64 ((c+1:Nat):Int)) (Hs (Hb e i) G G G) G (JLm (I64 ((c+1:Nat):Int)) G (G5 (a6 _ _ (c+1) a.ID (app1 o h) (by omega) ⟨(.sm G G),U,rfl⟩))))))))))))
  ·
   have h:=app1 g (Hi d (H6 hb))
   refine H9 (a3 (Jr fun w=>(JLm (BL true) G (G5 (w (Gs (fin1 BL h)))))))

def kS (l:List G2):Option (List Slot):=
 each (fun b d (a:(List Slot)) c=>
  need (decide ((a.length+[b.Slot].length)*24≤140737488355328/\a.length+[b.Slot].length≤maxLen)) <|
  c (a++[b.Slot]))
 (fun(a:(List Slot))=>
  some a) l 0 []
theorem G2f (l:List G2) (r:(List Slot)) (h:kS l=some r):Pure Ek 101 [E1 l] (·=E6 r):=by
 unfold kS at h
 refine Gy [.tmp 2] Tryz.func101 G G (Jr fun v=>(JLh (E6 ([]:List Slot)) (Qd 3 G G) G (G5 (v (Jr fun w=>(JLh (OW 1112 3 Slot.av ([]:List Slot)) (kY 1112 81 3 G G G) G (G5 (w (Js fun x=>Jr fun z=>(JLm (E1 l) G (JLl H5 G G G fun a0=>(JLm (I64 0) G (G5 (z (Gf ?_)))))))))))))))
 obtain⟨a1,i,j,g,h⟩:=Hy h
 refine H8 (fun c (a:(List Slot))=>each a1 i (List.drop c l) c a=some r) (fun c a=>[(3,OW 1112 3 Slot.av a),(6,E1 l),(7,Ej l.length),(8,Ej c)]) (fun c a=>[(1112,.spare 81 3 a.length a.length)]) (fun c=>l.length - c) 0 [] h ⟨(.sm G G),⟨⟨_,rfl,.same⟩,U⟩,rfl⟩ ?_
 clear h
 intro c a d a4 a2
 refine Jr fun k=>(JLh (BL (decide ((c:Int) < (l.length:Int)))) (Hr G G G) G (G5 (k (Js fun m=>Gg G (fun hb=>?_) (fun hb=>?_)))))
 ·
  have e:=Je hb
  obtain⟨b,a3,n,o,h⟩:=Hh d e
  replace h:=Rx j h
  refine Gn (m (Js fun p=>Gf (Jr fun q=>(JLh (Ee b) (Gr (f:=G2.av) (xs:=l) (y:=b) G G G H5 n G) G (JLh (.agg (G2.cs b)) (Gj Zt G G G) G (JLh (.ptr 1113 0) (Jp 1113 4 Yd G G) G (J7 (u:=.junk) (Hv (u:=.agg (G2.cs b)) (ds:=[I64 b.Box,I64 b.Slot.G6,I64 b.Slot.Tier,U8 b.Slot.Half]) eH G G G G G G G G) (G5 (q (fzQ [(3,OW 1112 3 Slot.av a),(5,Ee b),(6,E1 l),(7,Ej l.length),(8,Ej c)] [(1112,.spare 81 3 a.length a.length)] 1113 rfl rfl rfl ⟨⟨_,rfl,.same⟩,U⟩ rfl (G1 ?_)))))))))))
  refine JLm (OW 1112 3 Slot.av a) G (JLh (.dptr ((G2.cs b).drop 1)) (Ga Jj G G G) G (JLh (.agg ((G2.cs b).drop 1)) (Gj Q9 G G G) G (JLh (E6 [b.Slot]) (Hf (xs:=[.agg ((G2.cs b).drop 1)]) G ⟨G,G,U⟩ Yt cY G G G G) G ?_)))
  obtain⟨s,h⟩:=J5 h
  refine JLh (OW 1112 3 Slot.av (a++[b.Slot])) (R8 (f:=Slot.av) (xs:=a) (ys:=[b.Slot]) G G G G Yt ZG s (fun _=>G) (.inl G) G) G (JLm (OW 1112 3 Slot.av (a++[b.Slot])) G (G5 (p (G1 (JLh (I64 ((c+1:Nat):Int)) (Hs (Hb e a0) G G G) G (JLm (I64 ((c+1:Nat):Int)) G (G5 (a2 _ _ (c+1) (a++[b.Slot]) (app1 o h) (by omega) ⟨(.sm G G),⟨⟨_,rfl,.same⟩,U⟩,rfl⟩))))))))
 ·
  have h:=app1 g (Hi d (H6 hb))
  refine H9 (x (Jr fun t=>(JLm (OW 1112 3 Slot.av a) G (JLm (OW 1112 3 Slot.av a) G (G5 (t (Gs (fin1l (fun r:(List Slot)=>(E6 r:AV)) h))))))))

def iY (b:Box) (a:Int):Option Bool:=
 some (decide (b.ID=a))
theorem YH (b:Box) (a:Int) (r:Bool) (h:iY b a=some r):Pure Ek 186 [.agg (Box.cs b),.dptr [I64 a]] (·=BL r):=by
 unfold iY at h
 refine Gy [.tmp 3] Tryz.func186 G G (Jr fun c=>(JLh (.ptr 1158 0) (Jy (cs:=(Box.cs b)) 1158 G G G G G) G (JLm (BL false) G (G5 (c (Gw [(1,.dptr [I64 a]),(2,Eg b)] [] 1158 rfl rfl rfl U rfl (by exact⟨.conv (.same rfl),.ptr,U⟩) (Jr fun d=>(JLh (Eg b) (Ga Yq G G G) G (JLh (I64 b.ID) (Ge Gb G G G) G (JLh (I64 a) (Ge Gb G G G) G (JLh (BL (decide (b.ID=a))) (Qc G G G) G (JLm (BL (decide (b.ID=a))) G (G5 (d (Gs (fin1 BL h))))))))))))))))

def bF (s:List Box) (f:Box→Option Bool):Option Int:=
 each (fun b c (d:Unit) a=>
  bnd (f b) fun e=>
  bif e then
  (some (c:Int))
  else
  (a ()))
 (fun(d:Unit)=>
  some (-1)) s 0 ()
theorem oH (s:List Box) (f:Box→Option Bool) (f_f:FuncId) (f_c:List AV) (f_B:H7 Ek f_f=true) (f_d:Ys (fun _=>false) f_c=true) (f_w:∀ a0 q,f a0=some q→Pure Ek f_f ([.agg (Box.cs a0)]++f_c) (·=BL q)) (r:Int) (h:bF s f=some r):Pure Ek 185 [E3 s,.fn f_f f_c] (·=I64 r):=by
 unfold bF at h
 refine Gy [.tmp 4] Tryz.func185 G G (Jr fun x=>(JLm (I64 0) G (G5 (x (Js fun z=>Jr fun a1=>(JLm (E3 s) G (JLl J3 G G G fun a2=>(JLm (I64 0) G (G5 (a1 (Gf ?_)))))))))))
 obtain⟨a3,i,j,g,h⟩:=Hy h
 refine H8 (fun a (c:Unit)=>each a3 i (List.drop a s) a c=some r) (fun a c=>[(0,E3 s),(1,.fn f_f f_c),(7,Ej s.length),(8,Ej a)]) (fun a c=>[]) (fun a=>s.length - a) 0 () h ⟨⟨.same G,.same (Qw _ _ f_d),.same G,.same G,U⟩,U,G⟩ ?_
 clear h
 intro a c d a7 a4
 refine Jr fun k=>(JLh (BL (decide ((a:Int) < (s.length:Int)))) (Hr G G G) G (G5 (k (Js fun l=>Gg G (fun hb=>?_) (fun hb=>?_)))))
 ·
  have e:=Je hb
  obtain⟨b,a6,m,n,h⟩:=Hh d e
  replace h:=Rx j h
  refine Gn (l (Js fun o=>Gf (Jr fun p=>(JLm (Ej a) G (JLm (Ej a) G (G5 (p (Jr fun t=>(JLm (.fn f_f f_c) G (JLm (E3 s) G (JLm (Ej a) G (JLh (Eg b) (Gr (f:=Box.av) (xs:=s) (y:=b) G G G J3 m G) G (JLh (.agg (Box.cs b)) (Gj bN G G G) G ?_)))))))))))))
  obtain⟨a5,u,h⟩:=Gd h
  refine JLh (BL a5) (fR (args:=[.agg (Box.cs b)]) (caps:=f_c) G G (f_w b _ u) f_B ⟨G,G,U⟩ f_d) G (G5 (t (JCc G h (fun h hb=>?_) (fun h hb=>?_))))
  ·
   refine Jr fun v=>(JLm (Ej a) G (JLm (Ej a) G (G5 (v (Gs (fin1 I64 h))))))
  ·
   refine Gn (o (G1 (JLh (I64 ((a+1:Nat):Int)) (Hs (Hb e a2) G G G) G (JLm (I64 ((a+1:Nat):Int)) G (G5 (a4 _ _ (a+1) () (app1 n h) (by omega) ⟨⟨.same rfl,.same (Qw _ _ f_d),.same rfl,.same rfl,U⟩,U,rfl⟩))))))
 ·
  have h:=app1 g (Hi d (H6 hb))
  refine H9 (z (Jr fun w=>(JLm (I64 (-1)) G (G5 (w (Gs (fin1 I64 h)))))))

def kG (bx:List Box) (id_:Int):Option (Box×Bool):=
 bnd (bF bx (fun z0=>iY z0 id_)) fun a=>
 bif decide (a < 0) then
 (some ((Box.mk 0 ByteArray.empty 0 false 0 0 0 0 false),false))
 else
 (Jo bx a fun b=>
  some (b,true))
abbrev M0:List AV:=[I64 0,ST P5,U8 0,BL false,I64 0,I64 0,I64 0,U8 0,BL false]
theorem yE (bx:List Box) (id_:Int) (r:Box×Bool) (h:kG bx id_=some r):Pure Ek 102 [E3 bx,I64 id_] (·=.tup [.agg (Box.cs r.1),BL r.2]):=by
 unfold kG at h
 refine Gy [.cell 4 77,.tmp 5] Tryz.func102 G G (Jr fun c=>(JLh (.ptr 1114 0) (Jy (cs:=[I64 id_]) 1114 G G G G G) G (JLh (.ptr 1115 0) (Rn 1115 M0 [E0,.string ByteArray.empty,.int .u8 0,.bool false,E0,E0,E0,.int .u8 0,.bool false] fG (zzQ G) G G) G (JLm (BL false) G (G5 (c (Gw [(0,E3 bx),(3,.dptr [I64 id_]),(4,.ptr 1115 0)] [(1115,.box 77 M0)] 1114 rfl rfl rfl ⟨⟨_,rfl,.boxEq rfl rfl⟩,U⟩ rfl (by exact⟨.conv (.same rfl),.ptr,.conv (.same rfl),U⟩) ?_)))))))
 refine Jr fun d=>(JLm (E3 bx) G (JLh (.fn 186 [.dptr [I64 id_]]) (eS (cs:=[.dptr [I64 id_]]) G G) G ?_))
 obtain⟨a,e,h⟩:=Gd h
 refine JLh (I64 a) (Gi G (oH bx (fun z0=>iY z0 id_) 186 [.dptr [I64 id_]] Ge3 G (fun z0 q hq=>YH z0 id_ q hq) a e) Ge4 ⟨G,G,G,G,U⟩) G (JLm (I64 a) G (G5 (d (Js fun g=>Jr fun i=>(JLm (I64 a) G (JLh (BL (decide (a < 0))) (Hr G G G) G (G5 (i (JCc G h (fun h hb=>?_) (fun h hb=>?_))))))))))
 ·
  refine Jr fun j=>(JLh (.agg M0) (Jq (cs:=M0) [(0,1),(1,1),(2,1),(3,1),(4,1),(5,1),(6,1),(7,1),(8,1)] M0 [E0,.string ByteArray.empty,.int .u8 0,.bool false,E0,E0,E0,.int .u8 0,.bool false] hY fG (zzQ G) G G) G (J7 (u:=.junk) (Hv (u:=.agg M0) (ds:=M0) cJ G G G G G G G G) (JLm (BL false) G (G5 (j ?_)))))
  refine Gs (⟨[.agg M0,BL false],[],U,G,⟨⟨_,⟨_,_,_,_,G,G,G,.inl ⟨bN,G⟩⟩,.conv (.same G)⟩,⟨_,G,.conv (.same G)⟩,U⟩,G,congrArg (fun r:Box×Bool=>(.tup [.agg (Box.cs r.1),BL r.2]:AV)) (Pc h)⟩)
 ·
  refine Gn (g (Jr fun k=>(JLm (E3 bx) G (JLm (I64 a) G ?_))))
  obtain⟨n,b,l,m,h⟩:=R0 h
  refine JLh (Eg b) (Gr (f:=Box.av) (xs:=bx) (y:=b) G G G J3 m l) G (JLh (.agg (Box.cs b)) (Gj bN G G G) G (J7 (u:=.junk) (Hv (u:=.agg (Box.cs b)) (ds:=(Box.cs b)) cJ G G G G G G G G) (JLm (BL true) G (G5 (k (Gs (⟨[.agg (Box.cs b),BL true],[],U,G,⟨⟨_,⟨_,_,_,_,G,G,G,.inl ⟨bN,G⟩⟩,.conv (.same G)⟩,⟨_,G,.conv (.same G)⟩,U⟩,G,congrArg (fun r:Box×Bool=>(.tup [.agg (Box.cs r.1),BL r.2]:AV)) (Pc h)⟩)))))))

def cG (s:List Int) (v:Int):Option Int:=
 each (fun b c (d:Unit) a=>
  bif decide (v=b) then
  (some (c:Int))
  else
  (a ()))
 (fun(d:Unit)=>
  some (-1)) s 0 ()
theorem uT (s:List Int) (v:Int) (r:Int) (h:cG s v=some r):Pure Ek 222 [Eb s,U8 v] (·=I64 r):=by
 unfold cG at h
 refine Gy [.tmp 4] Tryz.func222 G G (Jr fun w=>(JLm (I64 0) G (G5 (w (Js fun x=>Jr fun z=>(JLm (Eb s) G (JLl nL G G G fun a0=>(JLm (I64 0) G (G5 (z (Gf ?_)))))))))))
 obtain⟨a1,i,j,g,h⟩:=Hy h
 refine H8 (fun a (b:Unit)=>each a1 i (List.drop a s) a b=some r) (fun a b=>[(0,Eb s),(1,U8 v),(7,Ej s.length),(8,Ej a)]) (fun a b=>[]) (fun a=>s.length - a) 0 () h ⟨(.sm G G),U,rfl⟩ ?_
 clear h
 intro a b d a4 a2
 refine Jr fun k=>(JLh (BL (decide ((a:Int) < (s.length:Int)))) (Hr G G G) G (G5 (k (Js fun l=>Gg G (fun hb=>?_) (fun hb=>?_)))))
 ·
  have e:=Je hb
  obtain⟨c,a3,m,n,h⟩:=Hh d e
  replace h:=Rx j h
  refine Gn (l (Js fun o=>Gf (Jr fun p=>(JLm (Ej a) G (JLm (Ej a) G (G5 (p (Jr fun q=>(JLm (U8 v) G (JLm (Eb s) G (JLm (Ej a) G (JLh (.dptr [U8 c]) (Gr (f:=U8) (xs:=s) (y:=c) G G G nL m G) G (JLh (U8 c) (Ge Jw G G G) G (JLh (BL (decide (v=c))) (Qc G G G) G (G5 (q (JCc G h (fun h hb=>?_) (fun h hb=>?_))))))))))))))))))
  ·
   refine Jr fun t=>(JLm (Ej a) G (JLm (Ej a) G (G5 (t (Gs (fin1 I64 h))))))
  ·
   refine Gn (o (G1 (JLh (I64 ((a+1:Nat):Int)) (Hs (Hb e a0) G G G) G (JLm (I64 ((a+1:Nat):Int)) G (G5 (a2 _ _ (a+1) () (app1 n h) (by omega) ⟨(.sm G G),U,rfl⟩))))))
 ·
  have h:=app1 g (Hi d (H6 hb))
  refine H9 (x (Jr fun u=>(JLm (I64 (-1)) G (G5 (u (Gs (fin1 I64 h)))))))

def aG (s:List Int) (v:Int):Option Bool:=
 bnd (cG s v) fun a=>
 some (decide (0≤a))
theorem qO (s:List Int) (v:Int) (r:Bool) (h:aG s v=some r):Pure Ek 187 [Eb s,U8 v] (·=BL r):=by
 unfold aG at h
 refine Gy [.tmp 4] Tryz.func187 G G (Jr fun b=>(JLm (BL false) G (G5 (b (Jr fun c=>(JLm (Eb s) G (JLm (U8 v) G ?_)))))))
 obtain⟨a,d,h⟩:=Gd h
 refine JLh (I64 a) (Gi G (uT s v a d) Gda ⟨G,G,G,G,U⟩) G (JLh (BL (decide (0≤a))) (cH G G G) G (JLm (BL (decide (0≤a))) G (G5 (c (Gs (fin1 BL h))))))

def kT (s:Gq) (x:Slot) (size:Int):Option Bool:=
 bnd (bif (((decide (0≤x.G6))&&(decide (x.G6 < (s.Columns.length:Int))))&&(decide (0≤x.Tier))) then Jo s.Columns x.G6 some else some default) fun a=>
 bnd (bif ((((decide (0≤x.G6))&&(decide (x.G6 < (s.Columns.length:Int))))&&(decide (0≤x.Tier)))&&(decide (x.Tier < a.Tiers))) then jA size else some default) fun b=>
 bnd (bif ((((decide (0≤x.G6))&&(decide (x.G6 < (s.Columns.length:Int))))&&(decide (0≤x.Tier)))&&(decide (x.Tier < a.Tiers))) then aG b x.Half else some default) fun c=>
 some (((((decide (0≤x.G6))&&(decide (x.G6 < (s.Columns.length:Int))))&&(decide (0≤x.Tier)))&&(decide (x.Tier < a.Tiers)))&&c)
abbrev M1 (x:Slot) (s:Gq):Bool:=(((decide (0≤x.G6))&&(decide (x.G6 < (s.Columns.length:Int))))&&(decide (0≤x.Tier)))
abbrev M2 (x:Slot):List AV:=[I64 x.G6,I64 x.Tier,U8 x.Half]
abbrev M3 (x:Slot) (s:Gq):Bool:=((decide (0≤x.G6))&&(decide (x.G6 < (s.Columns.length:Int))))
theorem G30 (s:Gq) (x:Slot) (size:Int) (r:Bool) (h:kT s x size=some r):Pure Ek 103 [.agg (Gq.cs s),.agg [I64 x.G6,I64 x.Tier,U8 x.Half],U8 size] (·=BL r):=by
 unfold kT at h
 refine Gy [.tmp 6] Tryz.func103 G G (Jr fun d=>(JLh (.ptr 1116 0) (Jy (cs:=(Gq.cs s)) 1116 G G G G G) G (JLh (.ptr 1117 0) (Jy (cs:=(M2 x)) 1117 G G G G G) G (JLm (BL false) G (G5 (d (Gw [(2,U8 size),(3,Ed s),(4,.ptr 1117 0)] [(1117,.box 81 (M2 x))] 1116 rfl rfl rfl ⟨⟨_,rfl,.boxEq rfl rfl⟩,U⟩ rfl (by exact⟨.conv (.same rfl),.ptr,.conv (.same rfl),U⟩) ?_)))))))
 refine Gw [(2,U8 size),(3,Ed s),(4,.dptr (M2 x))] [] 1117 rfl rfl rfl U rfl (by exact⟨.conv (.same rfl),.conv (.same rfl),.ptr,U⟩) (Js fun e=>?_)
 obtain⟨a,g,h⟩:=Gd h
 obtain⟨b,i,h⟩:=Gd h
 obtain⟨c,j,h⟩:=Gd h
 refine JC_d0 Jd (by kernel_rfl) (Dq (.dptr (M2 x)) (Ga Jk G G G) G (Dq (I64 x.G6) (Ge Gb G G G) G (Dq (BL (decide (0≤x.G6))) (cH G G G) G (Dq (BL (decide (0≤x.G6))) (G3 G G) G (Do (.dptr (M2 x)) [] G .sct U (fun hc=>Ga Jk G G G) G (Do (I64 x.G6) [11] G .sct ⟨Ua,U⟩ (fun hc=>Ge Gb G G G) G (Do (Ed s) [] G .sct U (fun hc=>Ga Hu G G G) G (Do (E4 s.Columns) [13] G .sct ⟨Ua,U⟩ (fun hc=>Ge J2 G G G) G (Do (Ej s.Columns.length) [14] G .sct ⟨Ua,U⟩ (fun hc=>Q8 (f:=G6.av) (xs:=s.Columns) Hd G G) G (Do (BL (decide (x.G6 < (s.Columns.length:Int)))) [12,15] G .sct ⟨Ua,Ua,U⟩ (fun hc=>Hr G G G) G (Dq (BL (M3 x s)) (J9 G G G G) G (Dq (BL (M3 x s)) (G3 G G) G (Do (.dptr [I64 x.Tier,U8 x.Half]) [] G .sct U (fun hc=>Ga Qz G G G) G ?_)))))))))))))
 refine Do (I64 x.Tier) [19] G .sct ⟨Ua,U⟩ (fun hc=>Ge Gb G G G) G (Do (BL (decide (0≤x.Tier))) [20] G .sct ⟨Ua,U⟩ (fun hc=>cH G G G) G (Dq (BL (M1 x s)) (J9 G G G G) G (Dq (BL (M1 x s)) (G3 G G) G (Do (.dptr [I64 x.Tier,U8 x.Half]) [] G .sct U (fun hc=>Ga Qz G G G) G (Do (I64 x.Tier) [24] G .sct ⟨Ua,U⟩ (fun hc=>Ge Gb G G G) G (Do (Ed s) [] G .sct U (fun hc=>Ga Hu G G G) G (Do (E4 s.Columns) [26] G .sct ⟨Ua,U⟩ (fun hc=>Ge J2 G G G) G (Do (.dptr (M2 x)) [] G .sct U (fun hc=>Ga Jk G G G) G (Do (I64 x.G6) [28] G .sct ⟨Ua,U⟩ (fun hc=>Ge Gb G G G) G (Do (Ef a) [27,29] G .sct ⟨Ua,Ua,U⟩ (fun hc=>(match Jt (Gv hc g) with | ⟨_,hm_,hy_⟩=>Gr (f:=G6.av) (xs:=s.Columns) (y:=a) G G G Hd hy_ hm_)) G (Do (.dptr ((G6.cs a).drop 3)) [30] G .sct ⟨Ua,U⟩ (fun hc=>Ga bR G G G) G (Do (I64 a.Tiers) [31] G .sct ⟨Ua,U⟩ (fun hc=>Ge Gb G G G) G (Do (BL (decide (x.Tier < a.Tiers))) [25,32] G .sct ⟨Ua,Ua,U⟩ (fun hc=>Hr G G G) G ?_)))))))))))))
 refine Dq (BL ((M1 x s)&&(decide (x.Tier < a.Tiers)))) (J9 G G G G) G (Dq (BL ((M1 x s)&&(decide (x.Tier < a.Tiers)))) (G3 G G) G (Do (U8 size) [] G .sct U (fun hc=>G3 G G) G (Do (Eb b) [36] G .sct ⟨Ua,U⟩ (fun hc=>Gi (args:=[U8 size]) G (YI size b (Gv hc i)) Ge1 ⟨G,G,U⟩) G (Do (.dptr [U8 x.Half]) [] G .sct U (fun hc=>Ga Q4 G G G) G (Do (U8 x.Half) [38] G .sct ⟨Ua,U⟩ (fun hc=>Ge Jw G G G) G (Do (BL c) [37,39] G .sct ⟨Ua,Ua,U⟩ (fun hc=>Gi (args:=[Eb b,U8 x.Half]) G (qO b x.Half c (Gv hc j)) Ge2 ⟨G,G,G,G,U⟩) G (Dq (BL (((M1 x s)&&(decide (x.Tier < a.Tiers)))&&c)) (J9 G G G G) G (Dq (BL (((M1 x s)&&(decide (x.Tier < a.Tiers)))&&c)) (G7 G G) G (Dnil ?_)))))))))
 refine e (Gs (fin1 BL h))

def aU (s:List Slot) (v:Slot):Option Int:=
 each (fun b c (d:Unit) a=>
  bif decide (v=b) then
  (some (c:Int))
  else
  (a ()))
 (fun(d:Unit)=>
  some (-1)) s 0 ()
theorem sD (s:List Slot) (v:Slot) (r:Int) (h:aU s v=some r):Pure Ek 223 [E6 s,.agg [I64 v.G6,I64 v.Tier,U8 v.Half]] (·=I64 r):=by
 unfold aU at h
 refine Gy [.tmp 4] Tryz.func223 G G (Jr fun w=>(JLh (.ptr 1180 0) (Jy (cs:=[I64 v.G6,I64 v.Tier,U8 v.Half]) 1180 G G G G G) G (JLm (I64 0) G (G5 (w (Gw [(0,E6 s),(3,.dptr [I64 v.G6,I64 v.Tier,U8 v.Half])] [] 1180 rfl rfl rfl U rfl (by exact⟨.conv (.same rfl),.ptr,U⟩) (Js fun x=>Jr fun z=>(JLm (E6 s) G (JLl Yt G G G fun a0=>(JLm (I64 0) G (G5 (z (Gf ?_)))))))))))))
 obtain⟨a1,i,j,g,h⟩:=Hy h
 refine H8 (fun a (c:Unit)=>each a1 i (List.drop a s) a c=some r) (fun a c=>[(0,E6 s),(3,.dptr [I64 v.G6,I64 v.Tier,U8 v.Half]),(7,Ej s.length),(8,Ej a)]) (fun a c=>[]) (fun a=>s.length - a) 0 () h ⟨(.sm G G),U,rfl⟩ ?_
 clear h
 intro a c d a4 a2
 refine Jr fun k=>(JLh (BL (decide ((a:Int) < (s.length:Int)))) (Hr G G G) G (G5 (k (Js fun l=>Gg G (fun hb=>?_) (fun hb=>?_)))))
 ·
  have e:=Je hb
  obtain⟨b,a3,m,n,h⟩:=Hh d e
  replace h:=Rx j h
  refine Gn (l (Js fun o=>Gf (Jr fun p=>(JLm (Ej a) G (JLm (Ej a) G (G5 (p (Js fun q=>JC_d0 Jd (by kernel_rfl) (Dq (.agg [I64 v.G6,I64 v.Tier,U8 v.Half]) (Gj Q9 G G G) G (Dq (E6 s) (G3 G G) G (Dq (Ej a) (G3 G G) G (Dq (Eh b) (Gr (f:=Slot.av) (xs:=s) (y:=b) G G G Yt m G) G (Dq (.agg (Slot.cs b)) (Gj Q9 G G G) G (Dq (BL (decide (v=b))) (lA (vs:=[.int .i64 v.G6,.int .i64 v.Tier,.int .u8 v.Half]) (us:=[.int .i64 b.G6,.int .i64 b.Tier,.int .u8 b.Half]) 4 G (Haf v b) qV xD G G G) G (Dnil (q (JCc G h (fun h hb=>?_) (fun h hb=>?_))))))))))))))))))
  ·
   refine Jr fun t=>(JLm (Ej a) G (JLm (Ej a) G (G5 (t (Gs (fin1 I64 h))))))
  ·
   refine Gn (o (G1 (JLh (I64 ((a+1:Nat):Int)) (Hs (Hb e a0) G G G) G (JLm (I64 ((a+1:Nat):Int)) G (G5 (a2 _ _ (a+1) () (app1 n h) (by omega) ⟨(.sm G G),U,rfl⟩))))))
 ·
  have h:=app1 g (Hi d (H6 hb))
  refine H9 (x (Jr fun u=>(JLm (I64 (-1)) G (G5 (u (Gs (fin1 I64 h)))))))

def Z8 (s:List Slot) (v:Slot):Option Bool:=
 bnd (aU s v) fun a=>
 some (decide (0≤a))
theorem oI (s:List Slot) (v:Slot) (r:Bool) (h:Z8 s v=some r):Pure Ek 190 [E6 s,.agg [I64 v.G6,I64 v.Tier,U8 v.Half]] (·=BL r):=by
 unfold Z8 at h
 refine Gy [.tmp 4] Tryz.func190 G G (Jr fun b=>(JLh (.ptr 1159 0) (Jy (cs:=[I64 v.G6,I64 v.Tier,U8 v.Half]) 1159 G G G G G) G (JLm (BL false) G (G5 (b (Gw [(0,E6 s),(3,.dptr [I64 v.G6,I64 v.Tier,U8 v.Half])] [] 1159 rfl rfl rfl U rfl (by exact⟨.conv (.same rfl),.ptr,U⟩) (Jr fun c=>(JLm (E6 s) G (JLh (.agg [I64 v.G6,I64 v.Tier,U8 v.Half]) (Gj Q9 G G G) G ?_)))))))))
 obtain⟨a,d,h⟩:=Gd h
 refine JLh (I64 a) (Gi G (sD s v a d) Gd9 ⟨G,G,G,G,U⟩) G (JLh (BL (decide (0≤a))) (cH G G G) G (JLm (BL (decide (0≤a))) G (G5 (c (Gs (fin1 BL h))))))

def eQ (half:Int) (b:List Slot) (a:Slot):Option Bool:=
 chk (a.Tier - 1) fun c=>
 bnd (Z8 b (Slot.mk a.G6 c half)) fun d=>
 some d
theorem nC (half:Int) (b:List Slot) (a:Slot) (r:Bool) (h:eQ half b a=some r):Pure Ek 189 [U8 half,.dptr [E6 b],.dptr [I64 a.G6,I64 a.Tier,U8 a.Half]] (·=BL r):=by
 unfold eQ at h
 refine Gy [.tmp 4] Tryz.func189 G G (Jr fun e=>(JLm (BL false) G (G5 (e (Jr fun f=>(JLh (E6 b) (Ge G4d G G G) G (JLh (.dptr [I64 a.G6,I64 a.Tier,U8 a.Half]) (Ga Jk G G G) G (JLh (I64 a.G6) (Ge Gb G G G) G (JLh (.dptr [I64 a.Tier,U8 a.Half]) (Ga Qz G G G) G (JLh (I64 a.Tier) (Ge Gb G G G) G ?_))))))))))
 obtain⟨c,g,h⟩:=R2 h
 refine JLh (I64 c) (kX g G G G) G (JLm (U8 half) G (JLh (.agg [I64 a.G6,I64 c,U8 half]) (Jq (cs:=[I64 a.G6,I64 c,U8 half]) [(0,1),(1,1),(2,1)] [I64 0,I64 0,U8 0] [E0,E0,.int .u8 0] nN lE (zzQ G) G G) G ?_))
 obtain⟨d,i,h⟩:=Gd h
 refine JLh (BL d) (Gi G (oI b (Slot.mk a.G6 c half) d i) Ge0 ⟨G,G,G,G,U⟩) G (JLm (BL d) G (G5 (f (Gs (fin1 BL h)))))

def mN (x:Slot) (l:List Slot):Option Bool:=
 bif decide (x.Tier≤0) then
 (some true)
 else
 (bnd (eQ x.Half l x) fun a=>
  bnd (bif ((!a)&&(decide (x.Half=0))) then eQ 1 l x else some default) fun b=>
  bnd (bif ((!a)&&((decide (x.Half=0))&&b)) then eQ 2 l x else some default) fun c=>
  some (a||(((decide (x.Half=0))&&b)&&c)))
abbrev M4 (l:List Slot) (x:Slot):List AV:=[.dptr [E6 l],.dptr [I64 x.G6,I64 x.Tier,U8 x.Half]]
theorem G63 (x:Slot) (l:List Slot) (r:Bool) (h:mN x l=some r):Pure Ek 104 [.agg [I64 x.G6,I64 x.Tier,U8 x.Half],E6 l] (·=BL r):=by
 unfold mN at h
 refine Gy [.tmp 4] Tryz.func104 G G (Jr fun d=>(JLh (.ptr 1118 0) (Jy (cs:=(M2 x)) 1118 G G G G G) G (JLh (.ptr 1119 0) (Jy (cs:=[E6 l]) 1119 G G G G G) G (JLm (BL false) G (G5 (d (Gw [(2,.dptr (M2 x)),(3,.ptr 1119 0)] [(1119,.box 188 [E6 l])] 1118 rfl rfl rfl ⟨⟨_,rfl,.boxEq rfl rfl⟩,U⟩ rfl (by exact⟨.ptr,.conv (.same rfl),U⟩) (Gw [(2,.dptr (M2 x)),(3,.dptr [E6 l])] [] 1119 rfl rfl rfl U rfl (by exact⟨.conv (.same rfl),.ptr,U⟩) (Js fun e=>Jr fun f=>(JLh (.dptr [I64 x.Tier,U8 x.Half]) (Ga Qz G G G) G (JLh (I64 x.Tier) (Ge Gb G G G) G (JLh (BL (decide (x.Tier≤0))) (rQ G G G) G (G5 (f ?_))))))))))))))
 refine JCc G h ?_ ?_<;>intro h hb
 ·
  refine Jr fun g=>(JLm (BL true) G (G5 (g (Gs (fin1 BL h)))))
 ·
  refine Gn (e (Jr fun i=>(JLh (.fn 189 (M4 l x)) (eS (cs:=(M4 l x)) G G) G (JLm (.fn 189 (M4 l x)) G (G5 (i (Jr fun j=>(JLm (.fn 189 (M4 l x)) G (JLh (.dptr [U8 x.Half]) (Ga Q4 G G G) G (JLh (U8 x.Half) (Ge Jw G G G) G ?_))))))))))
  obtain⟨b,k,h⟩:=Gd h
  refine JLh (BL b) (fR (args:=[U8 x.Half]) (caps:=(M4 l x)) G G (nC x.Half l x b k) vW ⟨G,G,U⟩ G) G (JLm (BL b) G (JLo (.dptr [U8 x.Half]) [] G .scf U (fun hc=>Ga Q4 G G G) G (JLo (U8 x.Half) [15] G .scf ⟨Ua,U⟩ (fun hc=>Ge Jw G G G) G (JLo (BL (decide (x.Half=0))) [16] G .scf ⟨Ua,U⟩ (fun hc=>Qc G G G) G (JLo (BL (decide (x.Half=0))) [17] G .scf ⟨Ua,U⟩ (fun hc=>G3 G G) G (JLo (.fn 189 (M4 l x)) [] G .optt U (fun hc=>G3 G G) G ?_))))))
  obtain⟨a,m,h⟩:=Gd h
  refine JLo (BL a) [19] G .optt ⟨Ua,U⟩ (fun hc=>fR (args:=[U8 1]) (caps:=(M4 l x)) G G (nC 1 l x a (Gv hc m)) vW ⟨G,G,U⟩ G) G (G9 (u:=BL ((decide (x.Half=0))&&a)) [(18,BL (decide (x.Half=0))),(20,_)] G G G .scf ⟨.all id,.part,U⟩ (fun hc=>J9 G G G G) ?_)
  refine JLo (BL ((decide (x.Half=0))&&a)) [21] G .scf ⟨Ua,U⟩ (fun hc=>G3 G G) G (JLo (.fn 189 (M4 l x)) [] G .optt U (fun hc=>G3 G G) G ?_)
  obtain⟨c,n,h⟩:=Gd h
  refine JLo (BL c) [23] G .optt ⟨Ua,U⟩ (fun hc=>fR (args:=[U8 2]) (caps:=(M4 l x)) G G (nC 2 l x c (Gv hc n)) vW ⟨G,G,U⟩ G) G (G9 (u:=BL (((decide (x.Half=0))&&a)&&c)) [(22,BL ((decide (x.Half=0))&&a)),(24,_)] G G G .scf ⟨.all id,.part,U⟩ (fun hc=>J9 G G G G) ?_)
  refine JLh (BL (b||(((decide (x.Half=0))&&a)&&c))) (Rm G G G G) G (JLm (BL (b||(((decide (x.Half=0))&&a)&&c))) G (G5 (j (Gs (fin1 BL h)))))

def gE (a:Int) (b:Int):Option Bool:=
 some (((decide (a=b))||(decide (a=0)))||(decide (b=0)))
abbrev M5 (a:Int) (b:Int):Bool:=((decide (a=b))||(decide (a=0)))
theorem vC (a:Int) (b:Int) (r:Bool) (h:gE a b=some r):Pure Ek 191 [U8 a,U8 b] (·=BL r):=by
 unfold gE at h
 refine Gy [.tmp 4] Tryz.func191 G G (Jr fun c=>(JLm (BL false) G (G5 (c (Jr fun d=>(JLm (U8 a) G (JLm (U8 b) G (JLh (BL (decide (a=b))) (Qc G G G) G (JLm (BL (decide (a=b))) G (JLo (U8 a) [] G .scf U (fun hc=>G3 G G) G (JLo (BL (decide (a=0))) [9] G .scf ⟨Ua,U⟩ (fun hc=>Qc G G G) G (JLh (BL (M5 a b)) (Rm G G G G) G (JLm (BL (M5 a b)) G (JLo (U8 b) [] G .scf U (fun hc=>G3 G G) G (JLo (BL (decide (b=0))) [13] G .scf ⟨Ua,U⟩ (fun hc=>Qc G G G) G (JLh (BL ((M5 a b)||(decide (b=0)))) (Rm G G G G) G (JLm (BL ((M5 a b)||(decide (b=0)))) G (G5 (d (Gs (fin1 BL h)))))))))))))))))))))

def mM (a:Slot) (b:Slot):Option Bool:=
 bnd (bif ((decide (a.G6=b.G6))&&(decide (a.Tier=b.Tier))) then gE a.Half b.Half else some default) fun c=>
 some (((decide (a.G6=b.G6))&&(decide (a.Tier=b.Tier)))&&c)
abbrev M6 (a:Slot) (b:Slot):Bool:=((decide (a.G6=b.G6))&&(decide (a.Tier=b.Tier)))
theorem G62 (a:Slot) (b:Slot) (r:Bool) (h:mM a b=some r):Pure Ek 105 [.agg [I64 a.G6,I64 a.Tier,U8 a.Half],.agg [I64 b.G6,I64 b.Tier,U8 b.Half]] (·=BL r):=by
 unfold mM at h
 refine Gy [.tmp 4] Tryz.func105 G G (Jr fun d=>(JLh (.ptr 1120 0) (Jy (cs:=(M2 a)) 1120 G G G G G) G (JLh (.ptr 1121 0) (Jy (cs:=(M2 b)) 1121 G G G G G) G (JLm (BL false) G (G5 (d (Gw [(2,.dptr (M2 a)),(3,.ptr 1121 0)] [(1121,.box 81 (M2 b))] 1120 rfl rfl rfl ⟨⟨_,rfl,.boxEq rfl rfl⟩,U⟩ rfl (by exact⟨.ptr,.conv (.same rfl),U⟩) (Gw [(2,.dptr (M2 a)),(3,.dptr (M2 b))] [] 1121 rfl rfl rfl U rfl (by exact⟨.conv (.same rfl),.ptr,U⟩) ?_))))))))
 refine Jr fun e=>(JLh (.dptr (M2 a)) (Ga Jk G G G) G (JLh (I64 a.G6) (Ge Gb G G G) G (JLh (.dptr (M2 b)) (Ga Jk G G G) G (JLh (I64 b.G6) (Ge Gb G G G) G (JLh (BL (decide (a.G6=b.G6))) (Qc G G G) G (JLm (BL (decide (a.G6=b.G6))) G (JLo (.dptr [I64 a.Tier,U8 a.Half]) [] G .sct U (fun hc=>Ga Qz G G G) G (JLo (I64 a.Tier) [11] G .sct ⟨Ua,U⟩ (fun hc=>Ge Gb G G G) G (JLo (.dptr [I64 b.Tier,U8 b.Half]) [] G .sct U (fun hc=>Ga Qz G G G) G (JLo (I64 b.Tier) [13] G .sct ⟨Ua,U⟩ (fun hc=>Ge Gb G G G) G (JLo (BL (decide (a.Tier=b.Tier))) [12,14] G .sct ⟨Ua,Ua,U⟩ (fun hc=>Qc G G G) G (JLh (BL (M6 a b)) (J9 G G G G) G (JLm (BL (M6 a b)) G ?_)))))))))))))
 refine JLo (.dptr [U8 a.Half]) [] G .sct U (fun hc=>Ga Q4 G G G) G (JLo (U8 a.Half) [18] G .sct ⟨Ua,U⟩ (fun hc=>Ge Jw G G G) G (JLo (.dptr [U8 b.Half]) [] G .sct U (fun hc=>Ga Q4 G G G) G (JLo (U8 b.Half) [20] G .sct ⟨Ua,U⟩ (fun hc=>Ge Jw G G G) G ?_)))
 obtain⟨c,f,h⟩:=Gd h
 refine JLo (BL c) [19,21] G .sct ⟨Ua,Ua,U⟩ (fun hc=>Gi (args:=[U8 a.Half,U8 b.Half]) G (vC a.Half b.Half c (Gv hc f)) QN ⟨G,G,G,G,U⟩) G (JLh (BL ((M6 a b)&&c)) (J9 G G G G) G (JLm (BL ((M6 a b)&&c)) G (G5 (e (Gs (fin1 BL h))))))

def mJ (b:Box):Option Int:=
 bif b.High then
 (some 2896)
 else
 (some 2591)
theorem G5f (b:Box) (r:Int) (h:mJ b=some r):Pure Ek 224 [.agg (Box.cs b)] (·=I64 r):=by
 unfold mJ at h
 refine Gy [.tmp 2] Tryz.func224 G G (Jr fun a=>(JLh (.ptr 1181 0) (Jy (cs:=(Box.cs b)) 1181 G G G G G) G (JLm (I64 0) G (G5 (a (Gw [(1,Eg b)] [] 1181 rfl rfl rfl U rfl (by exact⟨.ptr,U⟩) (Js fun c=>Jr fun d=>(JLh (.dptr ((Box.cs b).drop 3)) (Ga lU G G G) G (JLh (BL b.High) (Ge Ye G G G) G (G5 (d (JCc G h (fun h hb=>?_) (fun h hb=>?_)))))))))))))
 ·
  refine Jr fun e=>(JLm (I64 2896) G (G5 (e (Gs (fin1 I64 h)))))
 ·
  refine Gn (c (Jr fun f=>(JLm (I64 2591) G (G5 (f (Gs (fin1 I64 h)))))))

def gD (bx:List Box) (l:List G2) (column:Int) (half:Int):Option Int:=
 each (fun c i (a:Int) e=>
  jp (fun b=>
   bif ((decide (c.Slot.G6=column))&&((decide (c.Slot.Half=half))||(decide (c.Slot.Half=0)))) then
   (bnd (kG bx c.Box) fun d=>
    bif d.2 then
    (bnd (mJ d.1) fun f=>
     chk (a+f) fun g=>
     b g)
    else
    (b a))
   else
   (b a)) fun(h:Int)=>
  e h)
 (fun(a:Int)=>
  some a) l 0 0
theorem vB (bx:List Box) (l:List G2) (column:Int) (half:Int) (r:Int) (h:gD bx l column half=some r):Pure Ek 192 [E3 bx,E1 l,I64 column,U8 half] (·=I64 r):=by
 unfold gD at h
 refine Gy [.tmp 8] Tryz.func192 G G (Jr fun a7=>(JLm (I64 0) G (G5 (a7 (Jr fun a8=>(JLm (I64 0) G (G5 (a8 (Js fun a9=>Jr fun b0=>(JLm (E1 l) G (JLl H5 G G G fun o=>(JLm (I64 0) G (G5 (b0 (Gf ?_)))))))))))))))
 obtain⟨b1,p,q,k,h⟩:=Hy h
 refine H8 (fun b (d:Int)=>each b1 p (List.drop b l) b d=some r) (fun b d=>[(0,E3 bx),(2,I64 column),(3,U8 half),(9,I64 d),(14,E1 l),(15,Ej l.length),(16,Ej b)]) (fun b d=>[]) (fun b=>l.length - b) 0 0 h ⟨(.sm G G),U,rfl⟩ ?_
 clear h
 intro b d g b4 b2
 refine Jr fun s=>(JLh (BL (decide ((b:Int) < (l.length:Int)))) (Hr G G G) G (G5 (s (Js fun t=>Gg G (fun hb=>?_) (fun hb=>?_)))))
 ·
  have i:=Je hb
  obtain⟨a,b3,v,w,h⟩:=Hh g i
  replace h:=Rx q h
  refine Gn (t ?_)
  obtain⟨x,m,h⟩:=gF h
  refine Zc (fun e:Int=>x e=some r) (fun e=>[(0,E3 bx),(2,I64 column),(3,U8 half),(9,I64 e),(14,E1 l),(15,Ej l.length),(16,Ej b)]) (fun e=>[]) (fun Kj30 ej30=>?_) ?_
  ·
   refine Gf (Jr fun z=>(JLh (Ee a) (Gr (f:=G2.av) (xs:=l) (y:=a) G G G H5 v G) G (JLh (.agg (G2.cs a)) (Gj Zt G G G) G (JLh (.ptr 1160 0) (Jp 1160 4 Yd G G) G (J7 (u:=.junk) (Hv (u:=.agg (G2.cs a)) (ds:=[I64 a.Box,I64 a.Slot.G6,I64 a.Slot.Tier,U8 a.Slot.Half]) eH G G G G G G G G) (G5 (z (fzQ [(0,E3 bx),(2,I64 column),(3,U8 half),(9,I64 d),(11,Ee a),(14,E1 l),(15,Ej l.length),(16,Ej b)] [] 1160 rfl rfl rfl U rfl ?_))))))))
   refine Jr fun a0=>(JLh (.dptr ((G2.cs a).drop 1)) (Ga Jj G G G) G (JLh (.dptr ((G2.cs a).drop 1)) (Ga Jk G G G) G (JLh (I64 a.Slot.G6) (Ge Gb G G G) G (JLm (I64 column) G (JLh (BL (decide (a.Slot.G6=column))) (Qc G G G) G (JLm (BL (decide (a.Slot.G6=column))) G (JLo (.dptr ((G2.cs a).drop 1)) [] G .sct U (fun hc=>Ga Jj G G G) G (JLo (.dptr [U8 a.Slot.Half]) [26] G .sct ⟨Ua,U⟩ (fun hc=>Ga Q4 G G G) G (JLo (U8 a.Slot.Half) [27] G .sct ⟨Ua,U⟩ (fun hc=>Ge Jw G G G) G (JLo (U8 half) [] G .sct U (fun hc=>G3 G G) G (JLo (BL (decide (a.Slot.Half=half))) [28,29] G .sct ⟨Ua,Ua,U⟩ (fun hc=>Qc G G G) G (JLo (BL (decide (a.Slot.Half=half))) [30] G .sct ⟨Ua,U⟩ (fun hc=>G3 G G) G (JLo (.dptr ((G2.cs a).drop 1)) [] G .optf U (fun hc=>Ga Jj G G G) G ?_)))))))))))))
   refine JLo (.dptr [U8 a.Slot.Half]) [32] G .optf ⟨Ua,U⟩ (fun hc=>Ga Q4 G G G) G (JLo (U8 a.Slot.Half) [33] G .optf ⟨Ua,U⟩ (fun hc=>Ge Jw G G G) G (JLo (BL (decide (a.Slot.Half=0))) [34] G .optf ⟨Ua,U⟩ (fun hc=>Qc G G G) G (G9 (u:=BL ((decide (a.Slot.Half=half))||(decide (a.Slot.Half=0)))) [(31,BL (decide (a.Slot.Half=half))),(35,_)] G G G .sct ⟨.all id,.part,U⟩ (fun hc=>Rm G G G G) ?_)))
   refine JLh (BL ((decide (a.Slot.G6=column))&&((decide (a.Slot.Half=half))||(decide (a.Slot.Half=0))))) (J9 G G G G) G (G5 (a0 (JCc G h (fun h hb=>?_) (fun h hb=>?_))))
   ·
    refine Jr fun a1=>(JLm (E3 bx) G (JLh (Ee a) (Ga Qf G G G) G (JLh (I64 a.Box) (Ge Gb G G G) G ?_)))
    obtain⟨c,a2,h⟩:=Gd h
    refine JLh (.tup [.agg (Box.cs c.1),BL c.2]) (Gi G (yE bx a.Box c a2) QW ⟨G,G,G,G,U⟩) G (JLm (.tup [.agg (Box.cs c.1),BL c.2]) G (JLh (.agg (Box.cs c.1)) (Hx G G G) G (JLh (BL c.2) (Hx G G G) G (JLh (.ptr 1161 0) (Jp 1161 9 dX G G) G (J7 (u:=.junk) (Hv (u:=.agg (Box.cs c.1)) (ds:=(Box.cs c.1)) cJ G G G G G G G G) (JLm (BL c.2) G (G5 (a1 ?_))))))))
    refine fzQ [(0,E3 bx),(2,I64 column),(3,U8 half),(9,I64 d),(12,Eg c.1),(13,BL c.2),(14,E1 l),(15,Ej l.length),(16,Ej b)] [] 1161 rfl rfl rfl U rfl (Jr fun a3=>(JLm (BL c.2) G (G5 (a3 (JCc G h (fun h hb=>?_) (fun h hb=>?_))))))
    ·
     refine G1 (JLm (I64 d) G (JLh (.agg (Box.cs c.1)) (Gj bN G G G) G ?_))
     obtain⟨n,a4,h⟩:=Gd h
     refine JLh (I64 n) (Gi G (G5f c.1 n a4) Gd8 ⟨G,G,U⟩) G ?_
     obtain⟨j,a5,h⟩:=R2 h
     refine JLh (I64 j) (Hs a5 G G G) G (JLm (I64 j) G (G5 (ej30 _ _ j h ⟨(.sm G G),U,rfl⟩)))
    ·
     refine Gn (ej30 _ _ d h ⟨(.sm G G),U,rfl⟩)
   ·
    refine Gn (ej30 _ _ d h ⟨(.sm G G),U,rfl⟩)
  .intro e h
   replace h:=app1 m h
   refine G1 (JLh (I64 ((b+1:Nat):Int)) (Hs (Hb i o) G G G) G (JLm (I64 ((b+1:Nat):Int)) G (G5 (b2 _ _ (b+1) e (app1 w h) (by omega) ⟨(.sm G G),U,rfl⟩))))
 ·
  have h:=app1 k (Hi g (H6 hb))
  refine H9 (a9 (Jr fun a6=>(JLm (I64 d) G (JLm (I64 d) G (G5 (a6 (Gs (fin1 I64 h))))))))

def mK (s:Gq) (bx:List Box) (l:List G2) (column:Int):Option Bool:=
 Jo s.Columns column fun a=>
 bnd (bif (!(decide (a.Height≤0))) then gD bx l column 1 else some default) fun b=>
 bnd (bif ((!(decide (a.Height≤0)))&&(decide (b≤a.Height))) then gD bx l column 2 else some default) fun c=>
 some ((decide (a.Height≤0))||((decide (b≤a.Height))&&(decide (c≤a.Height))))
theorem G60 (s:Gq) (bx:List Box) (l:List G2) (column:Int) (r:Bool) (h:mK s bx l column=some r):Pure Ek 106 [.agg (Gq.cs s),E3 bx,E1 l,I64 column] (·=BL r):=by
 unfold mK at h
 refine Gy [.tmp 8] Tryz.func106 G G (Jr fun d=>(JLh (.ptr 1122 0) (Jy (cs:=(Gq.cs s)) 1122 G G G G G) G (JLm (BL false) G (G5 (d (fzQ [(1,E3 bx),(2,E1 l),(3,I64 column),(4,Ed s)] [] 1122 rfl rfl rfl U rfl (Jr fun e=>(JLh (Ed s) (Ga Hu G G G) G (JLh (E4 s.Columns) (Ge J2 G G G) G (JLm (I64 column) G ?_))))))))))
 obtain⟨n,a,g,i,h⟩:=R0 h
 refine JLh (Ef a) (Gr (f:=G6.av) (xs:=s.Columns) (y:=a) G G G Hd i g) G (JLh (.dptr ((G6.cs a).drop 4)) (Ga dA G G G) G (JLh (I64 a.Height) (Ge Gb G G G) G (JLm (I64 a.Height) G (G5 (e (Jr fun j=>(JLm (I64 a.Height) G (JLh (BL (decide (a.Height≤0))) (rQ G G G) G (JLm (BL (decide (a.Height≤0))) G (JLo (E3 bx) [] G .scf U (fun hc=>G3 G G) G (JLo (E1 l) [] G .scf U (fun hc=>G3 G G) G (JLo (I64 column) [] G .scf U (fun hc=>G3 G G) G ?_))))))))))))
 obtain⟨b,k,h⟩:=Gd h
 refine JLo (I64 b) [19,20,21] G .scf ⟨Ua,Ua,Ua,U⟩ (fun hc=>Gi (args:=[E3 bx,E1 l,I64 column,U8 1]) G (vB bx l column 1 b (Gv hc k)) QM ⟨G,G,G,G,G,G,G,G,U⟩) G (JLo (I64 a.Height) [] G .scf U (fun hc=>G3 G G) G (JLo (BL (decide (b≤a.Height))) [22,23] G .scf ⟨Ua,Ua,U⟩ (fun hc=>rQ G G G) G (JLo (BL (decide (b≤a.Height))) [24] G .scf ⟨Ua,U⟩ (fun hc=>G3 G G) G (JLo (E3 bx) [] G .optt U (fun hc=>G3 G G) G (JLo (E1 l) [] G .optt U (fun hc=>G3 G G) G (JLo (I64 column) [] G .optt U (fun hc=>G3 G G) G ?_))))))
 obtain⟨c,m,h⟩:=Gd h
 refine JLo (I64 c) [26,27,28] G .optt ⟨Ua,Ua,Ua,U⟩ (fun hc=>Gi (args:=[E3 bx,E1 l,I64 column,U8 2]) G (vB bx l column 2 c (Gv hc m)) QM ⟨G,G,G,G,G,G,G,G,U⟩) G (JLo (I64 a.Height) [] G .optt U (fun hc=>G3 G G) G (JLo (BL (decide (c≤a.Height))) [29,30] G .optt ⟨Ua,Ua,U⟩ (fun hc=>rQ G G G) G (G9 (u:=BL ((decide (b≤a.Height))&&(decide (c≤a.Height)))) [(25,BL (decide (b≤a.Height))),(31,_)] G G G .scf ⟨.all id,.part,U⟩ (fun hc=>J9 G G G G) ?_)))
 refine JLh (BL ((decide (a.Height≤0))||((decide (b≤a.Height))&&(decide (c≤a.Height))))) (Rm G G G G) G (JLm (BL ((decide (a.Height≤0))||((decide (b≤a.Height))&&(decide (c≤a.Height))))) G (G5 (j (Gs (fin1 BL h)))))

def cW (s:Gq) (bx:List Box) (l:List G2):Option Bool:=
 bnd (fI s) fun v=>
 bif (!v) then
 (some false)
 else
 (bnd (kS l) fun f=>
  each (fun a b (j:Unit) g=>
   bnd (kG bx a.Box) fun c=>
   bnd (bif ((!(!c.2))&&(decide (0 < (b:Int)))) then chk ((b:Int) - 1) some else some 0) fun k=>
   bnd (bif ((!(!c.2))&&(decide (0 < (b:Int)))) then Jo l k some else some default) fun d=>
   bnd (bif (!((!c.2)||((decide (0 < (b:Int)))&&(decide (a.Box≤d.Box))))) then kT s a.Slot c.1.Size else some default) fun e=>
   bnd (bif (!(((!c.2)||((decide (0 < (b:Int)))&&(decide (a.Box≤d.Box))))||(!e))) then mN a.Slot f else some default) fun m=>
   bif ((((!c.2)||((decide (0 < (b:Int)))&&(decide (a.Box≤d.Box))))||(!e))||(!m)) then
   (some false)
   else
   (bnd (cO (b:Int) f.length) fun n=>
    each (fun o w (p:Unit) h=>
     bnd (mM a.Slot o) fun q=>
     bif q then
     (some false)
     else
     (h ()))
    (fun(p:Unit)=>
     g ()) (f.take n) 0 ()))
  (fun(j:Unit)=>
   each (fun x r (t:Unit) i=>
    bnd (mK s bx l (r:Int)) fun u=>
    bif (!u) then
    (some false)
    else
    (i ()))
   (fun(t:Unit)=>
    some true) s.Columns 0 ()) l 0 ())
theorem pX (s:Gq) (bx:List Box) (l:List G2) (r:Bool) (h:cW s bx l=some r):Pure Ek 44 [.agg (Gq.cs s),E3 bx,E1 l] (·=BL r):=by
 unfold cW at h
 refine Gy [.tmp 6] Tryz.func44 G G (Jr fun f4=>(JLh (.ptr 1064 0) (Jy (cs:=(Gq.cs s)) 1064 G G G G G) G (JLm (BL false) G (G5 (f4 (Gw [(1,E3 bx),(2,E1 l),(3,Ed s)] [] 1064 rfl rfl rfl U rfl (by exact⟨.conv (.same rfl),.conv (.same rfl),.ptr,U⟩) (Js fun f5=>Jr fun f6=>(JLh (.agg (Gq.cs s)) (Gj J4 G G G) G ?_))))))))
 obtain⟨r4,f7,h⟩:=Gd h
 refine JLh (BL r4) (Gi G (wX.down s r4 f7) ZR ⟨G,G,U⟩) G (JLh (BL (!r4)) (Qj (b:=r4) G G) G (G5 (f6 (JCc G h (fun h hb=>?_) (fun h hb=>?_)))))
 ·
  refine Jr fun f8=>(JLm (BL false) G (G5 (f8 (Gs (fin1 BL h)))))
 ·
  refine Gn (f5 (Jr fun f9=>(JLm (E1 l) G ?_)))
  obtain⟨g,g0,h⟩:=Gd h
  refine JLh (E6 g) (Gi G (G2f l g g0) H02 ⟨G,G,U⟩) G (JLm (E6 g) G (G5 (f9 (Js fun g1=>Jr fun g2=>(JLm (E1 l) G (JLl H5 G G G fun a8=>(JLm (I64 0) G (G5 (g2 (Gf ?_))))))))))
  obtain⟨g3,a9,b0,a4,h⟩:=Hy h
  refine H8 (fun c (p:Unit)=>each g3 a9 (List.drop c l) c p=some r) (fun c p=>[(1,E3 bx),(2,E1 l),(3,Ed s),(7,E6 g),(20,E1 l),(21,Ej l.length),(22,Ej c)]) (fun c p=>[]) (fun c=>l.length - c) 0 () h ⟨(.sm G G),U,rfl⟩ ?_
  clear h
  intro c p w h4 g4
  refine Jr fun b1=>(JLh (BL (decide ((c:Int) < (l.length:Int)))) (Hr G G G) G (G5 (b1 (Js fun b2=>Gg G (fun hb=>?_) (fun hb=>?_)))))
  ·
   have x:=Je hb
   obtain⟨a,h0,b3,b4,h⟩:=Hh w x
   replace h:=Rx b0 h
   refine Gn (b2 (Js fun b5=>Gf (Jr fun b6=>(JLm (Ej c) G (JLh (Ee a) (Gr (f:=G2.av) (xs:=l) (y:=a) G G G H5 b3 G) G (JLh (.agg (G2.cs a)) (Gj Zt G G G) G (JLh (.ptr 1065 0) (Jp 1065 4 Yd G G) G (JLm (Ej c) G (J7 (u:=.junk) (Hv (u:=.agg (G2.cs a)) (ds:=[I64 a.Box,I64 a.Slot.G6,I64 a.Slot.Tier,U8 a.Slot.Half]) eH G G G G G G G G) (G5 (b6 (fzQ [(1,E3 bx),(2,E1 l),(3,Ed s),(7,E6 g),(8,Ej c),(9,Ee a),(20,E1 l),(21,Ej l.length),(22,Ej c)] [] 1065 rfl rfl rfl U rfl ?_))))))))))))
   refine Jr fun b7=>(JLm (E3 bx) G (JLh (Ee a) (Ga Qf G G G) G (JLh (I64 a.Box) (Ge Gb G G G) G ?_)))
   obtain⟨d,b8,h⟩:=Gd h
   refine JLh (.tup [.agg (Box.cs d.1),BL d.2]) (Gi G (yE bx a.Box d b8) QW ⟨G,G,G,G,U⟩) G (JLm (.tup [.agg (Box.cs d.1),BL d.2]) G (JLh (.agg (Box.cs d.1)) (Hx G G G) G (JLh (BL d.2) (Hx G G G) G (JLh (.ptr 1066 0) (Jp 1066 9 dX G G) G (J7 (u:=.junk) (Hv (u:=.agg (Box.cs d.1)) (ds:=(Box.cs d.1)) cJ G G G G G G G G) (JLm (BL d.2) G (G5 (b7 ?_))))))))
   refine fzQ [(1,E3 bx),(2,E1 l),(3,Ed s),(7,E6 g),(8,Ej c),(9,Ee a),(10,Eg d.1),(11,BL d.2),(20,E1 l),(21,Ej l.length),(22,Ej c)] [] 1066 rfl rfl rfl U rfl (Js fun b9=>Js fun c0=>?_)
   obtain⟨g5,c1,h⟩:=Gd h
   obtain⟨j,c2,h⟩:=Gd h
   obtain⟨n,c3,h⟩:=Gd h
   obtain⟨o,c4,h⟩:=Gd h
   refine JC_d0 Jd (by kernel_rfl) (Dq (BL d.2) (G3 G G) G (Dq (BL (!d.2)) (Qj (b:=d.2) G G) G (Dq (BL (!d.2)) (G3 G G) G (Do (Ej c) [] G .scf U (fun hc=>G3 G G) G (Do (BL (decide (0 < (c:Int)))) [37] G .scf ⟨Ua,U⟩ (fun hc=>dE G G G) G (Do (BL (decide (0 < (c:Int)))) [38] G .scf ⟨Ua,U⟩ (fun hc=>G3 G G) G (Do (Ee a) [] G .optt U (fun hc=>Ga Qf G G G) G (Do (I64 a.Box) [40] G .optt ⟨Ua,U⟩ (fun hc=>Ge Gb G G G) G (Do (E1 l) [] G .optt U (fun hc=>G3 G G) G (Do (Ej c) [] G .optt U (fun hc=>G3 G G) G (Do (I64 g5) [43] G .optt ⟨Ua,U⟩ (fun hc=>kX (aM (Gv hc c1)) G G G) G (Do (Ee j) [42,44] G .optt ⟨Ua,Ua,U⟩ (fun hc=>(match Jt (Gv hc c2) with | ⟨_,hm_,hy_⟩=>Gr (f:=G2.av) (xs:=l) (y:=j) G G G H5 hy_ hm_)) G (Do (Ee j) [45] G .optt ⟨Ua,U⟩ (fun hc=>Ga Qf G G G) G ?_)))))))))))))
   refine Do (I64 j.Box) [46] G .optt ⟨Ua,U⟩ (fun hc=>Ge Gb G G G) G (Do (BL (decide (a.Box≤j.Box))) [41,47] G .optt ⟨Ua,Ua,U⟩ (fun hc=>rQ G G G) G (Dg (.opt (!(!d.2)) (BL ((decide (0 < (c:Int)))&&(decide (a.Box≤j.Box))))) (Gc [(39,BL (decide (0 < (c:Int)))),(48,_)] G G G .scf ⟨.all id,.part,U⟩ (fun hc=>J9 G G G G) G) G (Dq (BL ((!d.2)||((decide (0 < (c:Int)))&&(decide (a.Box≤j.Box))))) (Rm G G G G) G (Dq (BL ((!d.2)||((decide (0 < (c:Int)))&&(decide (a.Box≤j.Box))))) (G3 G G) G (Do (.agg (Gq.cs s)) [] G .scf U (fun hc=>Gj J4 G G G) G (Do (.dptr ((G2.cs a).drop 1)) [] G .scf U (fun hc=>Ga Jj G G G) G (Do (.agg ((G2.cs a).drop 1)) [53] G .scf ⟨Ua,U⟩ (fun hc=>Gj Q9 G G G) G (Do (.dptr ((Box.cs d.1).drop 2)) [] G .scf U (fun hc=>Ga eI G G G) G (Do (U8 d.1.Size) [55] G .scf ⟨Ua,U⟩ (fun hc=>Ge Jw G G G) G (Do (BL n) [52,54,56] G .scf ⟨Ua,Ua,Ua,U⟩ (fun hc=>Gi (args:=[.agg (Gq.cs s),.agg ((G2.cs a).drop 1),U8 d.1.Size]) G (G30 s a.Slot d.1.Size n (Gv hc c3)) H01 ⟨G,G,G,G,G,G,U⟩) G (Do (BL (!n)) [57] G .scf ⟨Ua,U⟩ (fun hc=>Qj (b:=n) G G) G (Dq (BL (((!d.2)||((decide (0 < (c:Int)))&&(decide (a.Box≤j.Box))))||(!n))) (Rm G G G G) G (Dq (BL (((!d.2)||((decide (0 < (c:Int)))&&(decide (a.Box≤j.Box))))||(!n))) (G3 G G) G ?_)))))))))))))
   refine Do (.dptr ((G2.cs a).drop 1)) [] G .scf U (fun hc=>Ga Jj G G G) G (Do (.agg ((G2.cs a).drop 1)) [61] G .scf ⟨Ua,U⟩ (fun hc=>Gj Q9 G G G) G (Do (E6 g) [] G .scf U (fun hc=>G3 G G) G (Do (BL o) [62,63] G .scf ⟨Ua,Ua,U⟩ (fun hc=>Gi (args:=[.agg ((G2.cs a).drop 1),E6 g]) G (G63 a.Slot g o (Gv hc c4)) H00 ⟨G,G,G,G,U⟩) G (Do (BL (!o)) [64] G .scf ⟨Ua,U⟩ (fun hc=>Qj (b:=o) G G) G (Dq (BL ((((!d.2)||((decide (0 < (c:Int)))&&(decide (a.Box≤j.Box))))||(!n))||(!o))) (Rm G G G G) G (Dnil (c0 (JCc G h (fun h hb=>?_) (fun h hb=>?_)))))))))
   ·
    refine Jr fun c5=>(JLm (BL false) G (G5 (c5 (Gs (fin1 BL h)))))
   ·
    refine Gn (b9 (Jr fun c6=>(JLm (E6 g) G (JLm (Ej c) G ?_))))
    obtain⟨m,c7,h⟩:=Gd h
    refine JLh (E6 (g.take m)) (Ha5 (f:=Slot.av) (xs:=g) G G G Yt (Rq c7)) G (JLl Yt G G G fun c8=>(JLm (I64 0) G (G5 (c6 (Gf ?_)))))
    obtain⟨g6,c9,d0,a5,h⟩:=Hy h
    refine H8 (fun i (q:Unit)=>each g6 c9 (List.drop i (g.take m)) i q=some r) (fun i q=>[(1,E3 bx),(2,E1 l),(3,Ed s),(7,E6 g),(9,Ee a),(20,E1 l),(21,Ej l.length),(22,Ej c),(69,E6 (g.take m)),(70,I64 ((g.take m).length:Int)),(71,Ej i)]) (fun i q=>[]) (fun i=>(g.take m).length - i) 0 () h ⟨(.sm G G),U,rfl⟩ ?_
    clear h
    intro i q z h5 g7
    refine Jr fun d1=>(JLh (BL (decide ((i:Int) < ((g.take m).length:Int)))) (Hr G G G) G (G5 (d1 (Js fun d2=>Gg G (fun hb=>?_) (fun hb=>?_)))))
    ·
     have a0:=Je hb
     obtain⟨k,h1,d3,d4,h⟩:=Hh z a0
     replace h:=Rx d0 h
     refine Gn (d2 (Js fun d5=>Gf (Jr fun d6=>(JLh (Eh k) (Gr (f:=Slot.av) (xs:=(g.take m)) (y:=k) G G G Yt d3 G) G (JLh (.agg (Slot.cs k)) (Gj Q9 G G G) G (JLh (.ptr 1067 0) (Jp 1067 3 cY G G) G (J7 (u:=.junk) (Hv (u:=.agg (Slot.cs k)) (ds:=[I64 k.G6,I64 k.Tier,U8 k.Half]) dG G G G G G G G G) (G5 (d6 (fzQ [(1,E3 bx),(2,E1 l),(3,Ed s),(7,E6 g),(9,Ee a),(13,Eh k),(20,E1 l),(21,Ej l.length),(22,Ej c),(69,E6 (g.take m)),(70,I64 ((g.take m).length:Int)),(71,Ej i)] [] 1067 rfl rfl rfl U rfl ?_))))))))))
     refine Jr fun d7=>(JLh (.dptr ((G2.cs a).drop 1)) (Ga Jj G G G) G (JLh (.agg ((G2.cs a).drop 1)) (Gj Q9 G G G) G (JLh (.agg (Slot.cs k)) (Gj Q9 G G G) G ?_)))
     obtain⟨a7,d8,h⟩:=Gd h
     refine JLh (BL a7) (Gi G (G62 a.Slot k a7 d8) Gff ⟨G,G,G,G,U⟩) G (G5 (d7 (JCc G h (fun h hb=>?_) (fun h hb=>?_))))
     ·
      refine Jr fun d9=>(JLm (BL false) G (G5 (d9 (Gs (fin1 BL h)))))
     ·
      refine Gn (d5 (G1 (JLh (I64 ((i+1:Nat):Int)) (Hs (Hb a0 c8) G G G) G (JLm (I64 ((i+1:Nat):Int)) G (G5 (g7 _ _ (i+1) () (app1 d4 h) (by omega) ⟨(.sm G G),U,rfl⟩))))))
    ·
     have h:=app1 a5 (Hi z (H6 hb))
     refine H9 (b5 (G1 (JLh (I64 ((c+1:Nat):Int)) (Hs (Hb x a8) G G G) G (JLm (I64 ((c+1:Nat):Int)) G (G5 (g4 _ _ (c+1) () (app1 b4 h) (by omega) ⟨(.sm G G),U,rfl⟩))))))
  ·
   have h:=app1 a4 (Hi w (H6 hb))
   refine H9 (g1 (Js fun e0=>Jr fun e1=>(JLh (Ed s) (Ga Hu G G G) G (JLh (E4 s.Columns) (Ge J2 G G G) G (JLl Hd G G G fun e2=>(JLm (I64 0) G (G5 (e1 (Gf ?_)))))))))
   obtain⟨g8,e3,e4,a6,h⟩:=Hy h
   refine H8 (fun e (t:Unit)=>each g8 e3 (List.drop e s.Columns) e t=some r) (fun e t=>[(1,E3 bx),(2,E1 l),(3,Ed s),(83,Ej s.Columns.length),(84,Ej e)]) (fun e t=>[]) (fun e=>s.Columns.length - e) 0 () h ⟨(.sm G G),U,rfl⟩ ?_
   clear h
   intro e t a1 h6 g9
   refine Jr fun e5=>(JLh (BL (decide ((e:Int) < (s.Columns.length:Int)))) (Hr G G G) G (G5 (e5 (Js fun e6=>Gg G (fun hb=>?_) (fun hb=>?_)))))
   ·
    have a2:=Je hb
    obtain⟨h7,h2,h3,e7,h⟩:=Hh a1 a2
    replace h:=Rx e4 h
    refine Gn (e6 (Js fun e8=>Gf (Jr fun e9=>(JLm (Ej e) G (JLm (Ej e) G (G5 (e9 (Jr fun f0=>(JLh (.agg (Gq.cs s)) (Gj J4 G G G) G (JLm (E3 bx) G (JLm (E1 l) G (JLm (Ej e) G ?_))))))))))))
    obtain⟨v,f1,h⟩:=Gd h
    refine JLh (BL v) (Gi G (G60 s bx l (e:Int) v f1) Gfe ⟨G,G,G,G,G,G,G,G,U⟩) G (JLh (BL (!v)) (Qj (b:=v) G G) G (G5 (f0 (JCc G h (fun h hb=>?_) (fun h hb=>?_)))))
    ·
     refine Jr fun f2=>(JLm (BL false) G (G5 (f2 (Gs (fin1 BL h)))))
    ·
     refine Gn (e8 (G1 (JLh (I64 ((e+1:Nat):Int)) (Hs (Hb a2 e2) G G G) G (JLm (I64 ((e+1:Nat):Int)) G (G5 (g9 _ _ (e+1) () (app1 e7 h) (by omega) ⟨(.sm G G),U,rfl⟩))))))
   ·
    have h:=app1 a6 (Hi a1 (H6 hb))
    refine H9 (e0 (Jr fun f3=>(JLm (BL true) G (G5 (f3 (Gs (fin1 BL h)))))))

def dD (bx:List Box) (call:Int):Option (List Int):=
 each (fun b f (a:(List Int)) d=>
  jp (fun c=>
   bif ((decide (b.Load≤call))&&(decide (call < b.Discharge))) then
   (need (decide ((a.length+[b.ID].length)*8≤140737488355328/\a.length+[b.ID].length≤maxLen)) <|
    c (a++[b.ID]))
   else
   (c a)) fun(e:(List Int))=>
  d e)
 (fun(a:(List Int))=>
  some a) bx 0 []
theorem nE (bx:List Box) (call:Int) (r:(List Int)) (h:dD bx call=some r):Pure Ek 16 [E3 bx,I64 call] (·=E2 r):=by
 unfold dD at h
 refine Gy [.tmp 4] Tryz.func16 G G (Jr fun x=>(JLh (E2 ([]:List Int)) (Qd 1 G G) G (G5 (x (Jr fun z=>(JLh (OW 1022 1 I64 ([]:List Int)) (kY 1022 3 1 G G G) G (G5 (z (Js fun a0=>Jr fun a1=>(JLm (E3 bx) G (JLl J3 G G G fun a2=>(JLm (I64 0) G (G5 (a1 (Gf ?_)))))))))))))))
 obtain⟨a3,k,l,i,h⟩:=Hy h
 refine H8 (fun c (b:(List Int))=>each a3 k (List.drop c bx) c b=some r) (fun c b=>[(1,I64 call),(5,OW 1022 1 I64 b),(8,E3 bx),(9,Ej bx.length),(10,Ej c)]) (fun c b=>[(1022,.spare 3 1 b.length b.length)]) (fun c=>bx.length - c) 0 [] h ⟨(.sm G G),⟨⟨_,rfl,.same⟩,U⟩,rfl⟩ ?_
 clear h
 intro c b e a6 a4
 refine Jr fun m=>(JLh (BL (decide ((c:Int) < (bx.length:Int)))) (Hr G G G) G (G5 (m (Js fun n=>Gg G (fun hb=>?_) (fun hb=>?_)))))
 ·
  have g:=Je hb
  obtain⟨a,a5,o,p,h⟩:=Hh e g
  replace h:=Rx l h
  refine Gn (n ?_)
  obtain⟨q,j,h⟩:=gF h
  refine Zc (fun d:(List Int)=>q d=some r) (fun d=>[(1,I64 call),(5,OW 1022 1 I64 d),(8,E3 bx),(9,Ej bx.length),(10,Ej c)]) (fun d=>[(1022,.spare 3 1 d.length d.length)]) (fun Kj22 ej22=>?_) ?_
  ·
   refine Gf (Jr fun s=>(JLh (Eg a) (Gr (f:=Box.av) (xs:=bx) (y:=a) G G G J3 o G) G (JLh (.agg (Box.cs a)) (Gj bN G G G) G (JLh (.ptr 1023 0) (Jp 1023 9 dX G G) G (J7 (u:=.junk) (Hv (u:=.agg (Box.cs a)) (ds:=(Box.cs a)) cJ G G G G G G G G) (G5 (s (fzQ [(1,I64 call),(5,OW 1022 1 I64 b),(7,Eg a),(8,E3 bx),(9,Ej bx.length),(10,Ej c)] [(1022,.spare 3 1 b.length b.length)] 1023 rfl rfl rfl ⟨⟨_,rfl,.same⟩,U⟩ rfl ?_))))))))
   refine Jr fun t=>(JLh (.dptr ((Box.cs a).drop 5)) (Ga fT G G G) G (JLh (I64 a.Load) (Ge Gb G G G) G (JLm (I64 call) G (JLh (BL (decide (a.Load≤call))) (rQ G G G) G (JLm (BL (decide (a.Load≤call))) G (JLo (I64 call) [] G .sct U (fun hc=>G3 G G) G (JLo (.dptr ((Box.cs a).drop 6)) [] G .sct U (fun hc=>Ga fS G G G) G (JLo (I64 a.Discharge) [20] G .sct ⟨Ua,U⟩ (fun hc=>Ge Gb G G G) G (JLo (BL (decide (call < a.Discharge))) [19,21] G .sct ⟨Ua,Ua,U⟩ (fun hc=>Hr G G G) G (JLh (BL ((decide (a.Load≤call))&&(decide (call < a.Discharge)))) (J9 G G G G) G (G5 (t (JCc G h (fun h hb=>?_) (fun h hb=>?_))))))))))))))
   ·
    refine G1 (JLm (OW 1022 1 I64 b) G (JLh (Eg a) (Ga Yq G G G) G (JLh (I64 a.ID) (Ge Gb G G G) G (JLh (E2 [a.ID]) (Hf (xs:=[I64 a.ID]) G ⟨G,G,U⟩ Gz Zq G G G G) G ?_))))
    obtain⟨v,h⟩:=J5 h
    refine JLh (OW 1022 1 I64 (b++[a.ID])) (R8 (f:=I64) (xs:=b) (ys:=[a.ID]) G G G G Gz fY v (fun _=>G) (.inl G) G) G (JLm (OW 1022 1 I64 (b++[a.ID])) G (G5 (ej22 _ _ (b++[a.ID]) h ⟨(.sm G G),⟨⟨_,rfl,.same⟩,U⟩,rfl⟩)))
   ·
    refine Gn (ej22 _ _ b h ⟨(.sm G G),⟨⟨_,rfl,.same⟩,U⟩,rfl⟩)
  .intro d h
   replace h:=app1 j h
   refine G1 (JLh (I64 ((c+1:Nat):Int)) (Hs (Hb g a2) G G G) G (JLm (I64 ((c+1:Nat):Int)) G (G5 (a4 _ _ (c+1) d (app1 p h) (by omega) ⟨(.sm G G),⟨⟨_,rfl,.same⟩,U⟩,rfl⟩))))
 ·
  have h:=app1 i (Hi e (H6 hb))
  refine H9 (a0 (Jr fun w=>(JLm (OW 1022 1 I64 b) G (JLm (OW 1022 1 I64 b) G (G5 (w (Gs (fin1l (fun r:(List Int)=>(E2 r:AV)) h))))))))

def aV (s1_:List G2) (s2_:List Int) (eq:G2→Int→Option Bool):Option Bool:=
 bif decide ((s1_.length:Int)≠(s2_.length:Int)) then
 (some false)
 else
 (each (fun b c (d:Unit) a=>
   Jo s2_ (c:Int) fun e=>
   bnd (eq b e) fun f=>
   bif (!f) then
   (some false)
   else
   (a ()))
  (fun(d:Unit)=>
   some true) s1_ 0 ())
theorem sF (s1_:List G2) (s2_:List Int) (eq:G2→Int→Option Bool) (eq_f:FuncId) (eq_c:List AV) (eq_B:H7 Ek eq_f=true) (eq_d:Ys (fun _=>false) eq_c=true) (eq_w:∀ a0 a1 q,eq a0 a1=some q→Pure Ek eq_f ([.agg (G2.cs a0),I64 a1]++eq_c) (·=BL q)) (r:Bool) (h:aV s1_ s2_ eq=some r):Pure Ek 45 [E1 s1_,E2 s2_,.fn eq_f eq_c] (·=BL r):=by
 unfold aV at h
 refine Gy [.tmp 6] Tryz.func45 G G (Jr fun a7=>(JLm (BL false) G (G5 (a7 (Js fun a8=>Jr fun a9=>(JLm (E1 s1_) G (JLl H5 G G G fun b5=>(JLm (E2 s2_) G (JLl Gz G G G fun b6=>(JLh (BL (decide ((s1_.length:Int)≠(s2_.length:Int)))) (aH G G G) G (G5 (a9 (JCc G h (fun h hb=>?_) (fun h hb=>?_))))))))))))))
 ·
  refine Jr fun b0=>(JLm (BL false) G (G5 (b0 (Gs (fin1 BL h)))))
 ·
  refine Gn (a8 (Js fun b1=>Jr fun b2=>(JLm (E1 s1_) G (JLl H5 G G G fun l=>(JLm (I64 0) G (G5 (b2 (Gf ?_))))))))
  obtain⟨b3,m,n,k,h⟩:=Hy h
  refine H8 (fun a (e:Unit)=>each b3 m (List.drop a s1_) a e=some r) (fun a e=>[(1,E2 s2_),(2,.fn eq_f eq_c),(15,E1 s1_),(16,Ej s1_.length),(17,Ej a)]) (fun a e=>[]) (fun a=>s1_.length - a) 0 () h ⟨⟨.same G,.same (Qw _ _ eq_d),.same G,.same G,.same G,U⟩,U,G⟩ ?_
  clear h
  intro a e g b8 b4
  refine Jr fun o=>(JLh (BL (decide ((a:Int) < (s1_.length:Int)))) (Hr G G G) G (G5 (o (Js fun p=>Gg G (fun hb=>?_) (fun hb=>?_)))))
  ·
   have i:=Je hb
   obtain⟨c,b7,s,t,h⟩:=Hh g i
   replace h:=Rx n h
   refine Gn (p (Js fun v=>Gf (Jr fun w=>(JLm (Ej a) G (JLh (Ee c) (Gr (f:=G2.av) (xs:=s1_) (y:=c) G G G H5 s G) G (JLh (.agg (G2.cs c)) (Gj Zt G G G) G (JLh (.ptr 1068 0) (Jp 1068 4 Yd G G) G (JLm (Ej a) G (J7 (u:=.junk) (Hv (u:=.agg (G2.cs c)) (ds:=[I64 c.Box,I64 c.Slot.G6,I64 c.Slot.Tier,U8 c.Slot.Half]) eH G G G G G G G G) (G5 (w ?_)))))))))))
   refine Gw [(1,E2 s2_),(2,.fn eq_f eq_c),(7,Ej a),(8,Ee c),(15,E1 s1_),(16,Ej s1_.length),(17,Ej a)] [] 1068 rfl rfl rfl U rfl (by exact⟨.conv (.same rfl),.conv (.same (Qw _ _ eq_d)),.conv (.same rfl),.ptr,.conv (.same rfl),.conv (.same rfl),.conv (.same rfl),U⟩) (Jr fun x=>(JLm (E2 s2_) G (JLm (Ej a) G ?_)))
   obtain⟨b9,d,z,a2,h⟩:=R0 h
   refine JLh (.dptr [I64 d]) (Gr (f:=I64) (xs:=s2_) (y:=d) G G G Gz a2 z) G (JLh (I64 d) (Ge Gb G G G) G (JLm (I64 d) G (G5 (x (Jr fun a3=>(JLm (.fn eq_f eq_c) G (JLh (.agg (G2.cs c)) (Gj Zt G G G) G (JLm (I64 d) G ?_))))))))
   obtain⟨j,a4,h⟩:=Gd h
   refine JLh (BL j) (fR (args:=[.agg (G2.cs c),I64 d]) (caps:=eq_c) G G (eq_w c d _ a4) eq_B ⟨G,G,G,G,U⟩ eq_d) G (JLh (BL (!j)) (Qj (b:=j) G G) G (G5 (a3 (JCc G h (fun h hb=>?_) (fun h hb=>?_)))))
   ·
    refine Jr fun a5=>(JLm (BL false) G (G5 (a5 (Gs (fin1 BL h)))))
   ·
    refine Gn (v (G1 (JLh (I64 ((a+1:Nat):Int)) (Hs (Hb i l) G G G) G (JLm (I64 ((a+1:Nat):Int)) G (G5 (b4 _ _ (a+1) () (app1 t h) (by omega) ⟨⟨.same rfl,.same (Qw _ _ eq_d),.same rfl,.same rfl,.same rfl,U⟩,U,rfl⟩))))))
  ·
   have h:=app1 k (Hi g (H6 hb))
   refine H9 (b1 (Jr fun a6=>(JLm (BL true) G (G5 (a6 (Gs (fin1 BL h)))))))

def fC (x:G2) (id_:Int):Option Bool:=
 some (decide (x.Box=id_))
theorem JT (x:G2) (id_:Int) (r:Bool) (h:fC x id_=some r):Pure Ek 46 [.agg (G2.cs x),I64 id_] (·=BL r):=by
 unfold fC at h
 refine Gy [.tmp 4] Tryz.func46 G G (Jr fun a=>(JLh (.ptr 1069 0) (Jy (cs:=[I64 x.Box,I64 x.Slot.G6,I64 x.Slot.Tier,U8 x.Slot.Half]) 1069 G G G G G) G (JLm (BL false) G (G5 (a (Gw [(1,I64 id_),(2,Ee x)] [] 1069 rfl rfl rfl U rfl (by exact⟨.conv (.same rfl),.ptr,U⟩) (Jr fun b=>(JLh (Ee x) (Ga Qf G G G) G (JLh (I64 x.Box) (Ge Gb G G G) G (JLm (I64 id_) G (JLh (BL (decide (x.Box=id_))) (Qc G G G) G (JLm (BL (decide (x.Box=id_))) G (G5 (b (Gs (fin1 BL h))))))))))))))))

def bW (s:Gq) (bx:List Box) (calls:Int) (p:Ya):Option (Int×Int):=
 bnd (fI s) fun h=>
 bif (!h) then
 (some (0,2))
 else
 (bnd (fJ bx calls) fun i=>
  bif (!i) then
  (some (0,230))
  else
  (bif decide ((p.States.length:Int)≠calls) then
   (some (0,231))
   else
   (each (fun b a (d:Unit) c=>
     bnd (cW s bx b) fun e=>
     bif (!e) then
     (some ((a:Int),232))
     else
     (bnd (dD bx (a:Int)) fun f=>
      bnd (aV b f (fun z0 z1=>fC z0 z1)) fun g=>
      bif (!g) then
      (some ((a:Int),233))
      else
      (c ())))
    (fun(d:Unit)=>
     some (0,0)) p.States 0 ())))
abbrev M7 (p:Ya):List AV:=[LS 1 (E1) p.States,LS 1 (E2) p.Water]
theorem pY (s:Gq) (bx:List Box) (calls:Int) (p:Ya) (r:Int×Int) (h:bW s bx calls p=some r):Pure Ek 11 [.agg (Gq.cs s),E3 bx,I64 calls,.agg [LS 1 (E1) p.States,LS 1 (E2) p.Water]] (·=.tup [I64 r.1,I64 r.2]):=by
 unfold bW at h
 refine Gy [.tmp 8,.tmp 9] Tryz.func11 G G (Jr fun b4=>(JLh (.ptr 1016 0) (Jy (cs:=(Gq.cs s)) 1016 G G G G G) G (JLh (.ptr 1017 0) (Jy (cs:=(M7 p)) 1017 G G G G G) G (JLm (I64 0) G (JLm (I64 0) G (G5 (b4 (fzQ [(1,E3 bx),(2,I64 calls),(4,Ed s),(7,.ptr 1017 0)] [(1017,.box 37 (M7 p))] 1016 rfl rfl rfl ⟨⟨_,rfl,.boxEq rfl rfl⟩,U⟩ rfl ?_))))))))
 refine fzQ [(1,E3 bx),(2,I64 calls),(4,Ed s),(7,.dptr (M7 p))] [] 1017 rfl rfl rfl U rfl (Js fun b5=>Gf (Jr fun b6=>(JLh (.agg (Gq.cs s)) (Gj J4 G G G) G ?_)))
 obtain⟨i,b7,h⟩:=Gd h
 refine JLh (BL i) (Gi G (wX.down s i b7) ZR ⟨G,G,U⟩) G (JLh (BL (!i)) (Qj (b:=i) G G) G (JLm (BL (!i)) G (G5 (b6 (JCc G h (fun h hb=>?_) (fun h hb=>?_))))))
 ·
  refine Jr fun b8=>(JLm (I64 0) G (JLm (I64 2) G (G5 (b8 (Gs (⟨[I64 0,I64 2],[],U,G,⟨⟨_,G,.conv (.same G)⟩,⟨_,G,.conv (.same G)⟩,U⟩,G,congrArg (fun r:Int×Int=>(.tup [I64 r.1,I64 r.2]:AV)) (Pc h)⟩))))))
 ·
  refine Jr fun b9=>(JLm (E3 bx) G (JLm (I64 calls) G ?_))
  obtain⟨j,c0,h⟩:=Gd h
  refine JLh (BL j) (Gi G (xA bx calls j c0) ZY ⟨G,G,G,G,U⟩) G (JLh (BL (!j)) (Qj (b:=j) G G) G (JLm (BL (!j)) G (G5 (b9 (JCc G h (fun h hb=>?_) (fun h hb=>?_))))))
  ·
   refine Jr fun c1=>(JLm (I64 0) G (JLm (I64 230) G (G5 (c1 (Gs (⟨[I64 0,I64 230],[],U,G,⟨⟨_,G,.conv (.same G)⟩,⟨_,G,.conv (.same G)⟩,U⟩,G,congrArg (fun r:Int×Int=>(.tup [I64 r.1,I64 r.2]:AV)) (Pc h)⟩))))))
  ·
   refine Jr fun c2=>(JLh (.dptr (M7 p)) (Ga Qr G G G) G (JLh (LS 1 (E1) p.States) (Ge Qe G G G) G (JLl Hn G G G fun c5=>(JLm (I64 calls) G (JLh (BL (decide ((p.States.length:Int)≠calls))) (aH G G G) G (JLm (BL (decide ((p.States.length:Int)≠calls))) G (G5 (c2 (JCc G h (fun h hb=>?_) (fun h hb=>?_))))))))))
   ·
    refine Jr fun o=>(JLm (I64 0) G (JLm (I64 231) G (G5 (o (Gs (⟨[I64 0,I64 231],[],U,G,⟨⟨_,G,.conv (.same G)⟩,⟨_,G,.conv (.same G)⟩,U⟩,G,congrArg (fun r:Int×Int=>(.tup [I64 r.1,I64 r.2]:AV)) (Pc h)⟩))))))
   ·
    refine Gn (b5 (Js fun t=>Jr fun u=>(JLh (.dptr (M7 p)) (Ga Qr G G G) G (JLh (LS 1 (E1) p.States) (Ge Qe G G G) G (JLl Hn G G G fun v=>(JLm (I64 0) G (G5 (u (Gf ?_)))))))))
    obtain⟨c3,w,x,n,h⟩:=Hy h
    refine H8 (fun a (d:Unit)=>each c3 w (List.drop a p.States) a d=some r) (fun a d=>[(1,E3 bx),(4,Ed s),(28,LS 1 (E1) p.States),(29,Ej p.States.length),(30,Ej a)]) (fun a d=>[]) (fun a=>p.States.length - a) 0 () h ⟨(.sm G G),U,rfl⟩ ?_
    clear h
    intro a d k c7 c4
    refine Jr fun z=>(JLh (BL (decide ((a:Int) < (p.States.length:Int)))) (Hr G G G) G (G5 (z (Js fun a0=>Gg G (fun hb=>?_) (fun hb=>?_)))))
    ·
     have l:=Je hb
     obtain⟨c,c6,a1,a2,h⟩:=Hh k l
     replace h:=Rx x h
     refine Gn (a0 (Js fun a3=>Gf (Jr fun a4=>(JLm (Ej a) G (JLh (.dptr [E1 c]) (Gr (f:=(E1)) (xs:=p.States) (y:=c) G G G Hn a1 G) G (JLh (E1 c) (Ge Q6 G G G) G (JLm (Ej a) G (JLm (E1 c) G (G5 (a4 (Js fun a5=>Jr fun a6=>(JLh (.agg (Gq.cs s)) (Gj J4 G G G) G (JLm (E3 bx) G (JLm (E1 c) G ?_))))))))))))))
     obtain⟨e,a7,h⟩:=Gd h
     refine JLh (BL e) (Gi G (pX s bx c e a7) yV ⟨G,G,G,G,G,G,U⟩) G (JLh (BL (!e)) (Qj (b:=e) G G) G (G5 (a6 (JCc G h (fun h hb=>?_) (fun h hb=>?_)))))
     ·
      refine Jr fun a8=>(JLm (Ej a) G (JLm (Ej a) G (JLm (I64 232) G (G5 (a8 (Gs (⟨[Ej a,I64 232],[],U,G,⟨⟨_,G,.conv (.same G)⟩,⟨_,G,.conv (.same G)⟩,U⟩,G,congrArg (fun r:Int×Int=>(.tup [I64 r.1,I64 r.2]:AV)) (Pc h)⟩)))))))
     ·
      refine Gn (a5 (Jr fun a9=>(JLm (E1 c) G (JLm (E3 bx) G (JLm (Ej a) G ?_)))))
      obtain⟨m,b0,h⟩:=Gd h
      refine JLh (E2 m) (Gi G (nE bx (a:Int) m b0) yX ⟨G,G,G,G,U⟩) G ?_
      obtain⟨g,b1,h⟩:=Gd h
      refine JLh (BL g) (Gi G (sF c m (fun z0 z1=>fC z0 z1) 46 [] H65 G (fun z0 z1 q hq=>JT z0 z1 q hq) g b1) H66 ⟨G,G,G,G,G,G,U⟩) G (JLh (BL (!g)) (Qj (b:=g) G G) G (G5 (a9 (JCc G h (fun h hb=>?_) (fun h hb=>?_)))))
      ·
       refine Jr fun b2=>(JLm (Ej a) G (JLm (Ej a) G (JLm (I64 233) G (G5 (b2 (Gs (⟨[Ej a,I64 233],[],U,G,⟨⟨_,G,.conv (.same G)⟩,⟨_,G,.conv (.same G)⟩,U⟩,G,congrArg (fun r:Int×Int=>(.tup [I64 r.1,I64 r.2]:AV)) (Pc h)⟩)))))))
      ·
       refine Gn (a3 (G1 (JLh (I64 ((a+1:Nat):Int)) (Hs (Hb l v) G G G) G (JLm (I64 ((a+1:Nat):Int)) G (G5 (c4 _ _ (a+1) () (app1 a2 h) (by omega) ⟨(.sm G G),U,rfl⟩))))))
    ·
     have h:=app1 n (Hi k (H6 hb))
     refine H9 (t (Jr fun b3=>(JLm (I64 0) G (JLm (I64 0) G (G5 (b3 (Gs (⟨[I64 0,I64 0],[],U,G,⟨⟨_,G,.conv (.same G)⟩,⟨_,G,.conv (.same G)⟩,U⟩,G,congrArg (fun r:Int×Int=>(.tup [I64 r.1,I64 r.2]:AV)) (Pc h)⟩))))))))

def J6 (n:Int) (low:Int) (high:Int):Option Bool:=
 some ((decide (low≤n))&&(decide (n≤high)))
theorem Jh (n:Int) (low:Int) (high:Int) (r:Bool) (h:J6 n low high=some r):Pure Ek 107 [I64 n,I64 low,I64 high] (·=BL r):=by
 unfold J6 at h
 refine Gy [.tmp 6] Tryz.func107 G G (Jr fun a=>(JLm (BL false) G (G5 (a (Jr fun b=>(JLm (I64 n) G (JLm (I64 low) G (JLh (BL (decide (low≤n))) (cH G G G) G (JLm (BL (decide (low≤n))) G (JLo (I64 n) [] G .sct U (fun hc=>G3 G G) G (JLo (I64 high) [] G .sct U (fun hc=>G3 G G) G (JLo (BL (decide (n≤high))) [11,12] G .sct ⟨Ua,Ua,U⟩ (fun hc=>rQ G G G) G (JLh (BL ((decide (low≤n))&&(decide (n≤high)))) (J9 G G G G) G (JLm (BL ((decide (low≤n))&&(decide (n≤high)))) G (G5 (b (Gs (fin1 BL h))))))))))))))))))

def Zw (c:G6):Option Bool:=
 each (fun d a (l:Unit) k=>
  bif ((decide (d < 0))||(decide (c.Tiers≤d))) then
  (some false)
  else
  (bnd (bif decide (0 < (a:Int)) then chk ((a:Int) - 1) some else some 0) fun m=>
   bnd (bif decide (0 < (a:Int)) then Jo c.Plugs m some else some default) fun n=>
   bif ((decide (0 < (a:Int)))&&(decide (d≤n))) then
   (some false)
   else
   (k ())))
 (fun(l:Unit)=>
  bnd (J6 c.X (-500000) 500000) fun e=>
  bnd (bif e then J6 c.Y (-500000) 500000 else some default) fun h=>
  bnd (bif (e&&h) then J6 c.Z (-500000) 500000 else some default) fun o=>
  bnd (J6 c.Kilos20 0 500000000) fun f=>
  bnd (bif f then J6 c.Kilos40 0 500000000 else some default) fun i=>
  bnd (bif (f&&i) then J6 c.Lash 0 1000000000000 else some default) fun p=>
  bnd (J6 c.Bay 0 39) fun b=>
  bnd (bif b then J6 c.Row 0 30 else some default) fun g=>
  bnd (bif (b&&g) then J6 c.Tiers 1 10 else some default) fun j=>
  bnd (bif ((b&&g)&&j) then J6 c.Height 0 40000 else some default) fun q=>
  some (((((b&&g)&&j)&&q)&&((f&&i)&&p))&&((e&&h)&&o))) c.Plugs 0 ()
theorem qE (c:G6) (r:Bool) (h:Zw c=some r):Pure Ek 108 [.agg (G6.cs c)] (·=BL r):=by
 unfold Zw at h
 refine Gy [.tmp 2] Tryz.func108 G G (Jr fun c3=>(JLh (.ptr 1123 0) (Jy (cs:=(G6.cs c)) 1123 G G G G G) G (JLm (BL false) G (G5 (c3 (Gw [(1,Ef c)] [] 1123 rfl rfl rfl U rfl (by exact⟨.ptr,U⟩) (Js fun c4=>Jr fun c5=>(JLm (I64 0) G (G5 (c5 (Gf ?_)))))))))))
 obtain⟨c6,w,x,v,h⟩:=Hy h
 refine H8 (fun a (s:Unit)=>each c6 w (List.drop a c.Plugs) a s=some r) (fun a s=>[(1,Ef c),(3,Ej a)]) (fun a s=>[]) (fun a=>c.Plugs.length - a) 0 () h ⟨(.sm G G),U,G⟩ ?_
 clear h
 intro a s t d1 c7
 refine Js fun z=>Jr fun a0=>(JLm (Ej a) G (JLh (.dptr ((G6.cs c).drop 8)) (Ga Rz G G G) G (JLh (E2 c.Plugs) (Ge He G G G) G (JLl Gz G G G fun c8=>(JLh (BL (decide ((a:Int) < (c.Plugs.length:Int)))) (Hr G G G) G (G5 (a0 (Gg G (fun hb=>?_) (fun hb=>?_)))))))))
 ·
  have u:=Je hb
  obtain⟨b,d0,q,a1,h⟩:=Hh t u
  replace h:=Rx x h
  refine Gn (z (Js fun a2=>Gf (Js fun a3=>Js fun a4=>?_)))
  refine JC_d0 Jd (by kernel_rfl) (Dq (.dptr ((G6.cs c).drop 8)) (Ga Rz G G G) G (Dq (E2 c.Plugs) (Ge He G G G) G (Dq (Ej a) (G3 G G) G (Dq (.dptr [I64 b]) (Gr (f:=I64) (xs:=c.Plugs) (y:=b) G G G Gz q G) G (Dq (I64 b) (Ge Gb G G G) G (Dq (BL (decide (b < 0))) (Hr G G G) G (Dq (BL (decide (b < 0))) (G3 G G) G (Do (.dptr ((G6.cs c).drop 8)) [] G .scf U (fun hc=>Ga Rz G G G) G (Do (E2 c.Plugs) [20] G .scf ⟨Ua,U⟩ (fun hc=>Ge He G G G) G (Do (Ej a) [] G .scf U (fun hc=>G3 G G) G (Do (.dptr [I64 b]) [21,22] G .scf ⟨Ua,Ua,U⟩ (fun hc=>Gr (f:=I64) (xs:=c.Plugs) (y:=b) G G G Gz q G) G (Do (I64 b) [23] G .scf ⟨Ua,U⟩ (fun hc=>Ge Gb G G G) G (Do (.dptr ((G6.cs c).drop 3)) [] G .scf U (fun hc=>Ga bR G G G) G ?_)))))))))))))
  refine Do (I64 c.Tiers) [25] G .scf ⟨Ua,U⟩ (fun hc=>Ge Gb G G G) G (Do (BL (decide (c.Tiers≤b))) [24,26] G .scf ⟨Ua,Ua,U⟩ (fun hc=>cH G G G) G (Dq (BL ((decide (b < 0))||(decide (c.Tiers≤b)))) (Rm G G G G) G (Dnil (a4 (JCc G h (fun h hb=>?_) (fun h hb=>?_))))))
  ·
   refine Jr fun a5=>(JLm (BL false) G (G5 (a5 (Gs (fin1 BL h)))))
  ·
   refine Gn (a3 (Js fun a6=>?_))
   obtain⟨c9,a7,h⟩:=Gd h
   obtain⟨p,a8,h⟩:=Gd h
   refine JC_d0 Jd (by kernel_rfl) (Dq (Ej a) (G3 G G) G (Dq (BL (decide (0 < (a:Int)))) (dE G G G) G (Dq (BL (decide (0 < (a:Int)))) (G3 G G) G (Do (.dptr ((G6.cs c).drop 8)) [] G .sct U (fun hc=>Ga Rz G G G) G (Do (E2 c.Plugs) [32] G .sct ⟨Ua,U⟩ (fun hc=>Ge He G G G) G (Do (Ej a) [] G .sct U (fun hc=>G3 G G) G (Do (I64 c9) [34] G .sct ⟨Ua,U⟩ (fun hc=>kX (aM (Gv hc a7)) G G G) G (Do (.dptr [I64 p]) [33,35] G .sct ⟨Ua,Ua,U⟩ (fun hc=>(match Jt (Gv hc a8) with | ⟨_,hm_,hy_⟩=>Gr (f:=I64) (xs:=c.Plugs) (y:=p) G G G Gz hy_ hm_)) G (Do (I64 p) [36] G .sct ⟨Ua,U⟩ (fun hc=>Ge Gb G G G) G (Do (.dptr ((G6.cs c).drop 8)) [] G .sct U (fun hc=>Ga Rz G G G) G (Do (E2 c.Plugs) [38] G .sct ⟨Ua,U⟩ (fun hc=>Ge He G G G) G (Do (Ej a) [] G .sct U (fun hc=>G3 G G) G (Do (.dptr [I64 b]) [39,40] G .sct ⟨Ua,Ua,U⟩ (fun hc=>Gr (f:=I64) (xs:=c.Plugs) (y:=b) G G G Gz q G) G ?_)))))))))))))
   refine Do (I64 b) [41] G .sct ⟨Ua,U⟩ (fun hc=>Ge Gb G G G) G (Do (BL (decide (b≤p))) [37,42] G .sct ⟨Ua,Ua,U⟩ (fun hc=>cH G G G) G (Dq (BL ((decide (0 < (a:Int)))&&(decide (b≤p)))) (J9 G G G G) G (Dnil (a6 (JCc G h (fun h hb=>?_) (fun h hb=>?_))))))
   ·
    refine Jr fun a9=>(JLm (BL false) G (G5 (a9 (Gs (fin1 BL h)))))
   ·
    refine Gn (a2 (G1 (JLm (Ej a) G (JLh (I64 ((a+1:Nat):Int)) (Hs (Hb u c8) G G G) G (JLm (I64 ((a+1:Nat):Int)) G (G5 (c7 _ _ (a+1) () (app1 a1 h) (by omega) ⟨(.sm G G),U,rfl⟩)))))))
 ·
  have h:=app1 v (Hi t (H6 hb))
  refine H9 (c4 (Jr fun b0=>(JLh (.dptr [I64 c.X,I64 c.Y,I64 c.Z]) (Ga lV G G G) G (JLh (I64 c.X) (Ge Gb G G G) G ?_))))
  obtain⟨j,b1,h⟩:=Gd h
  refine JLh (BL j) (Gi G (Jh c.X (-500000) 500000 j b1) Zs ⟨G,G,G,G,G,G,U⟩) G (JLm (BL j) G (JLo (.dptr [I64 c.Y,I64 c.Z]) [] G .sct U (fun hc=>Ga kN G G G) G (JLo (I64 c.Y) [49] G .sct ⟨Ua,U⟩ (fun hc=>Ge Gb G G G) G ?_)))
  obtain⟨l,b2,h⟩:=Gd h
  refine JLo (BL l) [50] G .sct ⟨Ua,U⟩ (fun hc=>Gi (args:=[I64 c.Y,I64 (-500000),I64 500000]) G (Jh c.Y (-500000) 500000 l (Gv hc b2)) Zs ⟨G,G,G,G,G,G,U⟩) G (JLh (BL (j&&l)) (J9 G G G G) G (JLm (BL (j&&l)) G (JLo (.dptr [I64 c.Z]) [] G .sct U (fun hc=>Ga kM G G G) G (JLo (I64 c.Z) [54] G .sct ⟨Ua,U⟩ (fun hc=>Ge Gb G G G) G ?_))))
  obtain⟨o,b3,h⟩:=Gd h
  refine JLo (BL o) [55] G .sct ⟨Ua,U⟩ (fun hc=>Gi (args:=[I64 c.Z,I64 (-500000),I64 500000]) G (Jh c.Z (-500000) 500000 o (Gv hc b3)) Zs ⟨G,G,G,G,G,G,U⟩) G (JLh (BL ((j&&l)&&o)) (J9 G G G G) G (JLm (BL ((j&&l)&&o)) G (G5 (b0 (Jr fun b4=>(JLh (.dptr ((G6.cs c).drop 5)) (Ga lY G G G) G (JLh (I64 c.Kilos20) (Ge Gb G G G) G ?_)))))))
  obtain⟨e,b5,h⟩:=Gd h
  refine JLh (BL e) (Gi G (Jh c.Kilos20 0 500000000 e b5) Zs ⟨G,G,G,G,G,G,U⟩) G (JLm (BL e) G (JLo (.dptr ((G6.cs c).drop 6)) [] G .sct U (fun hc=>Ga lX G G G) G (JLo (I64 c.Kilos40) [62] G .sct ⟨Ua,U⟩ (fun hc=>Ge Gb G G G) G ?_)))
  obtain⟨i,b6,h⟩:=Gd h
  refine JLo (BL i) [63] G .sct ⟨Ua,U⟩ (fun hc=>Gi (args:=[I64 c.Kilos40,I64 0,I64 500000000]) G (Jh c.Kilos40 0 500000000 i (Gv hc b6)) Zs ⟨G,G,G,G,G,G,U⟩) G (JLh (BL (e&&i)) (J9 G G G G) G (JLm (BL (e&&i)) G (JLo (.dptr ((G6.cs c).drop 7)) [] G .sct U (fun hc=>Ga lW G G G) G (JLo (I64 c.Lash) [67] G .sct ⟨Ua,U⟩ (fun hc=>Ge Gb G G G) G ?_))))
  obtain⟨m,b7,h⟩:=Gd h
  refine JLo (BL m) [68] G .sct ⟨Ua,U⟩ (fun hc=>Gi (args:=[I64 c.Lash,I64 0,I64 1000000000000]) G (Jh c.Lash 0 1000000000000 m (Gv hc b7)) Zs ⟨G,G,G,G,G,G,U⟩) G (JLh (BL ((e&&i)&&m)) (J9 G G G G) G (JLm (BL ((e&&i)&&m)) G (G5 (b4 (Jr fun b8=>(JLh (Ef c) (Ga bU G G G) G (JLh (I64 c.Bay) (Ge Gb G G G) G ?_)))))))
  obtain⟨d,b9,h⟩:=Gd h
  refine JLh (BL d) (Gi G (Jh c.Bay 0 39 d b9) Zs ⟨G,G,G,G,G,G,U⟩) G (JLm (BL d) G (JLo (.dptr ((G6.cs c).drop 1)) [] G .sct U (fun hc=>Ga bT G G G) G (JLo (I64 c.Row) [75] G .sct ⟨Ua,U⟩ (fun hc=>Ge Gb G G G) G ?_)))
  obtain⟨g,c0,h⟩:=Gd h
  refine JLo (BL g) [76] G .sct ⟨Ua,U⟩ (fun hc=>Gi (args:=[I64 c.Row,I64 0,I64 30]) G (Jh c.Row 0 30 g (Gv hc c0)) Zs ⟨G,G,G,G,G,G,U⟩) G (JLh (BL (d&&g)) (J9 G G G G) G (JLm (BL (d&&g)) G (JLo (.dptr ((G6.cs c).drop 3)) [] G .sct U (fun hc=>Ga bR G G G) G (JLo (I64 c.Tiers) [80] G .sct ⟨Ua,U⟩ (fun hc=>Ge Gb G G G) G ?_))))
  obtain⟨k,c1,h⟩:=Gd h
  refine JLo (BL k) [81] G .sct ⟨Ua,U⟩ (fun hc=>Gi (args:=[I64 c.Tiers,I64 1,I64 10]) G (Jh c.Tiers 1 10 k (Gv hc c1)) Zs ⟨G,G,G,G,G,G,U⟩) G (JLh (BL ((d&&g)&&k)) (J9 G G G G) G (JLm (BL ((d&&g)&&k)) G (JLo (.dptr ((G6.cs c).drop 4)) [] G .sct U (fun hc=>Ga dA G G G) G (JLo (I64 c.Height) [85] G .sct ⟨Ua,U⟩ (fun hc=>Ge Gb G G G) G ?_))))
  obtain⟨n,c2,h⟩:=Gd h
  refine JLo (BL n) [86] G .sct ⟨Ua,U⟩ (fun hc=>Gi (args:=[I64 c.Height,I64 0,I64 40000]) G (Jh c.Height 0 40000 n (Gv hc c2)) Zs ⟨G,G,G,G,G,G,U⟩) G (JLh (BL (((d&&g)&&k)&&n)) (J9 G G G G) G (JLm (BL (((d&&g)&&k)&&n)) G (JLo (BL ((e&&i)&&m)) [] G .sct U (fun hc=>G3 G G) G (JLh (BL ((((d&&g)&&k)&&n)&&((e&&i)&&m))) (J9 G G G G) G (JLm (BL ((((d&&g)&&k)&&n)&&((e&&i)&&m))) G (JLo (BL ((j&&l)&&o)) [] G .sct U (fun hc=>G3 G G) G (JLh (BL (((((d&&g)&&k)&&n)&&((e&&i)&&m))&&((j&&l)&&o))) (J9 G G G G) G (JLm (BL (((((d&&g)&&k)&&n)&&((e&&i)&&m))&&((j&&l)&&o))) G (G5 (b8 (Gs (fin1 BL h))))))))))))

def Qq (rows:List Int) (row:Int):Option Bool:=
 each (fun b d (c:Unit) a=>
  bif decide (b=row) then
  (some true)
  else
  (a ()))
 (fun(c:Unit)=>
  some false) rows 0 ()
theorem iH (rows:List Int) (row:Int) (r:Bool) (h:Qq rows row=some r):Pure Ek 109 [E2 rows,I64 row] (·=BL r):=by
 unfold Qq at h
 refine Gy [.tmp 4] Tryz.func109 G G (Jr fun t=>(JLm (BL false) G (G5 (t (Js fun u=>Jr fun v=>(JLm (I64 0) G (G5 (v (Gf ?_)))))))))
 obtain⟨w,i,j,g,h⟩:=Hy h
 refine H8 (fun a (b:Unit)=>each w i (List.drop a rows) a b=some r) (fun a b=>[(0,E2 rows),(1,I64 row),(5,Ej a)]) (fun a b=>[]) (fun a=>rows.length - a) 0 () h ⟨(.sm G G),U,G⟩ ?_
 clear h
 intro a b d a1 x
 refine Js fun k=>Jr fun l=>(JLm (Ej a) G (JLm (E2 rows) G (JLl Gz G G G fun z=>(JLh (BL (decide ((a:Int) < (rows.length:Int)))) (Hr G G G) G (G5 (l (Gg G (fun hb=>?_) (fun hb=>?_))))))))
 ·
  have e:=Je hb
  obtain⟨c,a0,m,n,h⟩:=Hh d e
  replace h:=Rx j h
  refine Gn (k (Js fun o=>Gf (Jr fun p=>(JLm (E2 rows) G (JLm (Ej a) G (JLh (.dptr [I64 c]) (Gr (f:=I64) (xs:=rows) (y:=c) G G G Gz m G) G (JLh (I64 c) (Ge Gb G G G) G (JLm (I64 row) G (JLh (BL (decide (c=row))) (Qc G G G) G (G5 (p (JCc G h (fun h hb=>?_) (fun h hb=>?_)))))))))))))
  ·
   refine Jr fun q=>(JLm (BL true) G (G5 (q (Gs (fin1 BL h)))))
  ·
   refine Gn (o (G1 (JLm (Ej a) G (JLh (I64 ((a+1:Nat):Int)) (Hs (Hb e z) G G G) G (JLm (I64 ((a+1:Nat):Int)) G (G5 (x _ _ (a+1) () (app1 n h) (by omega) ⟨(.sm G G),U,rfl⟩)))))))
 ·
  have h:=app1 g (Hi d (H6 hb))
  refine H9 (u (Jr fun s=>(JLm (BL false) G (G5 (s (Gs (fin1 BL h)))))))

def Yv (F:Nat) (s:Gq):Option Bool:=
 bnd (J6 (s.Columns.length:Int) 1 200) fun r4=>
 bif ((!r4)||(decide (40 < (s.Covers.length:Int)))) then
 (some false)
 else
 (each (fun b p (s8:Unit) q=>
   bnd (Zw b) fun r=>
   bif (!r) then
   (some false)
   else
   (need (decide ((p:Int)≤9223372036854775807)) <|
    upto (fun d (t:Unit) l=>
     Jo s.Columns (d:Int) fun e=>
     bnd (bif decide (e.Bay=b.Bay) then Jo s.Columns (d:Int) some else some default) fun i=>
     bnd (bif ((decide (e.Bay=b.Bay))&&(decide (i.Row=b.Row))) then Jo s.Columns (d:Int) some else some default) fun u=>
     bif (((decide (e.Bay=b.Bay))&&(decide (i.Row=b.Row)))&&(u.Deck==b.Deck)) then
     (some false)
     else
     (l ()))
    (fun(t:Unit)=>
     q ()) (p:Int).toNat 0 ()))
  (fun(s8:Unit)=>
   each (fun a j (v:Unit) m=>
    bnd (J6 a.Bay 0 39) fun w=>
    bif ((!w)||(decide ((a.Rows.length:Int)=0))) then
    (some false)
    else
    (each (fun f c (x:Unit) n=>
      bnd (J6 f 0 30) fun g=>
      bnd (bif ((!(!g))&&(decide (0 < (c:Int)))) then chk ((c:Int) - 1) some else some 0) fun y=>
      bnd (bif ((!(!g))&&(decide (0 < (c:Int)))) then Jo a.Rows y some else some default) fun z=>
      bif ((!g)||((decide (0 < (c:Int)))&&(decide (f≤z)))) then
      (some false)
      else
      (need (decide ((j:Int)≤9223372036854775807)) <|
       upto (fun k (a0:Unit) o=>
        Jo s.Covers (k:Int) fun h=>
        bnd (bif decide (h.Bay=a.Bay) then Jo s.Covers (k:Int) some else some default) fun a1=>
        bnd (bif decide (h.Bay=a.Bay) then Qq a1.Rows f else some default) fun a2=>
        bif ((decide (h.Bay=a.Bay))&&a2) then
        (some false)
        else
        (o ()))
       (fun(a0:Unit)=>
        n ()) (j:Int).toNat 0 ()))
     (fun(x:Unit)=>
      m ()) a.Rows 0 ()))
   (fun(v:Unit)=>
    some true) s.Covers 0 ()) s.Columns 0 ())
theorem iT (F:Nat) (s:Gq) (r:Bool) (h:Yv F s=some r):Pure Ek 47 [.agg (Gq.cs s)] (·=BL r):=by
 unfold Yv at h
 refine Gy [.tmp 2] Tryz.func47 G G (Jr fun j0=>(JLh (.ptr 1070 0) (Jy (cs:=(Gq.cs s)) 1070 G G G G G) G (JLm (BL false) G (G5 (j0 (Gw [(1,Ed s)] [] 1070 rfl rfl rfl U rfl (by exact⟨.ptr,U⟩) (Js fun j1=>Jr fun j2=>(JLh (Ed s) (Ga Hu G G G) G (JLh (E4 s.Columns) (Ge J2 G G G) G (JLl Hd G G G fun l0=>?_))))))))))
 obtain⟨r4,j3,h⟩:=Gd h
 refine JLh (BL r4) (Gi G (Jh (s.Columns.length:Int) 1 200 r4 j3) Zs ⟨G,G,G,G,G,G,U⟩) G (JLh (BL (!r4)) (Qj (b:=r4) G G) G (JLm (BL (!r4)) G (JLo (.dptr ((Gq.cs s).drop 1)) [] G .scf U (fun hc=>Ga Qh G G G) G (JLo (E5 s.Covers) [15] G .scf ⟨Ua,U⟩ (fun hc=>Ge R4 G G G) G (JLo (Ej s.Covers.length) [16] G .scf ⟨Ua,U⟩ (fun hc=>Q8 (f:=H3.av) (xs:=s.Covers) J1 G G) G (JLo (BL (decide (40 < (s.Covers.length:Int)))) [17] G .scf ⟨Ua,U⟩ (fun hc=>dE G G G) G (JLh (BL ((!r4)||(decide (40 < (s.Covers.length:Int))))) (Rm G G G G) G (G5 (j2 (JCc G h (fun h hb=>?_) (fun h hb=>?_)))))))))))
 ·
  refine Jr fun j4=>(JLm (BL false) G (G5 (j4 (Gs (fin1 BL h)))))
 ·
  refine Gn (j1 (Js fun j5=>Jr fun j6=>(JLm (I64 0) G (G5 (j6 (Gf ?_))))))
  obtain⟨b8,j7,j8,c3,h⟩:=Hy h
  refine H8 (fun k (s8:Unit)=>each b8 j7 (List.drop k s.Columns) k s8=some r) (fun k s8=>[(1,Ed s),(3,Ej k)]) (fun k s8=>[]) (fun k=>s.Columns.length - k) 0 () h ⟨(.sm G G),U,G⟩ ?_
  clear h
  intro k s8 c1 K8 e8
  refine Js fun j9=>Jr fun c4=>(JLm (Ej k) G (JLh (Ed s) (Ga Hu G G G) G (JLh (E4 s.Columns) (Ge J2 G G G) G (JLl Hd G G G fun c5=>(JLh (BL (decide ((k:Int) < (s.Columns.length:Int)))) (Hr G G G) G (G5 (c4 (Gg G (fun hb=>?_) (fun hb=>?_)))))))))
  ·
   have c2:=Je hb
   obtain⟨e,l7,x,k0,h⟩:=Hh c1 c2
   replace h:=Rx j8 h
   refine Gn (j9 (Js fun c6=>Gf (Js fun c7=>Jr fun c8=>(JLh (Ed s) (Ga Hu G G G) G (JLh (E4 s.Columns) (Ge J2 G G G) G (JLm (Ej k) G (JLh (Ef e) (Gr (f:=G6.av) (xs:=s.Columns) (y:=e) G G G Hd x G) G (JLh (.agg (G6.cs e)) (Gj Zu G G G) G ?_))))))))
   obtain⟨z,c9,h⟩:=Gd h
   refine JLh (BL z) (Gi G (qE e z c9) Gfd ⟨G,G,U⟩) G (JLh (BL (!z)) (Qj (b:=z) G G) G (G5 (c8 (JCc G h (fun h hb=>?_) (fun h hb=>?_)))))
   ·
    refine Jr fun d0=>(JLm (BL false) G (G5 (d0 (Gs (fin1 BL h)))))
   ·
    refine Gn (c7 (Jr fun d1=>(JLm (I64 0) G (G5 (d1 (Gf ?_))))))
    obtain⟨d2,h⟩:=J5 h
    obtain⟨k1,d3,d4,b5,h⟩:=dW h
    refine H8 (fun g (a0:Unit)=>upto k1 d3 ((k:Int).toNat - g) g a0=some r) (fun g a0=>[(1,Ed s),(3,Ej k),(4,Ej g)]) (fun g a0=>[]) (fun g=>(k:Int).toNat - g) 0 () h ⟨(.sm G G),U,G⟩ ?_
    clear h
    intro g a0 a5 l8 k2
    refine Js fun d5=>Jr fun d6=>(JLm (Ej g) G (JLm (Ej k) G (JLh (BL (decide ((g:Int) < (k:Int)))) (Hr G G G) G (G5 (d6 (Gg G (fun hb=>?_) (fun hb=>?_)))))))
    ·
     have a6:=cE hb
     obtain⟨l3,d7,h⟩:=cA a5 a6
     replace h:=vG d4 h
     refine Gn (d5 (Js fun d8=>Gf (Js fun d9=>?_)))
     obtain⟨l9,l,e0,e1,h⟩:=R0 h
     obtain⟨n,e2,h⟩:=Gd h
     obtain⟨q,e3,h⟩:=Gd h
     refine JC_d0 Jd (by kernel_rfl) (Dq (Ed s) (Ga Hu G G G) G (Dq (E4 s.Columns) (Ge J2 G G G) G (Dq (Ej g) (G3 G G) G (Dq (Ef l) (Gr (f:=G6.av) (xs:=s.Columns) (y:=l) G G G Hd e1 e0) G (Dq (Ef l) (Ga bU G G G) G (Dq (I64 l.Bay) (Ge Gb G G G) G (Dq (Ed s) (Ga Hu G G G) G (Dq (E4 s.Columns) (Ge J2 G G G) G (Dq (Ej k) (G3 G G) G (Dq (Ef e) (Gr (f:=G6.av) (xs:=s.Columns) (y:=e) G G G Hd x G) G (Dq (Ef e) (Ga bU G G G) G (Dq (I64 e.Bay) (Ge Gb G G G) G (Dq (BL (decide (l.Bay=e.Bay))) (Qc G G G) G ?_)))))))))))))
     refine Dq (BL (decide (l.Bay=e.Bay))) (G3 G G) G (Do (Ed s) [] G .sct U (fun hc=>Ga Hu G G G) G (Do (E4 s.Columns) [53] G .sct ⟨Ua,U⟩ (fun hc=>Ge J2 G G G) G (Do (Ej g) [] G .sct U (fun hc=>G3 G G) G (Do (Ef n) [54,55] G .sct ⟨Ua,Ua,U⟩ (fun hc=>(match Jt (Gv hc e2) with | ⟨_,hm_,hy_⟩=>Gr (f:=G6.av) (xs:=s.Columns) (y:=n) G G G Hd hy_ hm_)) G (Do (.dptr ((G6.cs n).drop 1)) [56] G .sct ⟨Ua,U⟩ (fun hc=>Ga bT G G G) G (Do (I64 n.Row) [57] G .sct ⟨Ua,U⟩ (fun hc=>Ge Gb G G G) G (Do (Ed s) [] G .sct U (fun hc=>Ga Hu G G G) G (Do (E4 s.Columns) [59] G .sct ⟨Ua,U⟩ (fun hc=>Ge J2 G G G) G (Do (Ej k) [] G .sct U (fun hc=>G3 G G) G (Do (Ef e) [60,61] G .sct ⟨Ua,Ua,U⟩ (fun hc=>Gr (f:=G6.av) (xs:=s.Columns) (y:=e) G G G Hd x G) G (Do (.dptr ((G6.cs e).drop 1)) [62] G .sct ⟨Ua,U⟩ (fun hc=>Ga bT G G G) G (Do (I64 e.Row) [63] G .sct ⟨Ua,U⟩ (fun hc=>Ge Gb G G G) G (Do (BL (decide (n.Row=e.Row))) [58,64] G .sct ⟨Ua,Ua,U⟩ (fun hc=>Qc G G G) G ?_)))))))))))))
     refine Dq (BL ((decide (l.Bay=e.Bay))&&(decide (n.Row=e.Row)))) (J9 G G G G) G (Dq (BL ((decide (l.Bay=e.Bay))&&(decide (n.Row=e.Row)))) (G3 G G) G (Do (Ed s) [] G .sct U (fun hc=>Ga Hu G G G) G (Do (E4 s.Columns) [68] G .sct ⟨Ua,U⟩ (fun hc=>Ge J2 G G G) G (Do (Ej g) [] G .sct U (fun hc=>G3 G G) G (Do (Ef q) [69,70] G .sct ⟨Ua,Ua,U⟩ (fun hc=>(match Jt (Gv hc e3) with | ⟨_,hm_,hy_⟩=>Gr (f:=G6.av) (xs:=s.Columns) (y:=q) G G G Hd hy_ hm_)) G (Do (.dptr ((G6.cs q).drop 2)) [71] G .sct ⟨Ua,U⟩ (fun hc=>Ga bS G G G) G (Do (BL q.Deck) [72] G .sct ⟨Ua,U⟩ (fun hc=>Ge Ye G G G) G (Do (Ed s) [] G .sct U (fun hc=>Ga Hu G G G) G (Do (E4 s.Columns) [74] G .sct ⟨Ua,U⟩ (fun hc=>Ge J2 G G G) G (Do (Ej k) [] G .sct U (fun hc=>G3 G G) G (Do (Ef e) [75,76] G .sct ⟨Ua,Ua,U⟩ (fun hc=>Gr (f:=G6.av) (xs:=s.Columns) (y:=e) G G G Hd x G) G (Do (.dptr ((G6.cs e).drop 2)) [77] G .sct ⟨Ua,U⟩ (fun hc=>Ga bS G G G) G (Do (BL e.Deck) [78] G .sct ⟨Ua,U⟩ (fun hc=>Ge Ye G G G) G ?_)))))))))))))
     refine Do (BL (q.Deck==e.Deck)) [73,79] G .sct ⟨Ua,Ua,U⟩ (fun hc=>H46 sI G G G) G (Dq (BL (((decide (l.Bay=e.Bay))&&(decide (n.Row=e.Row)))&&(q.Deck==e.Deck))) (J9 G G G G) G (Dnil (d9 (JCc G h (fun h hb=>?_) (fun h hb=>?_)))))
     ·
      refine Jr fun e4=>(JLm (BL false) G (G5 (e4 (Gs (fin1 BL h)))))
     ·
      refine Gn (d8 (G1 (JLm (Ej g) G (JLh (I64 ((g+1:Nat):Int)) (Hs (Hb a6 (Zr d2)) G G G) G (JLm (I64 ((g+1:Nat):Int)) G (G5 (k2 _ _ (g+1) () (app1 d7 h) (by omega) ⟨(.sm G G),U,rfl⟩)))))))
    ·
     have h:=app1 b5 (cB a5 (R9 hb))
     refine H9 (c6 (G1 (JLm (Ej k) G (JLh (I64 ((k+1:Nat):Int)) (Hs (Hb c2 c5) G G G) G (JLm (I64 ((k+1:Nat):Int)) G (G5 (e8 _ _ (k+1) () (app1 k0 h) (by omega) ⟨(.sm G G),U,rfl⟩)))))))
  ·
   have h:=app1 c3 (Hi c1 (H6 hb))
   refine H9 (j5 (Js fun e5=>Jr fun e6=>(JLm (I64 0) G (G5 (e6 (Gf ?_))))))
   obtain⟨k3,e7,e9,b6,h⟩:=Hy h
   refine H8 (fun d (a1:Unit)=>each k3 e7 (List.drop d s.Covers) d a1=some r) (fun d a1=>[(1,Ed s),(5,Ej d)]) (fun d a1=>[]) (fun d=>s.Covers.length - d) 0 () h ⟨(.sm G G),U,G⟩ ?_
   clear h
   intro d a1 a7 m0 k4
   refine Js fun f0=>Jr fun f1=>(JLm (Ej d) G (JLh (.dptr ((Gq.cs s).drop 1)) (Ga Qh G G G) G (JLh (E5 s.Covers) (Ge R4 G G G) G (JLl J1 G G G fun f2=>(JLh (BL (decide ((d:Int) < (s.Covers.length:Int)))) (Hr G G G) G (G5 (f1 (Gg G (fun hb=>?_) (fun hb=>?_)))))))))
   ·
    have a8:=Je hb
    obtain⟨a,l4,f3,f4,h⟩:=Hh a7 a8
    replace h:=Rx e9 h
    refine Gn (f0 (Js fun f5=>Gf (Jr fun f6=>(JLh (.dptr ((Gq.cs s).drop 1)) (Ga Qh G G G) G (JLh (E5 s.Covers) (Ge R4 G G G) G (JLm (Ej d) G (JLh (.dptr [I64 a.Bay,E2 a.Rows]) (Gr (f:=H3.av) (xs:=s.Covers) (y:=a) G G G J1 f3 G) G (JLh (.agg [I64 a.Bay,E2 a.Rows]) (Gj Zd G G G) G (JLh (.ptr 1071 0) (Jp 1071 2 fF G G) G (J7 (u:=.junk) (Hv (u:=.agg [I64 a.Bay,E2 a.Rows]) (ds:=[I64 a.Bay,E2 a.Rows]) jL G G G G G G G G) (G5 (f6 (Gw [(1,Ed s),(5,Ej d),(6,.dptr [I64 a.Bay,E2 a.Rows])] [] 1071 rfl rfl rfl U rfl (by exact⟨.conv (.same rfl),.conv (.same rfl),.ptr,U⟩) (Js fun f7=>?_))))))))))))))
    refine Jr fun f8=>(JLh (.dptr [I64 a.Bay,E2 a.Rows]) (Ga aI G G G) G (JLh (I64 a.Bay) (Ge Gb G G G) G ?_))
    obtain⟨t,f9,h⟩:=Gd h
    refine JLh (BL t) (Gi G (Jh a.Bay 0 39 t f9) Zs ⟨G,G,G,G,G,G,U⟩) G (JLh (BL (!t)) (Qj (b:=t) G G) G (JLm (BL (!t)) G (JLo (.dptr [E2 a.Rows]) [] G .scf U (fun hc=>Ga Qg G G G) G (JLo (E2 a.Rows) [99] G .scf ⟨Ua,U⟩ (fun hc=>Ge He G G G) G (JLo (Ej a.Rows.length) [100] G .scf ⟨Ua,U⟩ (fun hc=>Q8 (f:=I64) (xs:=a.Rows) Gz G G) G (JLo (BL (decide ((a.Rows.length:Int)=0))) [101] G .scf ⟨Ua,U⟩ (fun hc=>Qc G G G) G (JLh (BL ((!t)||(decide ((a.Rows.length:Int)=0)))) (Rm G G G G) G (G5 (f8 (JCc G h (fun h hb=>?_) (fun h hb=>?_)))))))))))
    ·
     refine Jr fun g0=>(JLm (BL false) G (G5 (g0 (Gs (fin1 BL h)))))
    ·
     refine Gn (f7 (Jr fun g1=>(JLm (I64 0) G (G5 (g1 (Gf ?_))))))
     obtain⟨k5,g2,g3,b7,h⟩:=Hy h
     refine H8 (fun c (a2:Unit)=>each k5 g2 (List.drop c a.Rows) c a2=some r) (fun c a2=>[(1,Ed s),(5,Ej d),(6,.dptr [I64 a.Bay,E2 a.Rows]),(7,Ej c)]) (fun c a2=>[]) (fun c=>a.Rows.length - c) 0 () h ⟨(.sm G G),U,rfl⟩ ?_
     clear h
     intro c a2 a9 m1 k6
     refine Js fun g4=>Jr fun g5=>(JLm (Ej c) G (JLh (.dptr [E2 a.Rows]) (Ga Qg G G G) G (JLh (E2 a.Rows) (Ge He G G G) G (JLl Gz G G G fun b9=>(JLh (BL (decide ((c:Int) < (a.Rows.length:Int)))) (Hr G G G) G (G5 (g5 (Gg G (fun hb=>?_) (fun hb=>?_)))))))))
     ·
      have b0:=Je hb
      obtain⟨i,l5,w,g6,h⟩:=Hh a9 b0
      replace h:=Rx g3 h
      refine Gn (g4 (Js fun g7=>Gf (Js fun g8=>Js fun g9=>?_)))
      obtain⟨o,h0,h⟩:=Gd h
      obtain⟨k7,h1,h⟩:=Gd h
      obtain⟨v,h2,h⟩:=Gd h
      refine JC_d0 Jd (by kernel_rfl) (Dq (.dptr [E2 a.Rows]) (Ga Qg G G G) G (Dq (E2 a.Rows) (Ge He G G G) G (Dq (Ej c) (G3 G G) G (Dq (.dptr [I64 i]) (Gr (f:=I64) (xs:=a.Rows) (y:=i) G G G Gz w G) G (Dq (I64 i) (Ge Gb G G G) G (Dq (BL o) (Gi (args:=[I64 i,I64 0,I64 30]) G (Jh i 0 30 o h0) Zs ⟨G,G,G,G,G,G,U⟩) G (Dq (BL (!o)) (Qj (b:=o) G G) G (Dq (BL (!o)) (G3 G G) G (Do (Ej c) [] G .scf U (fun hc=>G3 G G) G (Do (BL (decide (0 < (c:Int)))) [119] G .scf ⟨Ua,U⟩ (fun hc=>dE G G G) G (Do (BL (decide (0 < (c:Int)))) [120] G .scf ⟨Ua,U⟩ (fun hc=>G3 G G) G (Do (.dptr [E2 a.Rows]) [] G .optt U (fun hc=>Ga Qg G G G) G (Do (E2 a.Rows) [122] G .optt ⟨Ua,U⟩ (fun hc=>Ge He G G G) G ?_)))))))))))))
      refine Do (Ej c) [] G .optt U (fun hc=>G3 G G) G (Do (I64 k7) [124] G .optt ⟨Ua,U⟩ (fun hc=>kX (aM (Gv hc h1)) G G G) G (Do (.dptr [I64 v]) [123,125] G .optt ⟨Ua,Ua,U⟩ (fun hc=>(match Jt (Gv hc h2) with | ⟨_,hm_,hy_⟩=>Gr (f:=I64) (xs:=a.Rows) (y:=v) G G G Gz hy_ hm_)) G (Do (I64 v) [126] G .optt ⟨Ua,U⟩ (fun hc=>Ge Gb G G G) G (Do (.dptr [E2 a.Rows]) [] G .optt U (fun hc=>Ga Qg G G G) G (Do (E2 a.Rows) [128] G .optt ⟨Ua,U⟩ (fun hc=>Ge He G G G) G (Do (Ej c) [] G .optt U (fun hc=>G3 G G) G (Do (.dptr [I64 i]) [129,130] G .optt ⟨Ua,Ua,U⟩ (fun hc=>Gr (f:=I64) (xs:=a.Rows) (y:=i) G G G Gz w G) G (Do (I64 i) [131] G .optt ⟨Ua,U⟩ (fun hc=>Ge Gb G G G) G (Do (BL (decide (i≤v))) [127,132] G .optt ⟨Ua,Ua,U⟩ (fun hc=>cH G G G) G (Dg (.opt (!(!o)) (BL ((decide (0 < (c:Int)))&&(decide (i≤v))))) (Gc [(121,BL (decide (0 < (c:Int)))),(133,_)] G G G .scf ⟨.all id,.part,U⟩ (fun hc=>J9 G G G G) G) G (Dq (BL ((!o)||((decide (0 < (c:Int)))&&(decide (i≤v))))) (Rm G G G G) G (Dnil ?_))))))))))))
      refine g9 (JCc G h (fun h hb=>?_) (fun h hb=>?_))
      ·
       refine Jr fun h3=>(JLm (BL false) G (G5 (h3 (Gs (fin1 BL h)))))
      ·
       refine Gn (g8 (Jr fun h4=>(JLm (I64 0) G (G5 (h4 (Gf ?_))))))
       obtain⟨h5,h⟩:=J5 h
       obtain⟨k8,h6,h7,c0,h⟩:=dW h
       refine H8 (fun j (a3:Unit)=>upto k8 h6 ((d:Int).toNat - j) j a3=some r) (fun j a3=>[(1,Ed s),(5,Ej d),(6,.dptr [I64 a.Bay,E2 a.Rows]),(7,Ej c),(8,Ej j)]) (fun j a3=>[]) (fun j=>(d:Int).toNat - j) 0 () h ⟨(.sm G G),U,rfl⟩ ?_
       clear h
       intro j a3 b1 m2 k9
       refine Js fun h8=>Jr fun h9=>(JLm (Ej j) G (JLm (Ej d) G (JLh (BL (decide ((j:Int) < (d:Int)))) (Hr G G G) G (G5 (h9 (Gg G (fun hb=>?_) (fun hb=>?_)))))))
       ·
        have b2:=cE hb
        obtain⟨l6,i0,h⟩:=cA b1 b2
        replace h:=vG h7 h
        refine Gn (h8 (Js fun i1=>Gf (Js fun i2=>?_)))
        obtain⟨m3,m,i3,i4,h⟩:=R0 h
        obtain⟨p,i5,h⟩:=Gd h
        obtain⟨b3,i6,h⟩:=Gd h
        refine JC_d0 Jd (by kernel_rfl) (Dq (.dptr ((Gq.cs s).drop 1)) (Ga Qh G G G) G (Dq (E5 s.Covers) (Ge R4 G G G) G (Dq (Ej j) (G3 G G) G (Dq (.dptr [I64 m.Bay,E2 m.Rows]) (Gr (f:=H3.av) (xs:=s.Covers) (y:=m) G G G J1 i4 i3) G (Dq (.dptr [I64 m.Bay,E2 m.Rows]) (Ga aI G G G) G (Dq (I64 m.Bay) (Ge Gb G G G) G (Dq (.dptr [I64 a.Bay,E2 a.Rows]) (Ga aI G G G) G (Dq (I64 a.Bay) (Ge Gb G G G) G (Dq (BL (decide (m.Bay=a.Bay))) (Qc G G G) G (Dq (BL (decide (m.Bay=a.Bay))) (G3 G G) G (Do (.dptr ((Gq.cs s).drop 1)) [] G .sct U (fun hc=>Ga Qh G G G) G (Do (E5 s.Covers) [151] G .sct ⟨Ua,U⟩ (fun hc=>Ge R4 G G G) G (Do (Ej j) [] G .sct U (fun hc=>G3 G G) G ?_)))))))))))))
        refine Do (.dptr [I64 p.Bay,E2 p.Rows]) [152,153] G .sct ⟨Ua,Ua,U⟩ (fun hc=>(match Jt (Gv hc i5) with | ⟨_,hm_,hy_⟩=>Gr (f:=H3.av) (xs:=s.Covers) (y:=p) G G G J1 hy_ hm_)) G (Do (.dptr [E2 p.Rows]) [154] G .sct ⟨Ua,U⟩ (fun hc=>Ga Qg G G G) G (Do (E2 p.Rows) [155] G .sct ⟨Ua,U⟩ (fun hc=>Ge He G G G) G (Do (.dptr [E2 a.Rows]) [] G .sct U (fun hc=>Ga Qg G G G) G (Do (E2 a.Rows) [157] G .sct ⟨Ua,U⟩ (fun hc=>Ge He G G G) G (Do (Ej c) [] G .sct U (fun hc=>G3 G G) G (Do (.dptr [I64 i]) [158,159] G .sct ⟨Ua,Ua,U⟩ (fun hc=>Gr (f:=I64) (xs:=a.Rows) (y:=i) G G G Gz w G) G (Do (I64 i) [160] G .sct ⟨Ua,U⟩ (fun hc=>Ge Gb G G G) G (Do (BL b3) [156,161] G .sct ⟨Ua,Ua,U⟩ (fun hc=>Gi (args:=[E2 p.Rows,I64 i]) G (iH p.Rows i b3 (Gv hc i6)) QV ⟨G,G,G,G,U⟩) G (Dq (BL ((decide (m.Bay=a.Bay))&&b3)) (J9 G G G G) G (Dnil ?_))))))))))
        refine i2 (JCc G h (fun h hb=>?_) (fun h hb=>?_))
        ·
         refine Jr fun i7=>(JLm (BL false) G (G5 (i7 (Gs (fin1 BL h)))))
        ·
         refine Gn (i1 (G1 (JLm (Ej j) G (JLh (I64 ((j+1:Nat):Int)) (Hs (Hb b2 (Zr h5)) G G G) G (JLm (I64 ((j+1:Nat):Int)) G (G5 (k9 _ _ (j+1) () (app1 i0 h) (by omega) ⟨(.sm G G),U,rfl⟩)))))))
       ·
        have h:=app1 c0 (cB b1 (R9 hb))
        refine H9 (g7 (G1 (JLm (Ej c) G (JLh (I64 ((c+1:Nat):Int)) (Hs (Hb b0 b9) G G G) G (JLm (I64 ((c+1:Nat):Int)) G (G5 (k6 _ _ (c+1) () (app1 g6 h) (by omega) ⟨(.sm G G),U,rfl⟩)))))))
     ·
      have h:=app1 b7 (Hi a9 (H6 hb))
      refine H9 (f5 (G1 (JLm (Ej d) G (JLh (I64 ((d+1:Nat):Int)) (Hs (Hb a8 f2) G G G) G (JLm (I64 ((d+1:Nat):Int)) G (G5 (k4 _ _ (d+1) () (app1 f4 h) (by omega) ⟨(.sm G G),U,rfl⟩)))))))
   ·
    have h:=app1 b6 (Hi a7 (H6 hb))
    refine H9 (e5 (Jr fun i9=>(JLm (BL true) G (G5 (i9 (Gs (fin1 BL h)))))))
end
end Go.Proofs.YthkihfoleenlmaaGreat
