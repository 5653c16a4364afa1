/-
 slices.Grow of no slice: A contract holds under other names of the local objects: slices.Grow of no slice.
-/
import Derived.Test.YtgcpimpnpcdmmaaGreatSeq
import Derived.Lib.AppendZeros
import Derived.Test.YtgcpimpnpcdmmaaGreatXB
set_option maxRecDepth 100000
namespace Go.Proofs.YtgcpimpnpcdmmaaGreat
open Go.RowKit

section ops
variable {P:Program} {o:Oper} {l:Fr} {L:Loc}
theorem Y03 {x:Operand} {T E k:Nat} (ho:o.op=.call { callee:=.builtin .cap,args:=#[x],argTypes:=#[T] }) (hT:sliceB P T E k=true) (hx:ev l x=.sc (.slice none 0 0)):Gy P o l L (Is (I64 0) L):=
 Hh fun a w β h0 hf=>by
  have hv:=hf.ev x
  rw [hx] at hv
  exact⟨.int .i64 0,by simp [execOp,ho,resolve,invoke,builtin,Builtin.cap_,underlying,(sliceB.out hT).1,hv.inv_sc,goInt],.sc⟩
theorem Y02 {x:Operand} {T E k:Nat} (ho:o.op=.call { callee:=.builtin .len,args:=#[x],argTypes:=#[T] }) (hT:sliceB P T E k=true) (hx:ev l x=.sc (.slice none 0 0)):Gy P o l L (Is (I64 0) L):=
 Hh fun a w β h0 hf=>by
  have hv:=hf.ev x
  rw [hx] at hv
  exact⟨.int .i64 0,by simp [execOp,ho,resolve,invoke,builtin,Builtin.len_,underlying,(sliceB.out hT).1,hv.inv_sc,goInt],.sc⟩
theorem Y76 {x p:Operand} {T E k:Nat} (ho:o.op=.slice T x none (some p) none) (hT:sliceB P T E k=true) (hx:ev l x=.sc (.slice none 0 0)) (hp:ev l p=I64 0):Gy P o l L (Is (.sc (.slice none 0 0)) L):=
 Hh fun a w β h0 hf=>by
  have hv:=hf.ev x
  rw [hx] at hv
  have v1:=hf.ev p; rw [hp] at v1
  refine⟨.slice none 0 0,?_,.sc⟩
  simp only [execOp,ho,hv.inv_sc,Sem.run_bind,Option.map_none,Option.map_some,v1.inv_sc]
  rw [show (Value.int .i64 0)=.int .i64 ((0:Nat):Int) from rfl,H32 hT none 0 0 0 0 _ _ w (Mb) (Mb) (.inl ⟨rfl,rfl⟩) (.inr ⟨.i64,rfl⟩)]
  rfl
theorem Ye7 (j:Nat) {s q:Operand} {T Tn E k by_ n:Nat} {kq kn:IntKind} {zi:Int} (ho:o.op=.call { callee:=.builtin .append,args:=#[s,q],argTypes:=#[T,Tn] }) (hs:ev l s=.sc (.slice none 0 0)) (hq:ev l q=.sc (.int kq zi)) (a4:zi=(n:Int))
  (hT:sliceB P T E k=true) (a5:P.underlying Tn=some (.int kn)) (hE:Yy P E k by_=true) (a0:Nat.blt 0 k=true) (hb:n*by_≤140737488355328) (h0:n≤maxLen) (hn:0 < n) (hj:lk L j=none) :
  Gy P o l L (Is (.vec j 0 k n) ((j,.vec E k 0 (List.replicate n (.agg (List.replicate k .junk))))::L)):=by
 subst a4
 intro a w β K Q a1 hf hK
 have a6:0 < k:=by simpa [Nat.blt_eq] using a0
 have hv:=hf.ev s
 rw [hs] at hv
 have h4:=hf.ev q
 rw [hq] at h4
 obtain⟨inf,z,e1,e2,e3,e4,e5,e6⟩:=Yy.out hE
 have hr:=Lib.run_append_nil_zeros (P:=P) w T Tn o.type E inf z kq kn (sliceB.out hT).1 a5 e1 e4 n hn (by omega) (by have:=h0; simp [maxLen] at this; omega) (by rw [e3]; omega)
 have h1:=grownCap_ge w n 0 E
 have h5:=grownCap_le_maxLen w n 0 E h0
 generalize a7:grownCap w n 0 E=gc at hr h1 h5
 generalize a2:Builtin.zeroCells z.cells n++Builtin.zeroCells z.cells (gc - n)=row at hr
 have h6:∀ q,(Builtin.zeroCells z.cells q).size=q*k:=fun q=>by simp [Builtin.zeroCells,e5]
 have h7:row.size=gc*k:=by
  rw [← a2,Array.size_append,h6,h6,← Nat.add_mul]
  congr 1; omega
 have a3:(execOp a.eval o).run P w=.ok (.value (.slice (some ⟨w.heap.size,0,none⟩) n gc)) (w.drew.alloc (.cells row E)):=by
  simp [execOp,ho,resolve,invoke,builtin,hv.inv_sc,h4.inv_sc,hr]
 unfold Oper.wp
 rw [a3]
 have h3:∀ b',b' < w.heap.size→(w.drew.alloc (.cells row E)).heap[b']? = w.heap[b']? := fun b' h8=>by
  show (w.heap.push (.cells row E))[b']? = _
  rw [Array.getElem?_push,if_neg (by omega)]
 have h2:(w.drew.alloc (.cells row E)).heap[w.heap.size]? = some (.cells row E (0,0)):=by
  show (w.heap.push (.cells row E))[w.heap.size]? = _
  simp
 have h9:(w.drew.alloc (.cells row E)).heap.size=w.heap.size+1:=by
  show (w.heap.push (.cells row E)).size=_
  simp
 obtain⟨st,sat⟩:=R5 (w':=w.drew.alloc (.cells row E)) (t:=E) (k:=k) (ver1:=0) (xs':=List.replicate n (.agg (List.replicate k .junk))) (ob':=some w.heap.size) a1 (.inl hj) rfl rfl ⟨rfl,Nat.le_succ _⟩ (by rw [h9]; omega) (fun b' h8 _=>h3 b' h8) (.inr (.inr ⟨_,rfl,Mb,by rw [h9]; omega⟩))
 refine hK _ _ _ _ _ ⟨rfl,rfl⟩ (sat ⟨fun y hy=>by rw [List.eq_of_mem_replicate hy]; simp [AV.cells],.inr ⟨_,rfl,row,h2,by rw [List.length_replicate,h7]; exact Nat.mul_le_mul_right _ h1,fun j u v hu hv=>?_⟩⟩) st (.vec ⟨E,0,_,by rw [Gh,if_pos rfl],Mb,fun _=>⟨by rw [List.length_replicate],.inr ⟨w.heap.size,gc,rfl,by simp [upP],h1,h5,by unfold World.shape?; rw [h2]; simp only [h7]⟩⟩⟩ rfl)
 have:=Qe4 (k:=k) [] n (j:=j) (u:=u) (Nat.zero_le _) hu
 subst this
 exact .junk
end ops

mutual
def AV.ren (ρ:Nat→Nat):AV→AV
 | .junk=>.junk
 | .sc v=>.sc v
 | .agg cs=>.agg (J3e ρ cs)
 | .tup cs=>.tup (J3e ρ cs)
 | .list k xs=>.list k xs
 | .dptr cs=>.dptr cs
 | .ptr i off=>.ptr (ρ i) off
 | .own i ver k xs=>.own (ρ i) ver k xs
 | .ms i off n cap=>.ms (ρ i) off n cap
 | .mp i=>.mp (ρ i)
 | .it i=>.it (ρ i)
 | .vec i ver k n=>.vec (ρ i) ver k n
 | .fn f caps=>.fn f (J3e ρ caps)
 | .bfn f firsts=>.bfn f (J3e ρ firsts)
 | .opt c x=>.opt c (x.ren ρ)
 | .vptr i ver m f=>.vptr (ρ i) ver m f
 | .vsl i ver k off n=>.vsl (ρ i) ver k off n
 | .vcap i ver k n c=>.vcap (ρ i) ver k n c
 | .nst i ver n pre last=>.nst (ρ i) ver n pre (last.ren ρ)
 | .nptr i ver m u=>.nptr (ρ i) ver m (u.ren ρ)
 | .lst k xs ys=>.lst k xs ys
 | .dmap es=>.dmap es
 | .bag k xs=>.bag k xs
def J3e (ρ:Nat→Nat):List AV→List AV
 | []=>[]
 | x::r=>x.ren ρ::J3e ρ r
end
def J5.ren (ρ:Nat→Nat):J5→J5
 | .box t cs=>.box t (J3e ρ cs)
 | .spare t k ver hw=>.spare t k ver hw
 | .vec t k ver xs=>.vec t k ver xs
 | .map t es=>.map t es
 | .iter m n seen=>.iter (m.ren ρ) n seen
def H33 (ρ:Nat→Nat):Loc→Loc
 | []=>[]
 | (i,o)::r=>(ρ i,o.ren ρ)::H33 ρ r
def Gx.ren (ρ:Nat→Nat) (β:Gx):Gx:=⟨fun i=>β.at_ (ρ i),β.hid⟩

theorem Je5 (ρ:Nat→Nat):∀ (cs:List AV) (j:Nat),(J3e ρ cs)[j]? = (cs[j]?).map (·.ren ρ)
 | [],j=>by simp [J3e]
 | x::r,0=>by simp [J3e]
 | x::r,j+1=>by simp only [J3e,List.getElem?_cons_succ]; exact Je5 ρ r j
theorem Ga8 (ρ:Nat→Nat):∀ cs:List AV,(J3e ρ cs).length=cs.length
 | []=>rfl
 | x::r=>by rw [J3e,Me,Me,Ga8 ρ r]
theorem R93 {w:World} {β:Gx} {L:Loc} {ρ:Nat→Nat} {cs:List AV} {vs:Array Value} (ih:∀ (j:Nat) (u:AV) (v:Value),cs[j]? = some u→vs[j]? = some v→V w β L (u.ren ρ) v) (j:Nat) (u:AV) (v:Value) (hu:(J3e ρ cs)[j]? = some u) (hv:vs[j]? = some v):V w β L u v:=by
 rw [Je5] at hu
 obtain⟨u0,h0,rfl⟩:=Option.map_eq_some_iff.1 hu
 exact ih j u0 v h0 hv
mutual
theorem AV.ren_ren {ρ:Nat→Nat} (hρ:∀ i,ρ (ρ i)=i):∀ u:AV,(u.ren ρ).ren ρ=u
 | .junk=>rfl
 | .sc v=>rfl
 | .agg cs=>by simp only [AV.ren]; rw [He9 hρ cs]
 | .tup cs=>by simp only [AV.ren]; rw [He9 hρ cs]
 | .list k xs=>rfl
 | .dptr cs=>rfl
 | .ptr i off=>by simp only [AV.ren]; rw [hρ]
 | .own i ver k xs=>by simp only [AV.ren]; rw [hρ]
 | .ms i off n cap=>by simp only [AV.ren]; rw [hρ]
 | .mp i=>by simp only [AV.ren]; rw [hρ]
 | .it i=>by simp only [AV.ren]; rw [hρ]
 | .vec i ver k n=>by simp only [AV.ren]; rw [hρ]
 | .fn f caps=>by simp only [AV.ren]; rw [He9 hρ caps]
 | .bfn f firsts=>by simp only [AV.ren]; rw [He9 hρ firsts]
 | .opt c x=>by simp only [AV.ren]; rw [AV.ren_ren hρ x]
 | .vptr i ver m f=>by simp only [AV.ren]; rw [hρ]
 | .vsl i ver k off n=>by simp only [AV.ren]; rw [hρ]
 | .vcap i ver k n c=>by simp only [AV.ren]; rw [hρ]
 | .nst i ver n pre last=>by simp only [AV.ren]; rw [hρ,AV.ren_ren hρ last]
 | .nptr i ver m u=>by simp only [AV.ren]; rw [hρ,AV.ren_ren hρ u]
 | .lst k xs ys=>rfl
 | .dmap es=>rfl
 | .bag k xs=>rfl
theorem He9 {ρ:Nat→Nat} (hρ:∀ i,ρ (ρ i)=i):∀ cs:List AV,J3e ρ (J3e ρ cs)=cs
 | []=>rfl
 | x::r=>by simp only [J3e]; rw [AV.ren_ren hρ x,He9 hρ r]
end
section
variable {ρ:Nat→Nat} (hρ:∀ i,ρ (ρ i)=i)
include hρ
theorem J5.ren_ren (o:J5):(o.ren ρ).ren ρ=o:=by
 cases o <;> simp only [J5.ren]
 ·rw [He9 hρ]
 ·rw [AV.ren_ren hρ]
theorem Qcb:∀ L:Loc,H33 ρ (H33 ρ L)=L
 | []=>rfl
 | (i,o)::r=>by simp only [H33]; rw [hρ,J5.ren_ren hρ,Qcb r]
theorem Gx.ren_ren (β:Gx):(β.ren ρ).ren ρ=β:=by
 unfold Gx.ren
 simp only [hρ]
theorem Jc2:∀ (L:Loc) (i:Nat),lk (H33 ρ L) (ρ i)=(lk L i).map (·.ren ρ)
 | [],i=>rfl
 | (j,o)::r,i=>by
  simp only [H33,lk]
  have:Nat.beq (ρ j) (ρ i)=Nat.beq j i:=by
   rw [Bool.eq_iff_iff,Nat.beq_eq,Nat.beq_eq]
   exact⟨fun e=>by rw [← hρ j,e,hρ],fun e=>by rw [e]⟩
  rw [this]
  cases Nat.beq j i with
  | true=>rfl
  | false=>exact Jc2 r i
theorem Y94 (L:Loc) (i:Nat):lk (H33 ρ L) i=(lk L (ρ i)).map (·.ren ρ):=by
 have:=Jc2 hρ L (ρ i)
 rwa [hρ] at this
omit hρ in
theorem J5.ren_keeps (o:J5) (i:Nat):(o.ren ρ).keeps i ↔ o.keeps i:=by cases o <;> exact Iff.rfl
theorem Jdb {w:World} {β:Gx} {L:Loc} {b i:Nat}:Jk w β (H33 ρ L) b i ↔ Jk w (β.ren ρ) L b i:=by
 constructor
 ·rintro⟨h1,h2,h3⟩
  refine⟨h1,h2,fun id o hi hb=>?_⟩
  exact(J5.ren_keeps o i).1 (h3 (ρ id) (o.ren ρ) (by rw [Jc2 hρ,hi]; rfl) hb)
 ·rintro⟨h1,h2,h3⟩
  refine⟨h1,h2,fun id o hi hb=>?_⟩
  rw [Y94 hρ] at hi
  obtain⟨o0,h0,rfl⟩:=Option.map_eq_some_iff.1 hi
  exact(J5.ren_keeps o0 i).2 (h3 (ρ id) o0 h0 (by show β.at_ (ρ (ρ id))=some b; rw [hρ]; exact hb))
omit hρ in
theorem D.ren {w:World} {S:Nat→Nat→Prop} {β:Gx} {L:Loc} {u:AV} {v:Value} (h:D w S u v) (hs:∀ b i,S b i→Jk w β L b i):V w β L (u.ren ρ) v:=by
 have mono:∀ {u:AV} {v:Value},D w S u v→D w (Jk w β L) u v:=fun h=>h.mono fun b i g=>⟨hs b i g,rfl⟩
 induction h with
 | junk=>exact .data .junk
 | sc=>exact .data .sc
 | agg hl _ ih=>exact .agg (hl.trans (Ga8 ρ _).symm) (R93 ih)
 | tup hl _ ih=>exact .tup (hl.trans (Ga8 ρ _).symm) (R93 ih)
 | nil h=>exact .data (.nil h)
 | list vals h1 hm hk hS h _=>exact .data (mono (.list vals h1 hm hk hS h))
 | lnil h=>exact .data (.lnil h)
 | lst vals h1 hm hk hS h _=>exact .data (mono (.lst vals h1 hm hk hS h))
 | dptr vals hS h _=>exact .data (mono (.dptr vals hS h))
 | fn hl _ ih=>exact .fn (hl.trans (Ga8 ρ _).symm) (R93 ih)
 | bfn hl _ ih=>exact .bfn (hl.trans (Ga8 ρ _).symm) (R93 ih)
 | opt _ h0 ih=>exact .opt (fun e=>ih e) h0
 | dmap vals hl hw hS h _=>exact .data (mono (.dmap vals hl hw hS h))
 | bag hp h _=>exact .data (mono (.bag hp h))
theorem V.ren {w:World} {β:Gx} {L:Loc} {u:AV} {v:Value} (h:V w (β.ren ρ) L u v):V w β (H33 ρ L) (u.ren ρ) v:=by
 have st:∀ b i,Jk w (β.ren ρ) L b i→Jk w β (H33 ρ L) b i:=fun b i g=>(Jdb hρ).2 g
 have dm:∀ {u:AV} {v:Value},D w (Jk w (β.ren ρ) L) u v→D w (Jk w β (H33 ρ L)) u v:=fun h=>h.mono fun b i g=>⟨st b i g,rfl⟩
 have lkr:∀ {i:Nat} {o:J5},lk L i=some o→lk (H33 ρ L) (ρ i)=some (o.ren ρ):=fun hi=>by rw [Jc2 hρ,hi]; rfl
 induction h with
 | data h=>exact h.ren st
 | agg hl _ ih=>exact .agg (hl.trans (Ga8 ρ _).symm) (R93 ih)
 | tup hl _ ih=>exact .tup (hl.trans (Ga8 ρ _).symm) (R93 ih)
 | ptr hi h=>exact .ptr (lkr hi) h
 | own hd hp=>
  obtain⟨t,ver',hw,hi,h3,hx⟩:=hp
  refine .own (dm hd) ⟨t,ver',hw,lkr hi,h3,fun e=>?_⟩
  obtain⟨a1,a2,vals,a3,a4⟩:=hx e
  refine⟨a1,a2,vals,a3,fun j u hu=>?_⟩
  obtain⟨x,h1,h2⟩:=a4 j u hu
  exact⟨x,h1,dm h2⟩
 | ms hi h hn hm=>exact .ms (lkr hi) h hn hm
 | it hi h=>exact .it (lkr hi) h
 | vec hp hv=>
  obtain⟨t,ver',xs,hi,r⟩:=hp
  exact .vec ⟨t,ver',xs,lkr hi,r⟩ hv
 | vptr hp hv=>
  obtain⟨t,k,ver',xs,hi,r⟩:=hp
  exact .vptr ⟨t,k,ver',xs,lkr hi,r⟩ hv
 | vsl hp hv=>
  obtain⟨t,ver',xs,hi,r⟩:=hp
  exact .vsl ⟨t,ver',xs,lkr hi,r⟩ hv
 | vcap hp hv=>
  obtain⟨t,ver',xs,hi,r⟩:=hp
  exact .vcap ⟨t,ver',xs,lkr hi,r⟩ hv
 | nst vs hi h3 hr h4 _ hv ih=>exact .nst vs (lkr hi) h3 hr (fun e j u x hu hx=>dm (h4 e j u x hu hx)) (fun x e h0 hx=>ih x e h0 hx) hv
 | nptr b vs hi h3 hr _ hv ih=>exact .nptr b vs (lkr hi) h3 hr (fun x e hx=>ih x e hx) hv
 | mp hi h=>exact .mp (lkr hi) h
 | fn hl _ ih=>exact .fn (hl.trans (Ga8 ρ _).symm) (R93 ih)
 | bfn hl _ ih=>exact .bfn (hl.trans (Ga8 ρ _).symm) (R93 ih)
 | opt _ h0 ih=>exact .opt (fun e=>ih e) h0
theorem V.unren {w:World} {β:Gx} {L:Loc} {u:AV} {v:Value} (h:V w β (H33 ρ L) (u.ren ρ) v):V w (β.ren ρ) L u v:=by
 have:=V.ren hρ (β:=β.ren ρ) (L:=H33 ρ L) (u:=u.ren ρ) (by rw [Gx.ren_ren hρ]; exact h)
 rwa [Qcb hρ,AV.ren_ren hρ] at this
theorem Ga1.unren {w:World} {β:Gx} {L:Loc} {ob:Option Nat} {o:J5} (h:Ga1 w β (H33 ρ L) ob (o.ren ρ)):Ga1 w (β.ren ρ) L ob o:=by
 have dm:∀ {u:AV} {v:Value},D w (Jk w β (H33 ρ L)) u v→D w (Jk w (β.ren ρ) L) u v:=fun h=>h.mono fun b i g=>⟨(Jdb hρ).1 g,rfl⟩
 cases o with
 | box t cs=>
  obtain⟨b,e,vs,h1,h2,h3⟩:=h
  refine⟨b,e,vs,h1,by rw [h2,Ga8],fun j u v hu hv=>V.unren hρ (h3 j (u.ren ρ) v (by rw [Je5,hu]; rfl) hv)⟩
 | spare t k ver hw=>exact h
 | vec t k ver xs=>
  obtain⟨h1,h2⟩:=h
  refine⟨h1,h2.imp id ?_⟩
  rintro⟨b,e,vs,g1,g2,g3⟩
  exact⟨b,e,vs,g1,g2,fun j u v hu hv=>dm (g3 j u v hu hv)⟩
 | map t es=>
  obtain⟨b,e,hm⟩:=h
  exact⟨b,e,hm.mono rfl dm⟩
 | iter m n seen=>
  obtain⟨b,e,bm,h1,h2⟩:=h
  exact⟨b,e,bm,V.unren hρ h1,h2⟩
theorem Sat.unren {w:World} {β:Gx} {L:Loc} (h:Sat w β (H33 ρ L)):Sat w (β.ren ρ) L:=by
 have some1:∀ {id:Nat},(lk L id).isSome=true→(lk (H33 ρ L) (ρ id)).isSome=true:=fun {id} g=>by rw [Jc2 hρ,Option.isSome_map]; exact g
 refine⟨h.hid,fun id b h1 h2=>h.bnd (ρ id) b (some1 h1) h2,fun id b j h1 h2=>h.apart (ρ id) b j (some1 h1) h2,fun id id' b h1 h2 h3 h4=>?_,fun id o h1=>Ga1.unren hρ (h.obj (ρ id) (o.ren ρ) (by rw [Jc2 hρ,h1]; rfl))⟩
 have:=h.inj (ρ id) (ρ id') b (some1 h1) (some1 h2) h3 h4
 rw [← hρ id,this,hρ]
theorem Step.ren {w w':World} {β β':Gx} {L L':Loc} (h:Step w (β.ren ρ) L w' β' L'):Step w β (H33 ρ L) w' (β'.ren ρ) (H33 ρ L'):=by
 have at1:∀ id,(β.ren ρ).at_ (ρ id)=β.at_ id:=fun id=>by show β.at_ (ρ (ρ id))=_; rw [hρ]
 have un:∀ {id:Nat} {o:J5},lk (H33 ρ L) id=some o→∃ o0,lk L (ρ id)=some o0∧o0.ren ρ=o:=fun g=>by
  rw [Y94 hρ] at g
  exact Option.map_eq_some_iff.1 g
 have to:∀ {id:Nat} {o:J5},lk L' (ρ id)=some o→lk (H33 ρ L') id=some (o.ren ρ):=fun g=>by rw [Y94 hρ,g]; rfl
 refine⟨h.os,h.tape,h.output,h.size,h.hid,fun b i hs=>?_,fun b hb hf=>?_,fun id t cs hi=>?_,fun id t es hi=>?_,fun id m n es hi=>?_,fun id t k ver xs hi=>?_,fun id t k ver hw hi=>?_⟩
 ·obtain⟨h1,h2⟩:=h.stab b i ((Jdb hρ).1 hs)
  exact⟨(Jdb hρ).2 (by rw [Gx.ren_ren hρ]; exact h1),h2⟩
 ·obtain⟨h1,h2⟩:=h.far b hb (fun id g e=>hf (ρ id) (by rw [Jc2 hρ,Option.isSome_map]; exact g) e)
  refine⟨h1,fun id g e=>h2 (ρ id) ?_ e⟩
  rw [Y94 hρ,Option.isSome_map] at g
  exact g
 ·obtain⟨o0,g1,g2⟩:=un hi
  cases o0 <;> simp only [J5.ren] at g2 <;> cases g2
  obtain⟨h1,cs',h2⟩:=h.box _ _ _ g1
  exact⟨h1.trans (at1 id),_,to h2⟩
 ·obtain⟨o0,g1,g2⟩:=un hi
  cases o0 <;> simp only [J5.ren] at g2 <;> cases g2
  obtain⟨h1,cs',h2⟩:=h.map _ _ _ g1
  exact⟨h1.trans (at1 id),_,to h2⟩
 ·obtain⟨o0,g1,g2⟩:=un hi
  cases o0 <;> simp only [J5.ren] at g2 <;> cases g2
  obtain⟨h1,n',cs',h2⟩:=h.iter _ _ _ _ g1
  exact⟨h1.trans (at1 id),_,_,to h2⟩
 ·obtain⟨o0,g1,g2⟩:=un hi
  cases o0 <;> simp only [J5.ren] at g2 <;> cases g2
  obtain⟨v1,xs1,h1,h2,h3⟩:=h.vec _ _ _ _ _ g1
  exact⟨v1,xs1,to h1,h2,fun e=>⟨(h3 e).1,(h3 e).2.1.trans (at1 id),fun b hb=>(h3 e).2.2 b ((at1 id).trans hb)⟩⟩
 ·obtain⟨o0,g1,g2⟩:=un hi
  cases o0 <;> simp only [J5.ren] at g2 <;> cases g2
  obtain⟨v1,hw1,h1,h2,h3⟩:=h.spare _ _ _ _ _ g1
  exact⟨v1,hw1,to h1,h2,fun e=>⟨(h3 e).1,(h3 e).2.1.trans (at1 id),fun b hb=>(h3 e).2.2 b ((at1 id).trans hb)⟩⟩
theorem Hx.ren {P:Program} {f:FuncId} {args:List AV} {L0:Loc} {R:AV→Loc→Prop} (h:Hx P f args L0 R) :
  Hx P f (J3e ρ args) (H33 ρ L0) (fun u L'=>∃ u0 L0',R u0 L0'∧u=u0.ren ρ∧L'=H33 ρ L0'):=by
 intro w β vs h0 hl ha
 refine(h w (β.ren ρ) vs (Sat.unren hρ h0) (by rw [hl,Ga8]) (fun j u v hu hv=>V.unren hρ (ha j (u.ren ρ) v (by rw [Je5,hu]; rfl) hv))).mono fun e w' q=>?_
 obtain⟨v,r,β',L',he,h1,h2,h3,h4⟩:=q
 refine⟨v,r.ren ρ,β'.ren ρ,H33 ρ L',he,?_,Step.ren hρ h2,V.ren hρ (by rw [Gx.ren_ren hρ]; exact h3),r,L',h4,rfl,rfl⟩
 exact Sat.unren hρ (by rw [Qcb hρ]; exact h1)
end
def sw (i:Nat):Nat:=bif Nat.ble 7000 i&&Nat.blt i 7100 then i+100 else bif Nat.ble 7100 i&&Nat.blt i 7200 then i - 100 else i
theorem Zd7 (i:Nat):sw (sw i)=i:=by
 unfold sw
 have b1:∀ a b:Nat,Nat.ble a b=decide (a≤b):=fun a b=>by
  rw [Bool.eq_iff_iff,Nat.ble_eq,Mm]
 have b2:∀ a b:Nat,Nat.blt a b=decide (a < b):=fun a b=>by
  rw [Bool.eq_iff_iff,Nat.blt_eq,Mm]
 simp only [b1,b2]
 by_cases h1:7000≤i
 ·by_cases h2:i < 7100
  ·rw [M4 h1,M4 h2,Bool.and_self,cond_true,M4 (show 7000≤i+100 by omega),M5 (show ¬ i+100 < 7100 by omega),Bool.and_false,cond_false,M4 (show 7100≤i+100 by omega),M4 (show i+100 < 7200 by omega),Bool.and_self,cond_true]
   omega
  ·by_cases h3:i < 7200
   ·rw [M4 h1,M5 h2,Bool.and_false,cond_false,M4 (show 7100≤i by omega),M4 h3,Bool.and_self,cond_true,M4 (show 7000≤i - 100 by omega),M4 (show i - 100 < 7100 by omega),Bool.and_self,cond_true]
    omega
   ·rw [M4 h1,M5 h2,Bool.and_false,cond_false,M5 h3,Bool.and_false,cond_false,M4 h1,M5 h2,Bool.and_false,cond_false]
    rw [M5 h3,Bool.and_false,cond_false]
 ·rw [M5 h1,Bool.false_and,cond_false,M5 (show ¬ 7100≤i by omega),Bool.false_and,cond_false,M5 h1,Bool.false_and,cond_false]
  rw [M5 (show ¬ 7100≤i by omega),Bool.false_and,cond_false]
theorem Hx.sw {P:Program} {f:FuncId} {args args1:List AV} {L0 L1 M M1:Loc} {a a1:AV} (h:Hx P f args L0 (fun av L'=>av=a∧L'=M)) (e1:J3e sw args=args1) (e2:H33 sw L0=L1) (e3:a.ren sw=a1) (e4:H33 sw M=M1) :
  Hx P f args1 L1 (fun av L'=>av=a1∧L'=M1):=by
 subst e1 e2 e3 e4
 exact(Hx.ren Zd7 h).mono (fun u L' q=>by
  obtain⟨u0,L0',⟨rfl,rfl⟩,h1,h2⟩:=q
  exact⟨h1,h2⟩)
set_option linter.unusedVariables false

/-! ### Move -/
theorem Gf0:sliceB Tryz.prog 45 59 6=true:=by kernel_rfl
theorem Y63:Yy Tryz.prog 59 6 48=true:=by kernel_rfl
theorem Y62:Tryz.prog.underlying 3=some (.int .i64):=by kernel_rfl
def Zx (n:Int):Option (List Move):=need (decide (0≤n∧n*48≤140737488355328∧n≤(maxLen:Int))) <| some []
theorem Hf8 (n:Int) (r:List Move) (h:Zx n=some r):Hx Tryz.prog 51 [.sc (.slice none 0 0),I64 n] [] (fun av L'=>∃ p:Nat,av=.vec 1093 p 6 r.length∧L'=[(1093,.vec 59 6 p (r.map Move.av))]):=by
 unfold Zx at h
 obtain⟨hn,h⟩:=Jf h
 have hn:=M2 hn
 obtain rfl:=M8 h
 obtain⟨m,rfl⟩:∃ m:Nat,n=(m:Int):=⟨n.toNat,by omega⟩
 refine Ji [] [.tmp 4] Tryz.func51 rfl rfl (G0c rfl) ?_
 refine Jr fun h1=>?_
 refine JLm (.sc (.slice none 0 0)) rfl ?_
 refine G6 (h1 ?_)
 refine Js fun h2=>?_
 refine Jr fun h3=>?_
 refine JLm (I64 (m:Int)) rfl ?_
 refine G0 (u:=BL (decide ((m:Int) < 0))) (Jn rfl rfl rfl) ?_
 refine G6 (h3 ?_)
 refine Gp rfl (fun hb=>?_) (fun hb=>?_)
 ·exact absurd (M2 hb) (by omega)
 refine Gk (h2 ?_)
 refine Js fun h4=>?_
 refine Jr fun h5=>?_
 refine JLm (I64 (m:Int)) rfl ?_
 refine JLm (.sc (.slice none 0 0)) rfl ?_
 refine G0 (u:=I64 0) (Y03 rfl Gf0 rfl) ?_
 refine JLm (.sc (.slice none 0 0)) rfl ?_
 refine G0 (u:=I64 0) (Y02 rfl Gf0 rfl) ?_
 refine G0 (u:=I64 0) (G62 (show IntKind.i64.wrap ((0:Int) - 0)=0 by decide) rfl rfl rfl) ?_
 refine G0 (u:=I64 (m:Int)) (G62 (show IntKind.i64.wrap ((m:Int) - 0)=(m:Int) by rw [IntKind.wrap_i64]; simp only [maxLen] at hn; omega) rfl rfl rfl) ?_
 refine JLm (I64 (m:Int)) rfl ?_
 refine G6 (h5 ?_)
 refine Jr fun h6=>?_
 refine JLm (I64 (m:Int)) rfl ?_
 refine G0 (u:=BL (decide (0 < (m:Int)))) (Gd1 rfl rfl rfl) ?_
 refine G6 (h6 ?_)
 refine Gp rfl (fun hb=>?_) (fun hb=>?_)
 ·have hb:=M2 hb
  refine G2 ?_
  refine JLm (.sc (.slice none 0 0)) rfl ?_
  refine JLm (.sc (.slice none 0 0)) rfl ?_
  refine G0 (u:=I64 0) (Y03 rfl Gf0 rfl) ?_
  refine G0 (u:=.sc (.slice none 0 0)) (Y76 rfl Gf0 rfl rfl) ?_
  refine JLm (I64 (m:Int)) rfl ?_
  refine G0 (u:=.vec 1093 0 6 m) (Ye7 1093 rfl rfl rfl rfl Gf0 Y62 Y63 rfl (by omega) (by omega) (by omega) rfl) ?_
  refine JLm (.sc (.slice none 0 0)) rfl ?_
  refine G0 (u:=I64 0) (Y02 rfl Gf0 rfl) ?_
  refine G0 (u:=.vec 1093 (0+1) 6 0) (Ya9 (hi:=0) rfl Gf0 rfl rfl rfl rfl (Nat.zero_le _)) ?_
  refine JLm (.vec 1093 (0+1) 6 0) rfl ?_
  refine G6 (h4 ?_)
  refine Jr fun h7=>?_
  refine JLm (.vec 1093 (0+1) 6 0) rfl ?_
  refine JLm (.vec 1093 (0+1) 6 0) rfl ?_
  refine G6 (h7 ?_)
  refine Gs ?_
  exact⟨[.vec 1093 (0+1) 6 0],[(1093,.vec 59 6 (0+1) [])],⟨⟨_,rfl,.vec⟩,trivial⟩,rfl,⟨⟨_,rfl,.conv (.same rfl)⟩,trivial⟩,0+1,rfl,rfl⟩
 ·refine Gk (h4 ?_)
  refine Jr fun h7=>?_
  refine JLm (.sc (.slice none 0 0)) rfl ?_
  refine G0 (u:=.vec 1093 0 6 0) (G73 1093 59 6 rfl rfl rfl) ?_
  refine G6 (h7 ?_)
  refine Gs ?_
  exact⟨[.vec 1093 0 6 0],[(1093,.vec 59 6 0 [])],⟨⟨_,rfl,.vec⟩,trivial⟩,rfl,⟨⟨_,rfl,.conv (.same rfl)⟩,trivial⟩,0,rfl,rfl⟩
def Hf9:=PLift.up Hf8
end Go.Proofs.YtgcpimpnpcdmmaaGreat
