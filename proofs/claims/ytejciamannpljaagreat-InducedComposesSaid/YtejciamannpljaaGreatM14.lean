/-
  A part of the proof: an abstract machine for the program, its soundness, and what the functions compute (In13, In14, In15, In16, In17, In18, In19, In20, In22, In24, In26, In27, Frame).
  Conditions: none.
-/
import Derived.Test.YtejciamannpljaaGreatM08
import Derived.Test.YtejciamannpljaaGreatM12
import Derived.Test.YtejciamannpljaaGreatM13
import Derived.Carry
import Derived.ChangeShapes
set_option linter.unusedSectionVars false
set_option linter.unusedVariables false
set_option linter.unusedSimpArgs false
set_option linter.defProp false
namespace Tor
open Go
structure CM (a b:List Cel) (u:Nat) (M:Mp):Prop where
  ids:M.map (·.1) = idsC a
  gc:∀ p ∈ M,GC (idsC b) u p.2
theorem idsC_nodup {c:List Cel} (h:c.Pairwise (fun x y=>x.id < y.id)):(idsC c).Nodup:=by
  unfold idsC
  rw [List.Nodup,List.pairwise_map]
  exact h.imp fun h=>by omega
theorem findM_mem {M:Mp} {id:Int} {y:List (Int × Int)} (h:findM M id = some y):(id,y) ∈ M:=by
  induction M with
  | nil=>cases h
  | cons p r ih =>
    rw [findM_cons] at h
    split at h
    · rename_i e
      cases h
      rw [← e]
      exact .head _
    · exact .tail _ (ih h)
theorem findM_some {M:Mp} {id:Int} (h:id ∈ M.map (·.1)):(findM M id).isSome = true:=by
  induction M with
  | nil=>cases h
  | cons p r ih =>
    rw [findM_cons]
    split
    · rfl
    · rename_i e
      simp only [List.map_cons,List.mem_cons] at h
      exact ih (h.resolve_left fun e2=>e e2.symm)
section
variable {a b:List Cel} {u:Nat} {M:Mp}
theorem CM.len (h:CM a b u M):M.length = a.length:=by
  have:=congrArg List.length h.ids
  simpa [idsC] using this
theorem CM.isS (h:CM a b u M) {id:Int} (hi:id ∈ idsC a):(findM M id).isSome = true:=findM_some (by rw [h.ids]; exact hi)
theorem CM.img (h:CM a b u M) (id:Int):GC (idsC b) u (imgF M id):=by
  unfold imgF
  cases hf:findM M id with
  | none=>exact GC.nil
  | some y=>exact h.gc _ (findM_mem hf)
theorem CM.all (h:CM a b u M) {s:Nat} {x:List (Int × Int)} (hx:GC (idsC a) s x):∀ p ∈ x,(findM M p.1).isSome = true:=fun p hp=>h.isS (hx.key p hp)
theorem CM.app (h:CM a b u M) (ha:(idsC a).length ≤ 11) (hb:(idsC b).length ≤ 11) {s:Nat} {x:List (Int × Int)} (hx:GC (idsC a) s x) {v:Nat} (hv:s + u + 7 ≤ v):GC (idsC b) v (appF (imgF M) x) :=
  gapp hb ha hx h.img hv
theorem CM.apply (h:CM a b u M) (hnd:(idsC a).Nodup) (ha:(idsC a).length ≤ 11) (hb:(idsC b).length ≤ 11) (hk:∀ k ∈ idsC b,in64 k = true) {s:Nat} {x:List (Int × Int)} (hx:GC (idsC a) s x) (hs:s + u ≤ 14000000000) (H:Heap) :
    call E2 GP 219 [.isl (M.map mA),.isl (x.map fA)] H = some (.tup [.isl ((appF (imgF M) x).map fA),.int .i64 0],H,false):=by
  have hl:=h.len
  have hal:a.length ≤ 11:=by simpa [idsC] using ha
  have hxl:=hx.len
  have hB:2 ^ s * 2 ^ u * (11 * x.length + 1) < BIG:=by
    rw [← Nat.pow_add]
    exact mul_big (j:=7) (Nat.le_refl _) (by omega) (by omega)
  have:=i_Apply M x (2 ^ s) (2 ^ u) 11 (by omega) (by rw [h.ids]; exact hnd) (by omega) hx.bd (fun id=>⟨(h.img id).bd,Nat.le_trans (h.img id).len hb⟩) (by omega) (pow5_big (by omega)) (pow5_big (by omega)) hB (fun id p hp=>hk _ ((h.img id).key p hp)) H
  rw [if_pos (h.all hx)] at this
  exact this
theorem CM.rapply (h:CM a b u M) (ha:(idsC a).length ≤ 11) (hb:(idsC b).length ≤ 11) {s:Nat} {x:List (Int × Int)} (hx:GC (idsC a) s x) (hs:s + u ≤ 14000000000) {E:CallF} (hE:Free E) (H:Heap) :
    call E GP 243 [.isl (M.map mA),.isl (x.map fA)] H = some (.tup [.isl ((appF (imgF M) x).map fA),.int .i64 0],H,false) ∧
    call E GP 221 [.isl (M.map mA),.isl (x.map fA)] H = some (.isl ((appF (imgF M) x).map fA),H,false):=by
  have hl:=h.len
  have hal:a.length ≤ 11:=by simpa [idsC] using ha
  have hxl:=hx.len
  have hB:2 ^ s * 2 ^ u * (11 + 1) * (x.length + 1) < BIG:=by
    rw [← Nat.pow_add,Nat.mul_assoc]
    exact mul_big (j:=8) (Nat.le_refl _) (by omega) (by omega)
  have h1:=r29_apply hE M x (2 ^ s) (2 ^ u) 11 (by omega) (by omega) hx.bd (fun id=>⟨(h.img id).bd,Nat.le_trans (h.img id).len hb⟩) (by omega) (pow5_big (by omega)) (pow5_big (by omega)) hB H
  rw [if_pos (h.all hx)] at h1
  exact ⟨h1,r29_image hE M x (2 ^ s) (2 ^ u) 11 (by omega) (by omega) hx.bd (fun id=>⟨(h.img id).bd,Nat.le_trans (h.img id).len hb⟩) (by omega) (pow5_big (by omega)) (pow5_big (by omega)) hB (h.all hx) H⟩
end
theorem hom_take (c:List Cel) (l:List Int) (N:Int) {n:Nat} (hn:n ≤ c.length):(hom c l N).take n = (List.range n).map (homI c l N):=by
  unfold hom
  rw [← List.map_take,List.take_range,Nat.min_eq_left hn]
theorem hom_cm {c s m e} (g:Good c s m) (hm:m ≤ 11) (he:∀ k,s.b k ≤ e) (hee:e ≤ 1000000000) (l:List Int) {N:Int} (hN:-3 ≤ N ∧ N ≤ 3) {n:Nat} (hn:n ≤ c.length):CM (c.take n) c (e + 170) ((hom c l N).take n):=by
  rw [hom_take c l N hn]
  refine ⟨?_,fun p hp=>?_⟩
  · unfold idsC
    rw [List.map_map]
    apply List.ext_getElem
    · simp; omega
    · intro i h1 h2
      have hi:i < c.length:=by simp at h2; omega
      simp [homI,List.getD,hi]
  · obtain ⟨i,hi,rfl⟩:=List.mem_map.1 hp
    exact hom_gc g hm he hee l hN (by have:=List.mem_range.1 hi; omega)
end Tor
namespace Tor
open Go
theorem GC.valid {S u x} (h:GC S u x) (hu:u ≤ 15000000000) (hS:S.length ≤ 11) (H:Heap):call E1 GP 17 [.isl (x.map fA)] H = some (.bool true,H,false):=by
  have:=r26_valid free1 x (h.sm hu) (by have:=h.len; omega) H
  rwa [canon_valid _ h.can] at this
theorem GC.same {S u x} (h:GC S u x) (hu:u ≤ 15000000000) (hS:S.length ≤ 11) (H:Heap):call E1 GP 10 [.isl (x.map fA),.isl (x.map fA)] H = some (.bool true,H,false):=by
  have:=r26_same free1 x x (h.sm hu) (h.sm hu) (by have:=h.len; omega) H
  simpa using this
def rS:Shp:=.agg [.agg [.int .u8,.sl (.agg [.int .i8,.int .i8,.int .i8,.int .i8])],.int .u8,.int .i8,.sl (.int .i8)]
theorem fits_rS {y:AV} (h:Fits rS y):∃ k ds a N l,y = rawA k ds a N l ∧ k < 256 ∧ (∀ x ∈ ds,x.ok) ∧ ds.length ≤ 9223372036854775807 ∧ a < 256 ∧ (-128 ≤ N ∧ N ≤ 127) ∧ l.length ≤ 9223372036854775807 ∧ ∀ x ∈ l,-128 ≤ x ∧ x ≤ 127:=by
  simp only [rS,Fits,Fitss] at h
  obtain ⟨l0,rfl,x,r,rfl,hx,x2,r2,rfl,⟨a,rfl,ha⟩,x3,r3,rfl,⟨N,rfl,hN⟩,x4,r4,rfl,⟨l,rfl,hll,hl⟩,rfl⟩:=h
  obtain ⟨l1,rfl,y1,q1,rfl,⟨k,rfl,hk⟩,y2,q2,rfl,⟨l2,rfl,hl2l,hl2⟩,rfl⟩:=hx
  obtain ⟨ds,rfl,hds⟩:=fits_list (fun y hy=>fits_gA hy) l2 hl2
  obtain ⟨d,rfl,hd⟩:=fits_list (fun y hy=>fits_bA hy) l hl
  have k1:(0:Int) ≤ k:=hk.1
  have k2:k ≤ 255:=hk.2
  have a1:(0:Int) ≤ a:=ha.1
  have a2:a ≤ 255:=ha.2
  refine ⟨k.toNat,ds,a.toNat,N,d,?_,by omega,hds,by simpa [maxLen] using hl2l,by omega,hN,by simpa [maxLen] using hll,hd⟩
  unfold rawA
  rw [Int.toNat_of_nonneg k1,Int.toNat_of_nonneg a1]
end Tor
namespace Tor
open Go
theorem CM.comp {a b c:List Cel} {u v w:Nat} {M N:Mp} (h:CM a b u M) (k:CM b c v N) (hb:(idsC b).length ≤ 11) (hc:(idsC c).length ≤ 11) (hw:u + v + 7 ≤ w):CM a c w (compM M N):=by
  refine ⟨?_,fun p hp=>?_⟩
  · rw [← h.ids]; unfold compM; rw [List.map_map]; rfl
  · obtain ⟨q,hq,rfl⟩:=List.mem_map.1 hp
    exact k.app hb hc (h.gc q hq) (by omega)
def cst (M N:Mp) (i:Nat) (H:Heap) (b:Bool):St :=
  { vars:=[.isl (M.map mA),.isl (N.map mA),.isl [],.int .i64 0,.ptr 0 0 [],.sl 1 i 2 0 i,.u,.u,.isl (M.map mA),.int .i64 M.length,.int .i64 (i:Nat),.u,.u,.u],heap:=H,rs:=b }
theorem CM.compose {a b c:List Cel} {u v:Nat} {M N:Mp} (h:CM a b u M) (k:CM b c v N) (hnd:(idsC b).Nodup) (ha:a.length ≤ 11) (hb:(idsC b).length ≤ 11) (hc:(idsC c).length ≤ 11) (hk:∀ k ∈ idsC c,in64 k = true) (hu:u + v ≤ 14000000000) (H:Heap) :
    call E2 GP 226 [.isl (M.map mA),.isl (N.map mA)] H = some (.tup [.isl ((compM M N).map mA),.int .i64 0],H,false):=by
  have hE2:∀ a H,E2 226 a H = none:=fun a H=>E2_none (by decide) (by decide)
  have hMl:=h.len
  have hNl:=k.len
  have hbl:b.length ≤ 11:=by simpa [idsC] using hb
  let W:Nat → List AV:=fun i=>((compM M N).take i).map mA
  have hcl:(compM M N).length = M.length:=by simp [compM]
  have hWl:∀ i,i ≤ M.length → (W i).length = i:=fun i hi=>by simp [W,hcl]; omega
  have hap:∀ i (hi:i < M.length) (H:Heap),IX H 0 N → ∃ H' b',call E2 GP 238 [.ptr 0 0 [],.isl (M[i].2.map fA)] H = some (.tup [.isl ((appF (imgF N) M[i].2).map fA),.int .i64 0],H',b') ∧ IX H' 0 N ∧ Ext 0 H H':=by
    intro i hi H hix
    have hx:=h.gc _ (List.getElem_mem hi)
    have hxl:=hx.len
    have hB:2 ^ u * 2 ^ v * (11 * M[i].2.length + 1) < BIG:=by
      rw [← Nat.pow_add]
      exact mul_big (j:=7) (Nat.le_refl _) (by omega) (by omega)
    have:=i_apply N M[i].2 (2 ^ u) (2 ^ v) 11 (by omega) (by rw [k.ids]; exact hnd) (by omega) hx.bd (fun id=>⟨(k.img id).bd,Nat.le_trans (k.img id).len hc⟩) (by omega) (pow5_big (by omega)) (pow5_big (by omega)) hB (fun id p hp=>hk _ ((k.img id).key p hp)) H 0 hix
    rw [if_pos (k.all hx)] at this
    exact this
  have hstep:∀ i,i < M.length → ∀ st,(∃ H b,st = cst M N i H b ∧ IX H 0 N ∧ H[1]? = some (.arr i 2 (W i))) → ∃ st',(∃ H b,st' = cst M N (i + 1) H b ∧ IX H 0 N ∧ H[1]? = some (.arr (i + 1) 2 (W (i + 1)))) ∧ run E2 GP a226l0 st = run E2 GP a226l0 st':=by
    rintro i hi st ⟨H,b,rfl,h1,h2⟩
    obtain ⟨H2,b2,f1,f2,f3⟩:=hap i hi H h1
    have hl1:1 < H.length:=(List.getElem?_eq_some_iff.1 h2).1
    have h2':H2[1]? = some (.arr i 2 (W i)):=(f3.2 1 hl1 (by decide)).trans h2
    have hl2:1 < H2.length:=(List.getElem?_eq_some_iff.1 h2').1
    have eW:W (i + 1) = W i ++ [.agg [.int .i64 M[i].1,.isl ((appF (imgF N) M[i].2).map fA)]]:=by
      have:i < (compM M N).length:=by rw [hcl]; exact hi
      simp only [W]
      rw [List.take_succ_eq_append_getElem this]
      simp [compM,mA]
    have hwi:=hWl i (by omega)
    have hm1:i + 1 ≤ 4294967296:=by omega
    refine ⟨_,⟨H2.set 1 (.arr (i + 1) 2 (W (i + 1))),b || b2,rfl,f2.set h2' _,List.getElem?_set_self hl2⟩,?_⟩
    unfold cst
    rw [eW]
    generalize W i = V at *
    generalize appF (imgF N) M[i].2 = y at *
    conv=>lhs; rw [a226l0_run]
    simp (maxSteps:=1000000) (disch:=first | omega | decide) only [si,sf,simprocAttr,a226b0,a226R,hi,mA,f1,h2',hwi,hm1,maxLenA]
  obtain ⟨st,⟨H1,b1,rfl,h1,h2⟩,hl⟩:=loop_ex _ M.length (cst M N 0 [.var (idx0 N),.arr 0 2 []] false) ⟨_,_,rfl,.inl rfl,rfl⟩ hstep
  have he:run E2 GP a226l0 (cst M N M.length H1 b1) = some (.exit 0,{ vars:=[.isl (M.map mA),.isl (N.map mA),.isl [],.int .i64 0,.ptr 0 0 [],.sl 1 M.length 2 0 M.length,.u,.u,.isl (M.map mA),.int .i64 M.length,.int .i64 M.length,.bool false,.u,.u],heap:=H1,rs:=b1 }):=by
    unfold cst
    rw [a226l0_run]
    simp (maxSteps:=1000000) (disch:=first | omega | decide) only [si,sf,simprocAttr,a226b0,a226R,Nat.lt_irrefl]
  rw [he] at hl
  have hl0:∀ b,run E2 GP a226l0 { vars:=[.isl (M.map mA),.isl (N.map mA),.isl [],.int .i64 0,.ptr 0 0 [],.sl 1 0 2 0 0,.u,.u,.isl (M.map mA),.int .i64 M.length,.int .i64 0,.u,.u,.u],heap:=[.var (idx0 N),.arr 0 2 []],rs:=false } = _:=fun (_:Bool)=>hl
  have hl0:=hl0 true
  have hwl:=hWl M.length (Nat.le_refl _)
  have hwr:AV.hasRefs (W M.length) = false:=fl_ref _
  have hws:AV.solids (W M.length) = true:=fl_sol _
  have hwz:∀ n H,(W M.length).map (fz n H 6) = W M.length:=fun n H=>fl_fz (e:=mA) (by decide)
  have e0:(compM M N).map mA = W M.length:=by
    show _ = ((compM M N).take M.length).map mA
    rw [List.take_of_length_le (by rw [hcl]; exact Nat.le_refl _)]
  rw [e0]
  generalize W M.length = V at *
  have htk:V.take M.length = V:=List.take_of_length_le (by omega)
  have hlv:M.length ≤ V.length:=by omega
  rw [call_fun (hE2 _ _) (f:=a226) rfl rfl]
  unfold idx0 onceV at hl0
  simp (maxSteps:=1000000) (disch:=first | omega | decide) only [si,sf,simprocAttr,doBox,a226,a226R,hl0,h2,hwl,hwr,hws,hwz,htk,hlv,Nat.le_refl]
end Tor
namespace Tor
open Go
structure VM (a b:List Cel) (u:Nat) (M:Mp):Prop where
  cm:CM a b u M
  key:∀ i (hi:i < a.length) (hj:i < M.length),∀ p ∈ M[i].2,p.1 ∈ cellsC b a[i].dim
  com:∀ i (hi:i < a.length) (hj:i < M.length),bnd26 b M[i].2 = appF (imgF M) a[i].b
def vst29 (a b:List Cel) (M:Mp) (i:Nat) (H:Heap) (f:Bool):St :=
  { vars:=[.isl (a.map cA),.isl (b.map cA),.isl (M.map mA),.bool false,.ptr 0 0 [],.u,.u,.u,.u,.u,.u,.bool false,.isl (a.map cA),.int .i64 a.length,.int .i64 (i:Nat),.u,.u,.u,.u],heap:=H,rs:=f }
theorem VM.valid {a b:List Cel} {sa sb:GS} {ma mb ea eb u:Nat} {M:Mp} (h:VM a b u M) (ga:Good a sa ma) (gb:Good b sb mb) (hma:ma ≤ 11) (hmb:mb ≤ 11) (hea:∀ k,sa.b k ≤ ea) (heb:∀ k,sb.b k ≤ eb) (hu:ea + eb + u ≤ 10000000000) (H:Heap) :
    call E2 GP 213 [.isl (a.map cA),.isl (b.map cA),.isl (M.map mA)] H = some (.bool true,H,false):=by
  have hE2:∀ a H,E2 213 a H = none:=fun a H=>E2_none (by decide) (by decide)
  have ha:=ga.len11 hma
  have hb:=gb.len11 hmb
  have hkb:=gb.ids64 hmb
  have hnd:=idsC_nodup ga.ids
  have hMl:=h.cm.len
  have hal:a.length ≤ 11:=by simpa [idsC] using ha
  have hbl:b.length ≤ 11:=by simpa [idsC] using hb
  have hsm:SmM M:=fun p hp=>⟨(h.cm.gc p hp).sm (by omega),by have:=(h.cm.gc p hp).len; omega⟩
  have hok:okM a M:=⟨hMl.symm,fun i hi hj=>⟨by
      have:=congrArg (fun l=>l[i]?) h.cm.ids
      simp only [idsC,List.getElem?_map,List.getElem?_eq_getElem hi,List.getElem?_eq_getElem hj,Option.map_some,Option.some.injEq] at this
      exact this.symm,canon_valid _ (h.cm.gc _ (List.getElem_mem hj)).can⟩⟩
  have f237:=fun H=>up (eq237 free1 a M hsm (by omega) H)
  rw [show decide (okM a M) = true by simpa using hok] at f237
  have hstep:∀ i,i < a.length → ∀ st,(∃ H f,st = vst29 a b M i H f ∧ IX H 0 M) → ∃ st',(∃ H f,st' = vst29 a b M (i + 1) H f ∧ IX H 0 M) ∧ run E2 GP a213l0 st = run E2 GP a213l0 st':=by
    rintro i hi st ⟨H,f,rfl,h1⟩
    have hj:i < M.length:=by omega
    have hg:=h.cm.gc _ (List.getElem_mem hj)
    have hgl:=hg.len
    have hdim:=fun H=>up (c_dim free1 b M[i].2 (by omega) gb.ids (by omega) H)
    have hdo:=dim_of gb (h.key i hi hj)
    rw [hdo] at hdim
    have b6:=good_b6 gb (by omega) heb (hg.ch hb hkb) (e2:=u) (Nat.le_refl _) (by omega) (by omega)
    have hbz:bz b M[i].2 = bnd26 b M[i].2:=by unfold bz; rw [hdo]; rfl
    rw [hdo,hbz,h.com i hi hj] at b6
    have b6:=fun H=>up (b6 H)
    have hgb:=ga.bgc hea (List.getElem_mem hi)
    have hgbl:=hgb.len
    have hB:2 ^ ea * 2 ^ u * (11 * a[i].b.length + 1) < BIG:=by
      rw [← Nat.pow_add]
      exact mul_big (j:=7) (Nat.le_refl _) (by omega) (by omega)
    obtain ⟨H2,b2,f1,f2,f3⟩:=i_apply M a[i].b (2 ^ ea) (2 ^ u) 11 (by omega) (by rw [h.cm.ids]; exact hnd) (by omega) hgb.bd (fun id=>⟨(h.cm.img id).bd,Nat.le_trans (h.cm.img id).len hb⟩) (by omega) (pow5_big (by omega)) (pow5_big (by omega)) hB (fun id p hp=>hkb _ ((h.cm.img id).key p hp)) H 0 h1
    rw [if_pos (h.cm.all hgb)] at f1
    have hga:=h.cm.app ha hb hgb (v:=ea + u + 7) (by omega)
    have hs:=fun H=>up (i_same free1 (appF (imgF M) a[i].b) (appF (imgF M) a[i].b) (hga.sm (by omega)) (hga.sm (by omega)) (by have:=hga.len; omega) H)
    simp only [decide_true] at hs
    have hdr:=ga.dims a[i] (List.getElem_mem hi)
    refine ⟨_,⟨H2,f || b2,rfl,f2⟩,?_⟩
    unfold vst29
    generalize appF (imgF M) a[i].b = y at *
    by_cases h0:M[i].2 = []
    · have hd0:¬ ((-1:Int) ≥ 0):=by omega
      rw [if_pos h0] at hdim
      rw [h0] at hdim b6
      simp only [List.map_nil] at hdim b6
      conv=>lhs; rw [a213l0_run]
      simp (maxSteps:=1000000) (disch:=first | omega | decide) only [si,sf,simprocAttr,a213b0,a213R,hi,hj,cA,mA,h0,hdim,b6,f1,hs,hd0,List.map_nil]
    · have hd0:a[i].dim ≥ 0:=hdr.1
      rw [if_neg h0] at hdim
      conv=>lhs; rw [a213l0_run]
      simp (maxSteps:=1000000) (disch:=first | omega | decide) only [si,sf,simprocAttr,a213b0,a213R,hi,hj,cA,mA,hdim,b6,f1,hs,hd0]
  obtain ⟨st,⟨H1,b1,rfl,h1⟩,hl⟩:=loop_ex _ a.length (vst29 a b M 0 [.var (idx0 M)] false) ⟨_,_,rfl,.inl rfl⟩ hstep
  have he:run E2 GP a213l0 (vst29 a b M a.length H1 b1) = some (.exit 0,{ vars:=[.isl (a.map cA),.isl (b.map cA),.isl (M.map mA),.bool false,.ptr 0 0 [],.u,.u,.u,.u,.u,.u,.bool false,.isl (a.map cA),.int .i64 a.length,.int .i64 a.length,.bool false,.u,.u,.u],heap:=H1,rs:=b1 }):=by
    unfold vst29
    rw [a213l0_run]
    simp (maxSteps:=1000000) (disch:=first | omega | decide) only [si,sf,simprocAttr,a213b0,a213R,Nat.lt_irrefl]
  rw [he] at hl
  have hl:run E2 GP a213l0 { vars:=[.isl (a.map cA),.isl (b.map cA),.isl (M.map mA),.bool false,.ptr 0 0 [],.u,.u,.u,.u,.u,.u,.bool false,.isl (a.map cA),.int .i64 a.length,.int .i64 0,.u,.u,.u,.u],heap:=[.var (idx0 M)],rs:=false } = _:=hl
  rw [call_fun (hE2 _ _) (f:=a213) rfl rfl]
  unfold idx0 onceV at hl
  simp (maxSteps:=1000000) (disch:=first | omega | decide) only [si,sf,simprocAttr,doBox,a213,a213R,f237,hl]
end Tor
namespace Tor
open Go
theorem lin_fadd (f g:Int → Int):∀ x:List (Int × Int),lin (fun i=>f i + g i) x = lin f x + lin g x
  | []=>rfl
  | p :: r=>by simp only [lin]; rw [lin_fadd f g r,Int.mul_add]; omega
theorem lin_fmul (n:Int) (f:Int → Int):∀ x:List (Int × Int),lin (fun i=>n * f i) x = n * lin f x
  | []=>by simp [lin]
  | p :: r=>by
    simp only [lin]; rw [lin_fmul n f r,Int.mul_add]
    have:p.2 * (n * f p.1) = n * (p.2 * f p.1):=by rw [← Int.mul_assoc,Int.mul_comm p.2 n,Int.mul_assoc]
    omega
theorem lin_fzero:∀ x:List (Int × Int),lin (fun _=>0) x = 0
  | []=>rfl
  | p :: r=>by simp only [lin]; rw [lin_fzero r]; simp
theorem lin_one (f:Int → Int) (k:Int):lin f [(k,1)] = f k:=by simp [lin]
theorem bnd26_lin (c:List Cel) (f:Int → Int) (x:List (Int × Int)):lin f (bnd26 c x) = lin (fun i=>lin f (cellOf? c i).b) x:=by
  unfold bnd26; rw [bnd_lin]; simp [lin]
theorem appF_lin' (f:Int → Int) (F:Int → List (Int × Int)) (x:List (Int × Int)):lin f (appF F x) = lin (fun i=>lin f (F i)) x:=by
  unfold appF; rw [app_lin]; simp [lin]
theorem lin_ext {x y:List (Int × Int)} (hx:Canon none x) (hy:Canon none y) (h:∀ f:Int → Int,lin f x = lin f y):x = y :=
  canon_ext x y none none hx hy fun k=>by rw [← lin_look hx,← lin_look hy]; exact h _
def RF (c:List Cel) (l:List Int) (f:Int → Int) (n:Nat) (id:Int):Int:=sumN n fun i=>if id = (c.getD i zC).id then lin f (raise c l i) else 0
theorem liftI_lin (c:List Cel) (l:List Int) (i:Nat) (f:Int → Int):∀ (x a:List (Int × Int)),lin f (liftI c l i x a) = lin f a + lin (fun id=>if id = (c.getD i zC).id then lin f (raise c l i) else 0) x
  | [],a=>by simp [liftI,lin]
  | p :: r,a=>by
    show lin f (liftI c l i r _) = _
    rw [liftI_lin c l i f r]
    simp only [lin]
    split
    · rename_i h
      rw [lin_add]; omega
    · simp; 
theorem lift_lin (c:List Cel) (l:List Int) (f:Int → Int) (x:List (Int × Int)):lin f (lift c l x) = lin (RF c l f c.length) x:=by
  unfold lift
  generalize c.length = n
  induction n with
  | zero=>show 0 = lin (fun _=>0) x; rw [lin_fzero]
  | succ n ih =>
    rw [liftN_succ,liftI_lin,ih,← lin_fadd]; rfl
theorem liftI_key {P:Int → Prop} (c:List Cel) (l:List Int) (i:Nat):∀ (x a:List (Int × Int)),(∀ p ∈ x,p.1 = (c.getD i zC).id → ∀ q ∈ raise c l i,P q.1) → (∀ p ∈ a,P p.1) → ∀ p ∈ liftI c l i x a,P p.1
  | [],a,_,ha=>ha
  | p :: r,a,hx,ha=>by
    refine liftI_key c l i r _ (fun q hq=>hx q (.tail _ hq)) ?_
    show ∀ q ∈ (if p.1 = (c.getD i zC).id then add26 a (raise c l i) p.2 else a),P q.1
    split
    · rename_i h
      exact add_keys _ _ _ (hx p (.head _) h) ha
    · exact ha
theorem lift_key {c:List Cel} {s:GS} {m:Nat} (g:Good c s m) (l:List Int) {k:Int} {x:List (Int × Int)} (hx:∀ p ∈ x,p.1 ∈ cellsC c k):∀ p ∈ lift c l x,p.1 ∈ cellsC c (k + 1):=by
  have:∀ n,n ≤ c.length → ∀ p ∈ liftN c l x n,p.1 ∈ cellsC c (k + 1):=by
    intro n
    induction n with
    | zero=>exact fun _ p hp=>(by cases hp)
    | succ n ih =>
      intro hn
      rw [liftN_succ]
      refine liftI_key c l n x _ (fun p hp he q hq=>?_) (ih (by omega))
      have h1:=raise_key c l n q hq
      unfold upIds at h1
      have hm:c.getD n zC ∈ c:=by simp [List.getD,show n < c.length by omega]
      obtain ⟨y,hy,hd,hid⟩:=cells_mem.1 (hx p hp)
      have:c.getD n zC = y:=by
        have a1:=cellC_mem g.ids hm
        have a2:=cellC_mem g.ids hy
        rw [← a1,← a2,hid,he]
      rw [this,hd] at h1
      exact h1
  exact this _ (Nat.le_refl _)
theorem find_nodup:∀ {M:Mp},(M.map (·.1)).Nodup → ∀ {p:Int × List (Int × Int)},p ∈ M → imgF M p.1 = p.2
  | [],_,_,hp=>by cases hp
  | q :: r,hn,p,hp=>by
    obtain ⟨h1,h2⟩:=List.nodup_cons.1 hn
    have ih:=fun hp=>find_nodup h2 (p:=p) hp
    unfold imgF at ih ⊢
    rw [findM_cons]
    cases hp with
    | head=>rw [if_pos rfl]; rfl
    | tail _ hp =>
      rw [if_neg (fun e=>h1 (by
        have:=List.mem_map_of_mem (f:=(·.1)) hp
        rw [← e] at this; exact this))]
      exact ih hp
section
variable {a b:List Cel} {u:Nat} {M:Mp}
theorem CM.at (h:CM a b u M) (hnd:(idsC a).Nodup) {i:Nat} (hi:i < a.length) (hj:i < M.length):imgF M a[i].id = M[i].2:=by
  have e:M[i].1 = a[i].id:=by
    have:=congrArg (fun l=>l[i]?) h.ids
    simpa only [idsC,List.getElem?_map,List.getElem?_eq_getElem hi,List.getElem?_eq_getElem hj,Option.map_some,Option.some.injEq] using this
  rw [← e]
  exact find_nodup (by rw [h.ids]; exact hnd) (List.getElem_mem hj)
theorem VM.keyAt (h:VM a b u M) (hnd:(idsC a).Nodup) {y:Cel} (hy:y ∈ a):∀ p ∈ imgF M y.id,p.1 ∈ cellsC b y.dim:=by
  obtain ⟨i,hi,rfl⟩:=List.getElem_of_mem hy
  have hj:i < M.length:=by rw [h.cm.len]; exact hi
  rw [h.cm.at hnd hi hj]
  exact h.key i hi hj
theorem VM.comAt (h:VM a b u M) (hnd:(idsC a).Nodup) {y:Cel} (hy:y ∈ a):bnd26 b (imgF M y.id) = appF (imgF M) y.b:=by
  obtain ⟨i,hi,rfl⟩:=List.getElem_of_mem hy
  have hj:i < M.length:=by rw [h.cm.len]; exact hi
  rw [h.cm.at hnd hi hj]
  exact h.com i hi hj
theorem VM.of (h:CM a b u M) (hnd:(idsC a).Nodup) (h1:∀ y ∈ a,∀ p ∈ imgF M y.id,p.1 ∈ cellsC b y.dim) (h2:∀ y ∈ a,bnd26 b (imgF M y.id) = appF (imgF M) y.b):VM a b u M where
  cm:=h
  key:=fun i hi hj=>by rw [← h.at hnd hi hj]; exact h1 _ (List.getElem_mem hi)
  com:=fun i hi hj=>by rw [← h.at hnd hi hj]; exact h2 _ (List.getElem_mem hi)
end
theorem homC_key {c:List Cel} {s:GS} {m:Nat} (g:Good c s m) (l:List Int) (n:Int) {i:Nat} (hi:i < c.length):∀ p ∈ homC c l n i,p.1 ∈ cellsC c (c.getD i zC).dim:=by
  have hci:c.getD i zC ∈ c:=by simp [List.getD,hi]
  have h1:∀ p ∈ [((c.getD i zC).id,(1:Int))],p.1 ∈ cellsC c (c.getD i zC).dim:=fun p hp=>by
    rw [List.mem_singleton] at hp; subst hp
    exact cells_mem.2 ⟨_,hci,rfl,rfl⟩
  have h2:=lift_key g l h1
  have h3:∀ p ∈ bz c (lift c l [((c.getD i zC).id,1)]),p.1 ∈ cellsC c (c.getD i zC).dim:=by
    unfold bz
    rw [dim_of g h2,if_pos rfl]
    have:=bnd_down g h2
    rwa [Int.add_sub_cancel] at this
  have h4:=lift_key g l (g.key _ hci)
  rw [Int.sub_add_cancel] at h4
  exact add_keys _ _ _ h4 (add_keys _ _ _ h3 (add_keys _ _ _ h1 (fun p hp=>by cases hp)))
theorem homC_lin {c:List Cel} {s:GS} {m:Nat} (g:Good c s m) (l:List Int) (n:Int) {i:Nat} (hi:i < c.length) (f:Int → Int) :
    lin f (homC c l n i) = n * f (c.getD i zC).id + RF c l (fun j=>lin f (cellOf? c j).b) c.length (c.getD i zC).id + lin (RF c l f c.length) (c.getD i zC).b:=by
  have hci:c.getD i zC ∈ c:=by simp [List.getD,hi]
  have h1:∀ p ∈ [((c.getD i zC).id,(1:Int))],p.1 ∈ cellsC c (c.getD i zC).dim:=fun p hp=>by
    rw [List.mem_singleton] at hp; subst hp
    exact cells_mem.2 ⟨_,hci,rfl,rfl⟩
  have h2:=lift_key g l h1
  unfold homC bz
  rw [dim_of g h2,if_pos rfl,lin_add,lin_add,lin_add,bnd26_lin,lift_lin,lift_lin,lin_one,lin_one]
  simp [lin]
theorem hom_vm {c:List Cel} {s:GS} {m e:Nat} (g:Good c s m) (hm:m ≤ 11) (he:∀ k,s.b k ≤ e) (hee:e ≤ 1000000000) (l:List Int) {N:Int} (hN:-3 ≤ N ∧ N ≤ 3) {n:Nat} (hn:n ≤ c.length) {s2 m2} (g2:Good (c.take n) s2 m2):VM (c.take n) c (e + 170) ((hom c l N).take n):=by
  have hcm:=hom_cm g hm he hee l hN hn
  have hnd:=idsC_nodup g2.ids
  have himg:∀ y ∈ c.take n,∃ i,i < c.length ∧ c.getD i zC = y ∧ imgF ((hom c l N).take n) y.id = homC c l N i:=by
    intro y hy
    obtain ⟨i,hi,rfl⟩:=List.getElem_of_mem hy
    have hin:i < n:=by simp at hi; omega
    have hic:i < c.length:=by omega
    have hj:i < ((hom c l N).take n).length:=by rw [hcm.len]; exact hi
    refine ⟨i,hic,by simp [List.getD,hic],?_⟩
    rw [hcm.at hnd hi hj,List.getElem_take]
    simp [hom,homI]
  have hsub:∀ y ∈ c.take n,y ∈ c:=fun y hy=>List.mem_of_mem_take hy
  refine VM.of hcm hnd (fun y hy=>?_) (fun y hy=>?_)
  · obtain ⟨i,hi,rfl,e⟩:=himg y hy
    rw [e]
    exact homC_key g l N hi
  · obtain ⟨i,hi,rfl,e⟩:=himg y hy
    rw [e]
    refine lin_ext (bnd_canon c _) (app_canon _ _) fun f=>?_
    have hy':=hsub _ hy
    have hbb:∀ f:Int → Int,lin (fun j=>lin f (cellOf? c j).b) (c.getD i zC).b = 0:=fun f=>by
      rw [← bnd26_lin,← bnd_one g hy',bnd_bnd g (k:=(c.getD i zC).dim) fun p hp=>by
        rw [List.mem_singleton] at hp; subst hp
        exact cells_mem.2 ⟨_,hy',rfl,rfl⟩]
      rfl
    have e1:∀ p ∈ (c.getD i zC).b,lin f (imgF ((hom c l N).take n) p.1) = (N * f p.1 + RF c l (fun j=>lin f (cellOf? c j).b) c.length p.1) + lin (RF c l f c.length) (cellOf? c p.1).b:=fun p hp=>by
      obtain ⟨z,hz,hd,hid⟩:=cells_mem.1 (g2.key _ hy p hp)
      rw [← hid]
      obtain ⟨j,hj,rfl,e⟩:=himg z hz
      rw [e,homC_lin g l N hj f,cellC_mem g.ids (hsub _ hz)]
    have hG:(fun j=>lin (fun j=>lin f (cellOf? c j).b) (cellOf? c j).b) = fun _=>0:=by
      funext j
      unfold cellOf?
      cases hf:findC c j with
      | none=>rfl
      | some z =>
        have hz:z ∈ c:=List.mem_of_find?_eq_some hf
        show lin _ z.b = 0
        have:=bnd_bnd g (x:=[(z.id,1)]) (k:=z.dim) fun p hp=>by
          rw [List.mem_singleton] at hp; subst hp
          exact cells_mem.2 ⟨_,hz,rfl,rfl⟩
        rw [bnd_one g hz] at this
        have h2:=congrArg (lin f) this
        rw [bnd26_lin] at h2
        exact h2
    have hR0:∀ id,RF c l (fun _=>0) c.length id = 0:=fun id=>sumN_zero fun k _=>by rw [lin_fzero]; split <;> rfl
    rw [bnd26_lin,appF_lin',homC_lin g l N hi,hG,hR0,cellC_mem g.ids hy',lin_congr (f:=fun j=>lin f (imgF ((hom c l N).take n) j)) (g:=fun j=>(N * f j + RF c l (fun j=>lin f (cellOf? c j).b) c.length j) + lin (RF c l f c.length) (cellOf? c j).b) e1,lin_fadd,lin_fadd,lin_fmul,hbb (RF c l f c.length)]
    omega
theorem incl_ids (a:List Cel):(incl a).map (·.1) = idsC a:=by unfold incl idsC; rw [List.map_map]; rfl
theorem incl_img {a:List Cel} (hnd:(idsC a).Nodup) {y:Cel} (hy:y ∈ a):imgF (incl a) y.id = [(y.id,1)] :=
  find_nodup (M:=incl a) (p:=(y.id,[(y.id,1)])) (by rw [incl_ids]; exact hnd) (List.mem_map_of_mem (f:=fun x:Cel=>(x.id,[(x.id,(1:Int))])) hy)
theorem incl_vm {a c:List Cel} {s:GS} {m:Nat} (g:Good c s m) {s2 m2} (g2:Good a s2 m2) (hsub:∀ y ∈ a,y ∈ c):VM a c 0 (incl a):=by
  have hnd:=idsC_nodup g2.ids
  refine VM.of ⟨incl_ids a,fun p hp=>?_⟩ hnd (fun y hy=>?_) (fun y hy=>?_)
  · obtain ⟨y,hy,rfl⟩:=List.mem_map.1 hp
    exact GC.one (List.mem_map_of_mem (hsub y hy)) (by decide) (by decide)
  · rw [incl_img hnd hy]
    intro p hp
    rw [List.mem_singleton] at hp; subst hp
    exact cells_mem.2 ⟨y,hsub y hy,rfl,rfl⟩
  · rw [incl_img hnd hy,bnd_one g (hsub y hy)]
    refine lin_ext (g2.cn y hy) (app_canon _ _) fun f=>?_
    rw [appF_lin']
    refine lin_congr fun p hp=>?_
    obtain ⟨z,hz,hd,hid⟩:=cells_mem.1 (g2.key y hy p hp)
    rw [← hid,incl_img hnd hz,lin_one]
theorem comp_img (M N:Mp) (id:Int):imgF (compM M N) id = appF (imgF N) (imgF M id):=by
  unfold compM
  induction M with
  | nil=>rfl
  | cons p r ih =>
    unfold imgF at ih ⊢
    rw [List.map_cons,findM_cons,findM_cons]
    split
    · rfl
    · exact ih
theorem VM.comp {a b c:List Cel} {u v w:Nat} {M N:Mp} (h:VM a b u M) (k:VM b c v N) (hna:(idsC a).Nodup) (hnb:(idsC b).Nodup) (hb:(idsC b).length ≤ 11) (hc:(idsC c).length ≤ 11) {s:GS} {m:Nat} (gb:Good b s m) {s':GS} {m':Nat} (gc:Good c s' m') (hw:u + v + 7 ≤ w):VM a c w (compM M N):=by
  refine VM.of (h.cm.comp k.cm hb hc hw) hna (fun y hy=>?_) (fun y hy=>?_)
  · rw [comp_img]
    have:∀ (x o:List (Int × Int)),(∀ p ∈ x,p.1 ∈ cellsC b y.dim) → (∀ p ∈ o,p.1 ∈ cellsC c y.dim) → ∀ p ∈ x.foldl (fun a p=>add26 a (imgF N p.1) p.2) o,p.1 ∈ cellsC c y.dim:=by
      intro x
      induction x with
      | nil=>exact fun o _ ho=>ho
      | cons p r ih =>
        refine fun o hx ho=>ih _ (fun q hq=>hx q (.tail _ hq)) (add_keys _ _ _ ?_ ho)
        obtain ⟨z,hz,hd,hid⟩:=cells_mem.1 (hx p (.head _))
        rw [← hid,← hd]
        exact k.keyAt hnb hz
    exact this _ [] (h.keyAt hna hy) (fun p hp=>by cases hp)
  · rw [comp_img]
    refine lin_ext (bnd_canon c _) (app_canon _ _) fun f=>?_
    have h2:=congrArg (lin fun i=>lin f (imgF N i)) (h.comAt hna hy)
    rw [bnd26_lin,appF_lin'] at h2
    rw [bnd26_lin,appF_lin',appF_lin']
    have e1:∀ p ∈ imgF M y.id,lin (fun j=>lin f (cellOf? c j).b) (imgF N p.1) = lin (fun i=>lin f (imgF N i)) (cellOf? b p.1).b:=fun p hp=>by
      obtain ⟨z,hz,hd,hid⟩:=cells_mem.1 (h.keyAt hna hy p hp)
      rw [← hid,cellC_mem gb.ids hz]
      have:=congrArg (lin f) (k.comAt hnb hz)
      rwa [bnd26_lin,appF_lin'] at this
    rw [lin_congr (f:=fun j=>lin (fun j=>lin f (cellOf? c j).b) (imgF N j)) (g:=fun j=>lin (fun i=>lin f (imgF N i)) (cellOf? b j).b) e1,h2]
    refine lin_congr fun p hp=>?_
    rw [comp_img,appF_lin']
theorem comp_assoc (M N P:Mp):compM (compM M N) P = compM M (compM N P):=by
  unfold compM
  rw [List.map_map]
  refine List.map_congr_left fun p _=>?_
  show (p.1,appF (imgF P) (appF (imgF N) p.2)) = (p.1,appF (imgF (compM N P)) p.2)
  refine Prod.ext rfl (lin_ext (app_canon _ _) (app_canon _ _) fun f=>?_)
  rw [appF_lin',appF_lin',appF_lin']
  refine lin_congr fun q _=>?_
  rw [comp_img,appF_lin']
theorem comp_incl {a b:List Cel} {u:Nat} {M:Mp} (h:CM a b u M) (hnd:(idsC b).Nodup):compM M (incl b) = M:=by
  unfold compM
  conv=>rhs; rw [← List.map_id M]
  refine List.map_congr_left fun p hp=>Prod.ext rfl ?_
  show appF (imgF (incl b)) p.2 = p.2
  have hg:=h.gc p hp
  refine lin_ext (app_canon _ _) hg.can fun f=>?_
  rw [appF_lin']
  refine lin_congr fun q hq=>?_
  obtain ⟨y,hy,hid⟩:=List.mem_map.1 (hg.key q hq)
  rw [← hid,incl_img hnd hy,lin_one]
theorem incl_comp {a b:List Cel} {u:Nat} {M:Mp} (h:CM a b u M) (hnd:(idsC a).Nodup):compM (incl a) M = M:=by
  have hl:=h.len
  unfold compM incl
  rw [List.map_map]
  apply List.ext_getElem (by simpa using hl.symm)
  intro i h1 h2
  have hi:i < a.length:=by simpa using h1
  rw [List.getElem_map]
  have e:M[i].1 = a[i].id:=by
    have:=congrArg (fun l=>l[i]?) h.ids
    simpa only [idsC,List.getElem?_map,List.getElem?_eq_getElem hi,List.getElem?_eq_getElem h2,Option.map_some,Option.some.injEq] using this
  refine Prod.ext e.symm ?_
  show appF (imgF M) [(a[i].id,1)] = M[i].2
  have hg:=h.gc _ (List.getElem_mem h2)
  refine lin_ext (app_canon _ _) hg.can fun f=>?_
  rw [appF_lin',lin_one,h.at hnd hi h2]
end Tor
namespace Tor
open Go
theorem set_same {α:Type} {l:List α} {i:Nat} {x:α} (h:l[i]? = some x):l.set i x = l:=by
  apply List.ext_getElem?
  intro j
  by_cases e:i = j
  · subst e
    have hi:i < l.length:=(List.getElem?_eq_some_iff.1 h).1
    rw [List.getElem?_set_self hi,h]
  · rw [List.getElem?_set_ne e]
def rsK (o R:Nat):List Nat:=(List.range R).map (o + 1 + ·)
def topK (o R C i:Nat):List AV:=tops C (rsK o i) ++ List.replicate (R - i) .nl
theorem rsK_len (o R):(rsK o R).length = R:=by simp [rsK]
theorem topK_len {o R C i} (h:i ≤ R):(topK o R C i).length = R:=by simp [topK,tops_len,rsK_len]; omega
theorem topK_set {o R C i} (h:i < R):(topK o R C i).set i (.sl (o + 1 + i) 0 2 0 C) = topK o R C (i + 1):=by
  unfold topK
  have e:R - i = (R - (i + 1)) + 1:=by omega
  have hl:(tops C (rsK o i)).length = i:=by rw [tops_len,rsK_len]
  rw [e,List.replicate_succ,List.set_append_right _ _ (by omega),hl,Nat.sub_self,List.set_cons_zero]
  simp [tops,rsK,List.range_succ]
structure KH (H K:Heap) (R C i:Nat):Prop where
  top:K[H.length]? = some (.arr 0 1 (topK H.length R C i))
  len:K.length = H.length + 1 + i
  row:∀ j,j < i → K[H.length + 1 + j]? = some (.arr 0 2 (rowA (List.replicate C 0)))
  old:∀ y,y < H.length → K[y]? = H[y]?
def bst18 (o R C i:Nat) (K:Heap) (b:Bool):St :=
  { vars:=[.int .i64 R,.int .i64 C,.fn 250 [],.u,.u,.int .i64 R,.int .i64 (i:Nat),.u,.u,.u,.u,.agg [.int .i64 0,.int .i64 0,.nl],HV o 0 R C],heap:=K,rs:=b }
variable {E:CallF} (hE:Free E)
include hE
theorem i_zero (i j:Int) (H:Heap):call E GP 250 [.int .i64 i,.int .i64 j] H = some (Z 0,H,false):=by
  rw [call_fun (hE _ _ _ (by decide)) (f:=a250) rfl rfl]
  rw [Z_zero]
  simp (maxSteps:=1000000) (disch:=first | omega | decide) only [si,sf,simprocAttr,a250,a250R]
theorem build_step (H:Heap) (R C:Nat) (hR:R < 2147483648) (hC:C < 2147483648) (i:Nat) (hi:i < R) (st:St) (h:∃ K b,st = bst18 H.length R C i K b ∧ KH H K R C i) :
    ∃ st',(∃ K b,st' = bst18 H.length R C (i + 1) K b ∧ KH H K R C (i + 1)) ∧ run E GP a251l0 st = run E GP a251l0 st':=by
  obtain ⟨K,b,rfl,h1,h2,h3,h4⟩:=h
  let K':Heap:=(K ++ [AObj.arr 0 2 (rowA (List.replicate C 0))]).set H.length (.arr 0 1 (topK H.length R C (i + 1)))
  have hk':KH H K' R C (i + 1):=by
    refine ⟨?_,by simp [K',h2]; omega,fun j hj=>?_,fun y hy=>?_⟩
    · exact List.getElem?_set_self (by simp [h2]; omega)
    · simp only [K']
      rw [List.getElem?_set_ne (by omega)]
      by_cases e:j = i
      · subst e
        rw [List.getElem?_append_right (by omega),h2,Nat.sub_self]; rfl
      · rw [List.getElem?_append_left (by omega)]; exact h3 j (by omega)
    · simp only [K']
      rw [List.getElem?_set_ne (by omega),List.getElem?_append_left (by omega)]; exact h4 y hy
  refine ⟨_,⟨K',true,rfl,hk'⟩,?_⟩
  have g1:(K ++ [AObj.arr 0 2 (rowA (List.replicate C 0))])[H.length]? = some (.arr 0 1 (topK H.length R C i)):=by
    rw [List.getElem?_append_left (by omega)]; exact h1
  have tl:=topK_len (o:=H.length) (R:=R) (C:=C) (i:=i) (by omega)
  have ts:=topK_set (o:=H.length) (R:=R) (C:=C) (i:=i) hi
  have hrow:=hk'.row i (by omega)
  have htop:=hk'.top
  have hrg:(topK H.length R C (i + 1))[i]? = some (.sl (H.length + 1 + i) 0 2 0 C):=by
    unfold topK
    rw [List.getElem?_append_left (by rw [tops_len,rsK_len]; omega),tops_get (by rw [rsK_len]; omega)]
    simp [rsK,List.getD]
  have hz:=fun i j H=>i_zero hE i j H
  let T:Nat → St:=fun j=>{ vars:=[.int .i64 R,.int .i64 C,.fn 250 [],.int .i64 (i:Nat),.u,.int .i64 R,.int .i64 (i:Nat),.bool true,.int .i64 C,.int .i64 (j:Nat),.u,.agg [.int .i64 0,.int .i64 0,.nl],HV H.length 0 R C],heap:=K',rs:=true }
  have hinner:∀ j,j < C → run E GP a251l1 (T j) = run E GP a251l1 (T (j + 1)):=by
    intro j hj
    have hzl:(rowA (List.replicate C 0)).length = C:=by simp [rowA_len]
    have hzs:(rowA (List.replicate C 0)).set j (Z 0) = rowA (List.replicate C 0):=by
      rw [rowA_set]; congr 1; exact set_same (by simp [hj])
    have hzg:(rowA (List.replicate C 0))[j]? = some (Z 0):=by
      rw [rowA_get (by simp [hj])]; simp [List.getD,hj]
    have hks:K'.set (H.length + 1 + i) (.arr 0 2 (rowA (List.replicate C 0))) = K':=set_same hrow
    have htl':=topK_len (o:=H.length) (R:=R) (C:=C) (i:=i + 1) (by omega)
    show run E GP a251l1 { vars:=_,heap:=_,rs:=_ } = run E GP a251l1 { vars:=_,heap:=_,rs:=_ }
    unfold HV
    generalize K' = Y at *
    generalize rowA (List.replicate C 0) = zr at *
    generalize topK H.length R C (i + 1) = tp at *
    conv=>lhs; rw [a251l1_run]
    simp (maxSteps:=1000000) (disch:=first | omega | decide) only [si,sf,simprocAttr,a251b1,a251R,hj,hi,htop,hrg,htl',hrow,hzl,hzg,hz,hzs,hks]
  have hl:=loop_ind T _ C hinner rfl
  have he:run E GP a251l1 (T C) = some (.exit 2,{ vars:=[.int .i64 R,.int .i64 C,.fn 250 [],.int .i64 (i:Nat),.u,.int .i64 R,.int .i64 (i:Nat),.bool true,.int .i64 C,.int .i64 C,.bool false,.agg [.int .i64 0,.int .i64 0,.nl],HV H.length 0 R C],heap:=K',rs:=true }):=by
    show run E GP a251l1 { vars:=_,heap:=_,rs:=_ } = _
    unfold HV
    rw [a251l1_run]
    simp (maxSteps:=1000000) (disch:=first | omega | decide) only [si,sf,simprocAttr,a251b1,a251R,Nat.lt_irrefl]
  rw [he] at hl
  have hl:run E GP a251l1 { vars:=[.int .i64 R,.int .i64 C,.fn 250 [],.int .i64 (i:Nat),.u,.int .i64 R,.int .i64 (i:Nat),.bool true,.int .i64 C,.int .i64 0,.u,.agg [.int .i64 0,.int .i64 0,.nl],HV H.length 0 R C],heap:=K',rs:=true } = _:=hl
  have hc1:(C:Int) ≤ 4294967296:=by omega
  have hc2:(0:Int) ≤ (C:Int):=by omega
  have hgi:(topK H.length R C i)[i]? = some .nl:=by
    unfold topK
    rw [List.getElem?_append_right (by rw [tops_len,rsK_len]; omega),tops_len,rsK_len,Nat.sub_self,List.getElem?_replicate,if_pos (by omega)]
  have ek:K' = (K ++ [AObj.arr 0 2 (rowA (List.replicate C 0))]).set H.length (.arr 0 1 ((topK H.length R C i).set i (.sl (H.length + 1 + i) 0 2 0 C))):=by rw [ts]
  unfold bst18
  unfold HV at hl ⊢
  conv=>lhs; rw [a251l0_run]
  simp (maxSteps:=1000000) (disch:=first | omega | decide) only [si,sf,simprocAttr,a251b0,a251R,hi,g1,tl,hgi,h2,rowA_zero,hc1,hc2,maxLenA,← ek,hl]
theorem i_build (R C:Nat) (hR:R < 2147483648) (hC:C < 2147483648) (H:Heap):∃ K b,call E GP 281 [.int .i64 R,.int .i64 C,.fn 250 []] H = some (HV H.length 0 R C,K,b) ∧ KH H K R C R:=by
  have h0:KH H (H ++ [.arr 0 1 (List.replicate R .nl)]) R C 0:=by
    refine ⟨?_,by simp,fun j hj=>by omega,fun y hy=>List.getElem?_append_left hy⟩
    rw [List.getElem?_append_right (Nat.le_refl _),Nat.sub_self]
    simp [topK,tops,rsK]
  obtain ⟨st,⟨K,b,rfl,hk⟩,hl⟩:=loop_ex (E:=E) (GP:=GP) (l:=a251l0) (fun i st=>∃ K b,st = bst18 H.length R C i K b ∧ KH H K R C i) R (bst18 H.length R C 0 (H ++ [.arr 0 1 (List.replicate R .nl)]) false) ⟨_,_,rfl,h0⟩ (fun i hi st h=>build_step hE H R C hR hC i hi st h)
  have he:run E GP a251l0 (bst18 H.length R C R K b) = some (.exit 0,{ vars:=[.int .i64 R,.int .i64 C,.fn 250 [],.u,.u,.int .i64 R,.int .i64 R,.bool false,.u,.u,.u,.agg [.int .i64 0,.int .i64 0,.nl],HV H.length 0 R C],heap:=K,rs:=b }):=by
    unfold bst18 HV
    rw [a251l0_run]
    simp (maxSteps:=1000000) (disch:=first | omega | decide) only [si,sf,simprocAttr,a251b0,a251R,Nat.lt_irrefl]
  rw [he] at hl
  have hl:run E GP a251l0 { vars:=[.int .i64 R,.int .i64 C,.fn 250 [],.u,.u,.int .i64 R,.int .i64 0,.u,.u,.u,.u,.agg [.int .i64 0,.int .i64 0,.nl],HV H.length 0 R C],heap:=H ++ [.arr 0 1 (List.replicate R .nl)],rs:=false } = _:=hl
  have hc1:(R:Int) ≤ 4294967296:=by omega
  have hc2:(0:Int) ≤ (R:Int):=by omega
  refine ⟨K,b,?_,hk⟩
  have hmode:a281.mode = .keep:=rfl
  rw [call_fun (hE _ _ _ (by decide)) (f:=a281) rfl rfl]
  unfold HV at hl ⊢
  simp (maxSteps:=1000000) (disch:=first | omega | decide) only [si,sf,simprocAttr,hmode,a281,a251,a251R,hc1,hc2,maxLenA,hl]
theorem i_new (R C:Nat) (hR:R < 2147483648) (hC:C < 2147483648) (H:Heap):∃ K b,call E GP 280 [.int .i64 R,.int .i64 C] H = some (HV H.length 0 R C,K,b) ∧ KH H K R C R:=by
  obtain ⟨K,b,h,hk⟩:=i_build hE R C hR hC H
  refine ⟨K,b,?_,hk⟩
  have hmode:a280.mode = .keep:=rfl
  rw [call_fun (hE _ _ _ (by decide)) (f:=a280) rfl rfl]
  unfold HV at h ⊢
  simp (maxSteps:=1000000) (disch:=first | omega | decide) only [si,sf,simprocAttr,hmode,a280,a240,a240R,h]
omit hE in
theorem KH.mat {H K:Heap} {R C:Nat} (h:KH H K R C R):HMat K H.length 0 C (rsK H.length R) (List.replicate R (List.replicate C 0)) where
  top:=by
    have:=h.top
    unfold topK at this
    rwa [Nat.sub_self,List.replicate_zero,List.append_nil] at this
  row:=fun i hi=>by
    rw [rsK_len] at hi
    have:=h.row i hi
    have e:(rsK H.length R).getD i 0 = H.length + 1 + i:=by simp [rsK,List.getD,hi]
    have e2:(List.replicate R (List.replicate C (0:Int))).getD i [] = List.replicate C 0:=by simp [List.getD,hi]
    rw [e,e2]; exact this
  len:=by simp [rsK_len]
  wid:=fun i hi=>by
    rw [rsK_len] at hi
    simp [List.getD,hi]
  nod:=by
    unfold rsK
    rw [List.Nodup,List.pairwise_map]
    exact List.nodup_range.imp fun h=>by omega
  off:=by simp [rsK]; omega
end Tor
namespace Tor
open Go
def matF (a b:List Cel) (M:Mp) (k:Int):List (List Int):=(cellsC a k).map fun id=>vecV b k (imgF M id)
theorem matF_sha (a b:List Cel) (M:Mp) (k:Int):Sha (cellsC a k).length (cellsC b k).length (matF a b M k) :=
  ⟨by simp [matF],fun i hi=>by simp [matF,List.getD,hi,vecV]⟩
theorem HMat.ext {H H':Heap} {om g C o:Nat} {rs:List Nat} {A:List (List Int)} (h:HMat H om g C rs A) (he:Ext o H H') (h1:om ≠ o) (h2:∀ r ∈ rs,r ≠ o):HMat H' om g C rs A where
  top:=(he.2 om (List.getElem?_eq_some_iff.1 h.top).1 h1).trans h.top
  row:=fun i hi=>(he.2 _ (List.getElem?_eq_some_iff.1 (h.row i hi)).1 (h2 _ (getD_mem hi))).trans (h.row i hi)
  len:=h.len
  wid:=h.wid
  nod:=h.nod
  off:=h.off
def mst19 (a b:List Cel) (M:Mp) (k:Int) (ids:List Int) (o C i:Nat) (H:Heap) (f:Bool):St :=
  { vars:=[.isl (a.map cA),.isl (b.map cA),.isl (M.map mA),.int .i64 k,.int .i64 0,.isl (ids.map iA),.ptr o 0 [],.u,.u,.u,.u,.bool false,.isl (ids.map iA),.int .i64 ids.length,.int .i64 (i:Nat),.u,.agg [.int .i64 0,.int .i64 0,.nl],HV 0 0 ids.length C],heap:=H,rs:=f }
def rowsT (a b:List Cel) (M:Mp) (k:Int) (i:Nat):List (List Int):=(matF a b M k).take i ++ List.replicate ((cellsC a k).length - i) (List.replicate (cellsC b k).length 0)
theorem vm_vector {a b:List Cel} {sb:GS} {mb u:Nat} {M:Mp} (h:VM a b u M) (gb:Good b sb mb) (hmb:mb ≤ 11) (hna:(idsC a).Nodup) {k:Int} {id:Int} (hid:id ∈ cellsC a k) (H:Heap) :
    call E2 GP 8 [.isl (b.map cA),.int .i64 k,.isl ((imgF M id).map fA)] H = some (.tup [.isl (rowA (vecV b k (imgF M id))),.int .i64 0],H,false):=by
  obtain ⟨y,hy,hd,rfl⟩:=cells_mem.1 hid
  have hk:=h.keyAt hna hy
  have hlen:=(h.cm.img y.id).len
  have hb:=gb.len11 hmb
  have:=up (c_vector free1 b k (imgF M y.id) gb.ids (by have:=gb.len; omega) (by omega) H)
  have e:vec26 b k (imgF M y.id) = (vecV b k (imgF M y.id),0):=by
    unfold vec26
    rw [dim_of gb hk]
    simp only [ne_eq,not_true_eq_false,if_false]
    by_cases h0:imgF M y.id = []
    · simp [h0]
    · simp [h0,hd]
  rw [e] at this
  exact this
theorem mat_step {a b:List Cel} {sa sb:GS} {ma mb u:Nat} {M:Mp} (h:VM a b u M) (ga:Good a sa ma) (gb:Good b sb mb) (hma:ma ≤ 11) (hmb:mb ≤ 11) (k:Int) (i:Nat) (hi:i < (cellsC a k).length) (st:St)
    (hI:∃ H f,st = mst19 a b M k (cellsC a k) ((cellsC a k).length + 1) (cellsC b k).length i H f ∧ IX H ((cellsC a k).length + 1) M ∧ HMat H 0 0 (cellsC b k).length (rsK 0 (cellsC a k).length) (rowsT a b M k i)) :
    ∃ st',(∃ H f,st' = mst19 a b M k (cellsC a k) ((cellsC a k).length + 1) (cellsC b k).length (i + 1) H f ∧ IX H ((cellsC a k).length + 1) M ∧ HMat H 0 0 (cellsC b k).length (rsK 0 (cellsC a k).length) (rowsT a b M k (i + 1))) ∧ run E2 GP a217l0 st = run E2 GP a217l0 st':=by
  obtain ⟨H,f,rfl,hix,hm⟩:=hI
  have hna:=idsC_nodup ga.ids
  have hML:=h.cm.len
  have hal:=ga.len
  have hcl:=cellsC_len a k
  have hcl2:=cellsC_len b k
  have hbl:=gb.len
  obtain ⟨H2,b2,f1,f2,f3⟩:=i_find M (by omega) (by rw [h.cm.ids]; exact hna) H ((cellsC a k).length + 1) ((cellsC a k)[i]) hix
  have hv:=fun H=>vm_vector h gb hmb hna (List.getElem_mem hi) H
  have hsome:(findM M (cellsC a k)[i]).isSome = true:=h.cm.isS (cells_ids _ (List.getElem_mem hi))
  have hm2:=hm.ext f3 (by omega) (fun r hr=>by simp [rsK] at hr; omega)
  have hir:i < (rsK 0 (cellsC a k).length).length:=by rw [rsK_len]; exact hi
  have er:(rsK 0 (cellsC a k).length).getD i 0 = 1 + i:=by simp [rsK,List.getD,hi]
  have hvl:(vecV b k (imgF M (cellsC a k)[i])).length = (cellsC b k).length:=by simp [vecV]
  have hrow:=hm2.row i hir
  have hwid:=hm2.wid i hir
  have hset:=hm2.setRow hir hvl
  have htop:=hm2.top
  have hrg:(tops (cellsC b k).length (rsK 0 (cellsC a k).length))[i]? = some (.sl (1 + i) 0 2 0 (cellsC b k).length):=by
    rw [tops_get hir,er]
  have htl:(tops (cellsC b k).length (rsK 0 (cellsC a k).length)).length = (cellsC a k).length:=by rw [tops_len,rsK_len]
  rw [er] at hrow hset
  have es:(rowsT a b M k i).set i (vecV b k (imgF M (cellsC a k)[i])) = rowsT a b M k (i + 1):=by
    have hml:(matF a b M k).length = (cellsC a k).length:=by simp [matF]
    unfold rowsT
    rw [List.set_append_right _ _ (by simp; omega),List.take_succ_eq_append_getElem (by rw [hml]; exact hi)]
    have e1:i - ((matF a b M k).take i).length = 0:=by simp; omega
    have e2:(cellsC a k).length - i = ((cellsC a k).length - (i + 1)) + 1:=by omega
    rw [e1,e2,List.replicate_succ,List.set_cons_zero]
    simp [matF]
  rw [es] at hset
  refine ⟨_,⟨_,f || b2,rfl,f2.set hrow (.arr 0 2 (rowA (vecV b k (imgF M (cellsC a k)[i])))),hset⟩,?_⟩
  have hvl':(rowA (vecV b k (imgF M (cellsC a k)[i]))).length = (cellsC b k).length:=by rw [rowA_len,hvl]
  have hwl':(rowA ((rowsT a b M k i).getD i [])).length = (cellsC b k).length:=by rw [rowA_len,hwid]
  have hhs:headSize 2 (rowA (vecV b k (imgF M (cellsC a k)[i]))) = true:=by
    cases vecV b k (imgF M (cellsC a k)[i]) with
    | nil=>rfl
    | cons x r=>simp [rowA,headSize,Z_size]
  have hrf:=refs_rowA (vecV b k (imgF M (cellsC a k)[i]))
  have hmin:Nat.min (cellsC b k).length (cellsC b k).length = (cellsC b k).length:=Nat.min_self _
  have htk:(rowA (vecV b k (imgF M (cellsC a k)[i]))).take (cellsC b k).length = rowA (vecV b k (imgF M (cellsC a k)[i])):=List.take_of_length_le (by omega)
  have hdr:(rowA ((rowsT a b M k i).getD i [])).drop (cellsC b k).length = []:=List.drop_of_length_le (by omega)
  obtain ⟨y,hy⟩:=Option.isSome_iff_exists.1 hsome
  rw [hy] at f1
  have f1:call E2 GP 241 [.ptr ((cellsC a k).length + 1) 0 [],.int .i64 (cellsC a k)[i]] H = some (.tup [.isl (y.map fA),.bool true],H2,b2):=f1
  have ey:imgF M (cellsC a k)[i] = y:=by unfold imgF; rw [hy]; rfl
  unfold mst19 HV
  generalize rowA (vecV b k (imgF M (cellsC a k)[i])) = V at *
  generalize rowA ((rowsT a b M k i).getD i []) = W at *
  generalize tops (cellsC b k).length (rsK 0 (cellsC a k).length) = tp at *
  rw [ey] at hv
  generalize cellsC a k = ids at *
  conv=>lhs; rw [a217l0_run]
  simp (maxSteps:=1000000) (disch:=first | omega | decide) only [si,sf,simprocAttr,a217b0,a217R,hi,iA,f1,hv,htop,hrg,htl,hrow,hvl',hwl',hhs,hrf,hmin,htk,hdr,List.append_nil]
theorem i_matrix {a b:List Cel} {sa sb:GS} {ma mb ea eb u:Nat} {M:Mp} (h:VM a b u M) (ga:Good a sa ma) (gb:Good b sb mb) (hma:ma ≤ 11) (hmb:mb ≤ 11) (hea:∀ k,sa.b k ≤ ea) (heb:∀ k,sb.b k ≤ eb) (hu:ea + eb + u ≤ 10000000000) (k:Int) (H:Heap) :
    call E2 GP 217 [.isl (a.map cA),.isl (b.map cA),.isl (M.map mA),.int .i64 k] H = some (.tup [MI (cellsC a k).length (cellsC b k).length (matF a b M k),.int .i64 0],H,false):=by
  have hE2:∀ a H,E2 217 a H = none:=fun a H=>E2_none (by decide) (by decide)
  have hal:=ga.len
  have hbl:=gb.len
  have hcl:=cellsC_len a k
  have hcl2:=cellsC_len b k
  have hv:=fun H=>h.valid ga gb hma hmb hea heb hu H
  have hc1:=fun H=>up (c_cells free1 a k (by omega) H)
  have hc2:=fun H=>up (c_cells free1 b k (by omega) H)
  obtain ⟨K,b0,hnew,hK⟩:=i_new free1 (cellsC a k).length (cellsC b k).length (by omega) (by omega) []
  have hnew:=up hnew
  have hKl:K.length = (cellsC a k).length + 1:=by have:=hK.len; rw [List.length_nil] at this; omega
  have hlen:(K ++ [AObj.var (idx0 M)]).length = (cellsC a k).length + 2:=by simp; omega
  have hoi:(K ++ [AObj.var (idx0 M)])[(cellsC a k).length + 1]? = some (.var (idx0 M)):=by
    rw [List.getElem?_append_right (by omega),show (cellsC a k).length + 1 - K.length = 0 by omega]; rfl
  have hmat:HMat (K ++ [AObj.var (idx0 M)]) 0 0 (cellsC b k).length (rsK 0 (cellsC a k).length) (rowsT a b M k 0):=by
    have:=(hK.mat).app [AObj.var (idx0 M)]
    unfold rowsT
    rw [List.take_zero,List.nil_append,Nat.sub_zero]
    exact this
  obtain ⟨st,⟨H1,b1,rfl,h1,h2⟩,hl⟩:=loop_ex (E:=E2) (GP:=GP) (l:=a217l0) (fun i st=>∃ H f,st = mst19 a b M k (cellsC a k) ((cellsC a k).length + 1) (cellsC b k).length i H f ∧ IX H ((cellsC a k).length + 1) M ∧ HMat H 0 0 (cellsC b k).length (rsK 0 (cellsC a k).length) (rowsT a b M k i)) (cellsC a k).length (mst19 a b M k (cellsC a k) ((cellsC a k).length + 1) (cellsC b k).length 0 (K ++ [AObj.var (idx0 M)]) b0) ⟨_,_,rfl,.inl hoi,hmat⟩ (fun i hi st hI=>mat_step h ga gb hma hmb k i hi st hI)
  have he:run E2 GP a217l0 (mst19 a b M k (cellsC a k) ((cellsC a k).length + 1) (cellsC b k).length (cellsC a k).length H1 b1) = some (.exit 0,{ vars:=[.isl (a.map cA),.isl (b.map cA),.isl (M.map mA),.int .i64 k,.int .i64 0,.isl ((cellsC a k).map iA),.ptr ((cellsC a k).length + 1) 0 [],.u,.u,.u,.u,.bool false,.isl ((cellsC a k).map iA),.int .i64 (cellsC a k).length,.int .i64 (cellsC a k).length,.bool false,.agg [.int .i64 0,.int .i64 0,.nl],HV 0 0 (cellsC a k).length (cellsC b k).length],heap:=H1,rs:=b1 }):=by
    unfold mst19 HV
    generalize cellsC a k = ids at *
    rw [a217l0_run]
    simp (maxSteps:=1000000) (disch:=first | omega | decide) only [si,sf,simprocAttr,a217b0,a217R,Nat.lt_irrefl]
  rw [he] at hl
  have hl:run E2 GP a217l0 { vars:=[.isl (a.map cA),.isl (b.map cA),.isl (M.map mA),.int .i64 k,.int .i64 0,.isl ((cellsC a k).map iA),.ptr ((cellsC a k).length + 1) 0 [],.u,.u,.u,.u,.bool false,.isl ((cellsC a k).map iA),.int .i64 (cellsC a k).length,.int .i64 0,.u,.agg [.int .i64 0,.int .i64 0,.nl],HV 0 0 (cellsC a k).length (cellsC b k).length],heap:=K ++ [AObj.var (idx0 M)],rs:=b0 } = _:=hl
  have erows:rowsT a b M k (cellsC a k).length = matF a b M k:=by
    unfold rowsT
    rw [Nat.sub_self,List.replicate_zero,List.append_nil,List.take_of_length_le (by simp [matF])]
  rw [erows] at h2
  have hz:=fz_HV h2 (rsK_len _ _) 2
  have hrM:=refs_rowsI (matF a b M k)
  have hsM:=solids_rowsI (matF a b M k)
  rw [call_fun (hE2 _ _) (f:=a217) rfl rfl]
  unfold HV MI at *
  unfold idx0 onceV at hl
  simp only [List.length_nil] at hnew
  generalize matF a b M k = A at *
  generalize cellsC a k = ids at *
  simp (maxSteps:=1000000) (disch:=first | omega | decide) only [si,sf,simprocAttr,doBox,a217,a217R,hv,hc1,hc2,hnew,hKl,hl,hz,hrM,hsM]
end Tor
namespace Tor
open Go
theorem r29_proper {a b:List Cel} {u:Nat} {M:Mp} (h:CM a b u M) (hs:a.Pairwise (fun x y=>x.id < y.id)) (ha:a.length ≤ 11) (hb:(idsC b).length ≤ 11) (hu:u ≤ 14000000000) (H:Heap) :
    call E1 GP 225 [.isl (M.map mA)] H = some (.bool true,H,false):=by
  have hl:=h.len
  let S:Nat → St:=fun i=>{ vars:=[.isl (M.map mA),.bool false,.int .i64 (i:Nat),.u,.u],heap:=[],rs:=false }
  have hid:∀ i (hi:i < M.length),∃ hj:i < a.length,M[i].1 = a[i].id:=fun i hi=>⟨by omega,by
    have:=congrArg (fun l=>l[i]?) h.ids
    simpa only [idsC,List.getElem?_map,List.getElem?_eq_getElem hi,List.getElem?_eq_getElem (show i < a.length by omega),Option.map_some,Option.some.injEq] using this⟩
  have hstep:∀ i,i < M.length → run E1 GP a225l0 (S i) = run E1 GP a225l0 (S (i + 1)):=by
    intro i hi
    have hv:=fun H=>(h.gc _ (List.getElem_mem hi)).valid (by omega) hb H
    show run E1 GP a225l0 { vars:=_,heap:=_,rs:=_ } = run E1 GP a225l0 { vars:=_,heap:=_,rs:=_ }
    by_cases h0:i = 0
    · subst h0
      have h00:(0:Int) < (M.length:Int):=by omega
      conv=>lhs; rw [a225l0_run]
      simp (maxSteps:=1000000) (disch:=first | omega | decide) only [si,sf,simprocAttr,a225b0,a225R,hi,h00,mA,hv]
    · obtain ⟨p,hpi⟩:∃ p,i = p + 1:=⟨i - 1,by omega⟩
      have hp:p < M.length:=by omega
      have hlt:¬ (M[p].1 ≥ M[i].1):=by
        obtain ⟨q1,e1⟩:=hid p hp
        obtain ⟨q2,e2⟩:=hid i hi
        rw [e1,e2]
        have:=(List.pairwise_iff_getElem.1 hs) p i q1 q2 (by omega)
        omega
      have h0':(i:Int) > 0:=by omega
      have ws:IntKind.i64.wrap ((i:Int) - 1) = (p:Int):=by rw [show (i:Int) - 1 = p by omega]; exact i64w (by omega)
      conv=>lhs; rw [a225l0_run]
      simp (maxSteps:=1000000) (disch:=first | omega | decide) only [si,sf,simprocAttr,a225b0,a225R,hi,hp,mA,hv,hlt,h0',ws]
  have hlp:=loop_ind S _ M.length hstep rfl
  have he:run E1 GP a225l0 (S M.length) = some (.exit 0,{ vars:=[.isl (M.map mA),.bool false,.int .i64 M.length,.bool false,.u],heap:=[],rs:=false }):=by
    show run E1 GP a225l0 { vars:=_,heap:=_,rs:=_ } = _
    rw [a225l0_run]
    simp (maxSteps:=1000000) (disch:=first | omega | decide) only [si,sf,simprocAttr,a225b0,a225R,Nat.lt_irrefl]
  rw [he] at hlp
  have hlp:run E1 GP a225l0 { vars:=[.isl (M.map mA),.bool false,.int .i64 0,.u,.u],heap:=[],rs:=false } = _:=hlp
  rw [call_fun (free1 _ _ _ (by decide)) (f:=a225) rfl rfl]
  simp (maxSteps:=1000000) (disch:=first | omega | decide) only [si,sf,simprocAttr,a225,a225R,hlp]
theorem r29_valid {a b:List Cel} {sa sb:GS} {ma mb ea eb u:Nat} {M:Mp} (h:VM a b u M) (ga:Good a sa ma) (gb:Good b sb mb) (hma:ma ≤ 11) (hmb:mb ≤ 11) (hea:∀ k,sa.b k ≤ ea) (heb:∀ k,sb.b k ≤ eb) (hu:ea + eb + u ≤ 10000000000) (H:Heap) :
    call E1 GP 224 [.isl (a.map cA),.isl (b.map cA),.isl (M.map mA)] H = some (.bool true,H,false):=by
  have ha:=ga.len11 hma
  have hb:=gb.len11 hmb
  have hkb:=gb.ids64 hmb
  have hMl:=h.cm.len
  have hal:a.length ≤ 11:=by simpa [idsC] using ha
  have hbl:b.length ≤ 11:=by simpa [idsC] using hb
  have hprop:=fun H=>r29_proper h.cm ga.ids hal hb (by omega) H
  let S:Nat → St:=fun i=>{ vars:=[.isl (a.map cA),.isl (b.map cA),.isl (M.map mA),.bool false,.int .i64 (i:Nat),.u,.u,.u,.bool false,.u,.u,.u,.u,.u],heap:=[],rs:=false }
  have hstep:∀ i,i < a.length → run E1 GP a224l0 (S i) = run E1 GP a224l0 (S (i + 1)):=by
    intro i hi
    have hj:i < M.length:=by omega
    have hg:=h.cm.gc _ (List.getElem_mem hj)
    have hgl:=hg.len
    have hdim:=fun H=>r26_dim free1 b M[i].2 (by omega) (by omega) H
    rw [dim_of gb (h.key i hi hj)] at hdim
    have eid:M[i].1 = a[i].id:=by
      have:=congrArg (fun l=>l[i]?) h.cm.ids
      simpa only [idsC,List.getElem?_map,List.getElem?_eq_getElem hi,List.getElem?_eq_getElem hj,Option.map_some,Option.some.injEq] using this
    show run E1 GP a224l0 { vars:=_,heap:=_,rs:=_ } = run E1 GP a224l0 { vars:=_,heap:=_,rs:=_ }
    by_cases h0:M[i].2 = []
    · rw [if_pos h0] at hdim
      rw [h0] at hdim
      simp only [List.map_nil] at hdim
      conv=>lhs; rw [a224l0_run]
      simp (maxSteps:=1000000) (disch:=first | omega | decide) only [si,sf,simprocAttr,a224b0,a224R,hi,hj,cA,mA,eid,h0,hdim,List.map_nil]
    · rw [if_neg h0] at hdim
      have hpos:(M[i].2.length:Int) > 0:=by have:=List.length_pos_iff.2 h0; omega
      conv=>lhs; rw [a224l0_run]
      simp (maxSteps:=1000000) (disch:=first | omega | decide) only [si,sf,simprocAttr,a224b0,a224R,hi,hj,cA,mA,eid,hdim,hpos]
  have hl0:=loop_ind S _ a.length hstep rfl
  have he0:run E1 GP a224l0 (S a.length) = some (.exit 0,{ vars:=[.isl (a.map cA),.isl (b.map cA),.isl (M.map mA),.bool false,.int .i64 a.length,.u,.u,.u,.bool false,.bool false,.u,.u,.u,.u],heap:=[],rs:=false }):=by
    show run E1 GP a224l0 { vars:=_,heap:=_,rs:=_ } = _
    rw [a224l0_run]
    simp (maxSteps:=1000000) (disch:=first | omega | decide) only [si,sf,simprocAttr,a224b0,a224R,Nat.lt_irrefl]
  rw [he0] at hl0
  have hl0:run E1 GP a224l0 { vars:=[.isl (a.map cA),.isl (b.map cA),.isl (M.map mA),.bool false,.int .i64 0,.u,.u,.u,.bool false,.u,.u,.u,.u,.u],heap:=[],rs:=false } = _:=hl0
  let T:Nat → St:=fun j=>{ vars:=[.isl (a.map cA),.isl (b.map cA),.isl (M.map mA),.bool false,.int .i64 a.length,.u,.u,.int .i64 (j:Nat),.bool false,.bool false,.u,.u,.u,.u],heap:=[],rs:=false }
  have tstep:∀ j,j < a.length → run E1 GP a224l1 (T j) = run E1 GP a224l1 (T (j + 1)):=by
    intro i hi
    have hj:i < M.length:=by omega
    have hg:=h.cm.gc _ (List.getElem_mem hj)
    have hdo:=dim_of gb (h.key i hi hj)
    have b7:=good_b7 gb (by omega) heb (hg.ch hb hkb) (e2:=u) (Nat.le_refl _) (by omega) (by omega)
    have hbz:bz b M[i].2 = bnd26 b M[i].2:=by unfold bz; rw [hdo]; rfl
    rw [hdo,hbz,h.com i hi hj] at b7
    have f1:=fun H=>r26_edge free1 b7 H
    have hgb:=ga.bgc hea (List.getElem_mem hi)
    have f2:=fun H=>(h.cm.rapply ha hb hgb (by omega) free1 H).2
    have hga:=h.cm.app ha hb hgb (v:=ea + u + 7) (by omega)
    have f3:=fun H=>hga.same (by omega) hb H
    show run E1 GP a224l1 { vars:=_,heap:=_,rs:=_ } = run E1 GP a224l1 { vars:=_,heap:=_,rs:=_ }
    generalize appF (imgF M) a[i].b = y at *
    conv=>lhs; rw [a224l1_run]
    simp (maxSteps:=1000000) (disch:=first | omega | decide) only [si,sf,simprocAttr,a224b1,a224R,hi,hj,cA,mA,f1,f2,f3]
  have hl1:=loop_ind T _ a.length tstep rfl
  have he1:run E1 GP a224l1 (T a.length) = some (.exit 2,{ vars:=[.isl (a.map cA),.isl (b.map cA),.isl (M.map mA),.bool false,.int .i64 a.length,.u,.u,.int .i64 a.length,.bool false,.bool false,.u,.u,.bool false,.u],heap:=[],rs:=false }):=by
    show run E1 GP a224l1 { vars:=_,heap:=_,rs:=_ } = _
    rw [a224l1_run]
    simp (maxSteps:=1000000) (disch:=first | omega | decide) only [si,sf,simprocAttr,a224b1,a224R,Nat.lt_irrefl]
  rw [he1] at hl1
  have hl1:run E1 GP a224l1 { vars:=[.isl (a.map cA),.isl (b.map cA),.isl (M.map mA),.bool false,.int .i64 a.length,.u,.u,.int .i64 0,.bool false,.bool false,.u,.u,.u,.u],heap:=[],rs:=false } = _:=hl1
  rw [call_fun (free1 _ _ _ (by decide)) (f:=a224) rfl rfl]
  simp (maxSteps:=1000000) (disch:=first | omega | decide) only [si,sf,simprocAttr,a224,a224R,hprop,hMl,hl0,hl1]
end Tor
namespace Tor
open Go
variable {E:CallF} (hE:Free E)
include hE
theorem r5_same (R C:Nat) (hR:R < 2147483648) (hC:C < 2147483648) (A:List (List Int)) (sA:Sha R C A) (hf:∀ i,i < R → ∀ y ∈ A.getD i [],Fit y) (H:Heap) :
    call E GP 220 [MI R C A,MI R C A] H = some (.bool true,H,false):=by
  rw [call_fun (hE _ _ _ (by decide)) (f:=a220) rfl rfl]
  have hl:=rowsI_len A
  rw [sA.1] at hl
  let S:Nat → St:=fun i=>{ vars:=[MI R C A,MI R C A,.bool false,.int .i64 (i:Nat),.bool false,.u,.u,MI R C A,MI R C A],heap:=[],rs:=false }
  have hstep:∀ i,i < R → run E GP a220l0 (S i) = run E GP a220l0 (S (i + 1)):=by
    intro i hi
    have hg:=rowsI_get (A:=A) (i:=i) (by rw [sA.1]; exact hi)
    have hv:=fun H=>r5_samevec hE (A.getD i []) (A.getD i []) (hf i hi) (hf i hi) (by rw [sA.2 i hi]; omega) H
    simp only [decide_true] at hv
    show run E GP a220l0 { vars:=_,heap:=_,rs:=_ } = run E GP a220l0 { vars:=_,heap:=_,rs:=_ }
    unfold MI
    generalize rowA (A.getD i []) = r at *
    generalize rowsI A = W at *
    conv=>lhs; rw [a220l0_run]
    simp (maxSteps:=1000000) (disch:=first | omega | decide) only [si,sf,simprocAttr,a220b0,a220R,hi,hl,hg,hv]
  have hlp:=loop_ind S _ R hstep rfl
  have he:run E GP a220l0 (S R) = some (.exit 0,{ vars:=[MI R C A,MI R C A,.bool false,.int .i64 R,.bool false,.bool false,.u,MI R C A,MI R C A],heap:=[],rs:=false }):=by
    show run E GP a220l0 { vars:=_,heap:=_,rs:=_ } = _
    unfold MI
    generalize rowsI A = W at *
    rw [a220l0_run]
    simp (maxSteps:=1000000) (disch:=first | omega | decide) only [si,sf,simprocAttr,a220b0,a220R,hl,Nat.lt_irrefl]
  rw [he] at hlp
  have hlp:run E GP a220l0 { vars:=[MI R C A,MI R C A,.bool false,.int .i64 0,.bool false,.u,.u,MI R C A,MI R C A],heap:=[],rs:=false } = _:=hlp
  have hrr:=refs_rowsI A
  unfold MI at hlp ⊢
  generalize rowsI A = W at *
  simp (maxSteps:=1000000) (disch:=first | omega | decide) only [si,sf,simprocAttr,a220,a220R,hl,hlp,hrr]
theorem r5_validvec (r:List Int) (hr:r.length < 2147483648) (hf:∀ y ∈ r,Fit y) (H:Heap):call E GP 254 [.isl (rowA r)] H = some (.bool true,H,false):=by
  rw [call_fun (hE _ _ _ (by decide)) (f:=a254) rfl rfl]
  have hl:=rowA_len r
  let S:Nat → St:=fun i=>{ vars:=[.isl (rowA r),.bool false,.int .i64 (i:Nat),.u,.u],heap:=[],rs:=false }
  have hstep:∀ i,i < r.length → run E GP a254l0 (S i) = run E GP a254l0 (S (i + 1)):=by
    intro i hi
    have hg:=rowA_get hi
    have hy:Fit (r.getD i 0):=hf _ (by simp [List.getD,hi])
    have hv:=fun H=>r1_valid hE (r.getD i 0) H (by unfold Fit at hy; omega)
    show run E GP a254l0 { vars:=_,heap:=_,rs:=_ } = run E GP a254l0 { vars:=_,heap:=_,rs:=_ }
    generalize r.getD i 0 = y at *
    generalize rowA r = W at *
    conv=>lhs; rw [a254l0_run]
    simp (maxSteps:=1000000) (disch:=first | omega | decide) only [si,sf,simprocAttr,a254b0,a254R,hi,hl,hg,hv,Z_size]
  have hlp:=loop_ind S _ r.length hstep rfl
  have he:run E GP a254l0 (S r.length) = some (.exit 0,{ vars:=[.isl (rowA r),.bool false,.int .i64 r.length,.bool false,.u],heap:=[],rs:=false }):=by
    show run E GP a254l0 { vars:=_,heap:=_,rs:=_ } = _
    generalize rowA r = W at *
    rw [a254l0_run]
    simp (maxSteps:=1000000) (disch:=first | omega | decide) only [si,sf,simprocAttr,a254b0,a254R,hl,Nat.lt_irrefl]
  rw [he] at hlp
  have hlp:run E GP a254l0 { vars:=[.isl (rowA r),.bool false,.int .i64 0,.u,.u],heap:=[],rs:=false } = _:=hlp
  have hrr:=refs_rowA r
  generalize rowA r = W at *
  simp (maxSteps:=1000000) (disch:=first | omega | decide) only [si,sf,simprocAttr,a254,a254R,hl,hlp,hrr]
theorem r5_valid (R C:Nat) (hR:R < 2147483648) (hC:C < 2147483648) (A:List (List Int)) (sA:Sha R C A) (hf:∀ i,i < R → ∀ y ∈ A.getD i [],Fit y) (H:Heap) :
    call E GP 245 [MI R C A] H = some (.bool true,H,false):=by
  rw [call_fun (hE _ _ _ (by decide)) (f:=a245) rfl rfl]
  have hl:=rowsI_len A
  rw [sA.1] at hl
  let S:Nat → St:=fun i=>{ vars:=[MI R C A,.bool false,.int .i64 (i:Nat),.bool false,.u,.u,MI R C A],heap:=[],rs:=false }
  have hstep:∀ i,i < R → run E GP a245l0 (S i) = run E GP a245l0 (S (i + 1)):=by
    intro i hi
    have hg:=rowsI_get (A:=A) (i:=i) (by rw [sA.1]; exact hi)
    have hv:=fun H=>r5_validvec hE (A.getD i []) (by rw [sA.2 i hi]; omega) (hf i hi) H
    have hrl:(rowA (A.getD i [])).length = C:=by rw [rowA_len,sA.2 i hi]
    show run E GP a245l0 { vars:=_,heap:=_,rs:=_ } = run E GP a245l0 { vars:=_,heap:=_,rs:=_ }
    unfold MI
    generalize rowA (A.getD i []) = r at *
    generalize rowsI A = W at *
    conv=>lhs; rw [a245l0_run]
    simp (maxSteps:=1000000) (disch:=first | omega | decide) only [si,sf,simprocAttr,a245b0,a245R,hi,hl,hg,hv,hrl]
  have hlp:=loop_ind S _ R hstep rfl
  have he:run E GP a245l0 (S R) = some (.exit 0,{ vars:=[MI R C A,.bool false,.int .i64 R,.bool false,.bool false,.u,MI R C A],heap:=[],rs:=false }):=by
    show run E GP a245l0 { vars:=_,heap:=_,rs:=_ } = _
    unfold MI
    generalize rowsI A = W at *
    rw [a245l0_run]
    simp (maxSteps:=1000000) (disch:=first | omega | decide) only [si,sf,simprocAttr,a245b0,a245R,hl,Nat.lt_irrefl]
  rw [he] at hlp
  have hlp:run E GP a245l0 { vars:=[MI R C A,.bool false,.int .i64 0,.bool false,.u,.u,MI R C A],heap:=[],rs:=false } = _:=hlp
  have hrr:=refs_rowsI A
  have n1:¬ ((R:Int) < 0):=by omega
  have n2:¬ ((C:Int) < 0):=by omega
  unfold MI at hlp ⊢
  generalize rowsI A = W at *
  simp (maxSteps:=1000000) (disch:=first | omega | decide) only [si,sf,simprocAttr,a245,a245R,hl,hlp,hrr,n1,n2]
theorem r5_sized (R C:Nat) (hR:R < 2147483648) (hC:C < 2147483648) (A:List (List Int)) (sA:Sha R C A) (hf:∀ i,i < R → ∀ y ∈ A.getD i [],Fit y) (H:Heap) :
    call E GP 230 [MI R C A,.int .i64 R,.int .i64 C] H = some (.bool true,H,false):=by
  rw [call_fun (hE _ _ _ (by decide)) (f:=a230) rfl rfl]
  have hv:=fun H=>r5_valid hE R C hR hC A sA hf H
  have hrr:=refs_rowsI A
  unfold MI at hv ⊢
  generalize rowsI A = W at *
  simp (maxSteps:=1000000) (disch:=first | omega | decide) only [si,sf,simprocAttr,a230,a230R,hv,hrr]
end Tor
namespace Tor
open Go
theorem sumN_bdN {n N:Nat} {f:Nat → Int} (h:∀ k,k < n → (f k).natAbs ≤ N):(sumN n f).natAbs ≤ n * N:=by
  induction n with
  | zero=>exact Nat.zero_le _
  | succ n ih =>
    have h1:=ih fun k hk=>h k (by omega)
    have h2:=h n (by omega)
    have h3:(n + 1) * N = n * N + N:=Nat.succ_mul _ _
    show (sumN n f + f n).natAbs ≤ _
    omega
theorem mulOk_of {K:Nat} {A B:List (List Int)} {p q:Nat} (hA:Bm A (2 ^ p)) (hB:Bm B (2 ^ q)) (hK:K ≤ 11) (h:p + q ≤ 14000000000) (i j:Nat):MulOk K A B i j:=by
  intro n hn
  have ht:∀ k,(at2 A i k * at2 B k j).natAbs ≤ 2 ^ (p + q):=fun k=>by
    rw [Int.natAbs_mul,Nat.pow_add]; exact Nat.mul_le_mul (hA i k) (hB k j)
  have hs:=sumN_bdN (n:=n) (f:=fun k=>at2 A i k * at2 B k j) fun k _=>ht k
  have hb:2 ^ (p + q) * n < BIG:=mul_big (j:=4) (Nat.le_refl _) (by omega) (by omega)
  rw [Nat.mul_comm] at hb
  exact ⟨fit_big (by omega),fit_big (Nat.lt_of_le_of_lt (ht n) (pow5_big (by omega))),fit_big (Nat.lt_of_le_of_lt (hA i n) (pow5_big (by omega))),fit_big (Nat.lt_of_le_of_lt (hB n j) (pow5_big (by omega)))⟩
theorem sum_look (f:Int → Int) {ids:List Int} (hn:ids.Nodup):∀ {x:List (Int × Int)} {b:Option Int},Canon b x → (∀ p ∈ x,p.1 ∈ ids) → sumN ids.length (fun t=>lookL (ids.getD t 0) x * f (ids.getD t 0)) = lin f x
  | [],_,_,_=>by
    show sumN ids.length (fun t=>0 * f (ids.getD t 0)) = 0
    exact sumN_zero fun k _=>Int.zero_mul _
  | (j,v) :: r,b,hc,hk=>by
    obtain ⟨i,hi,hij⟩:=List.getElem_of_mem (hk (j,v) (.head _))
    have hij:ids[i] = j:=hij
    have ih:=sum_look f hn hc.2.2 (fun p hp=>hk p (.tail _ hp))
    have hj0:lookL j r = 0:=by
      refine look_out fun hm=>?_
      obtain ⟨p,hp,e⟩:=List.mem_map.1 hm
      have:=(canon_lt r (some j) hc.2.2).1 p hp j rfl
      omega
    have e:=sumN_one (n:=ids.length) (i:=i) (f:=fun t=>lookL (ids.getD t 0) r * f (ids.getD t 0)) (g:=fun t=>lookL (ids.getD t 0) ((j,v) :: r) * f (ids.getD t 0)) hi (fun t ht hne=>by
      have hg:ids.getD t 0 = ids[t]:=by simp [List.getD,ht]
      have:ids[t] ≠ j:=fun e=>by
        rw [← hij] at e
        rcases Nat.lt_or_gt_of_ne hne with q | q
        · exact (List.pairwise_iff_getElem.1 hn) t i ht hi q e
        · exact (List.pairwise_iff_getElem.1 hn) i t hi ht q e.symm
      simp only [hg,lookL]
      rw [if_neg this])
    have hgi:ids.getD i 0 = j:=by simp [List.getD,hi,hij]
    rw [e,ih,hgi,hj0]
    simp only [lookL,if_pos,lin]
    omega
section
variable {a b:List Cel} {u:Nat} {M:Mp}
theorem matF_at (h:CM a b u M) (k:Int) {i t:Nat} (hi:i < (cellsC a k).length) (ht:t < (cellsC b k).length):at2 (matF a b M k) i t = lookL ((cellsC b k).getD t 0) (imgF M ((cellsC a k).getD i 0)):=by
  unfold at2 matF vecV
  simp only [List.getD,List.getElem?_map,List.getElem?_eq_getElem hi,Option.map_some,Option.getD_some,List.getElem?_eq_getElem ht]
  exact last_look (h.img _).can _
theorem matF_bm (h:CM a b u M) (k:Int):Bm (matF a b M k) (2 ^ u):=by
  intro i t
  have hs:=matF_sha a b M k
  by_cases hi:i < (cellsC a k).length
  · by_cases ht:t < (cellsC b k).length
    · rw [matF_at h k hi ht]; exact bd_look (h.img _).bd _
    · rw [at2_out hs (.inr (by omega))]; exact Nat.zero_le _
  · rw [at2_out hs (.inl (by omega))]; exact Nat.zero_le _
end
theorem mat_ext2 {R C:Nat} {A B:List (List Int)} (h1:Sha R C A) (h2:Sha R C B) (h:∀ i j,i < R → j < C → at2 A i j = at2 B i j):A = B:=by
  apply List.ext_getElem (by rw [h1.1,h2.1])
  intro i p q
  have hi:i < R:=by rw [← h1.1]; exact p
  have w1:=h1.2 i hi
  have w2:=h2.2 i hi
  have g1:A.getD i [] = A[i]:=by simp only [List.getD,List.getElem?_eq_getElem p,Option.getD_some]
  have g2:B.getD i [] = B[i]:=by simp only [List.getD,List.getElem?_eq_getElem q,Option.getD_some]
  have hr:=fun j=>h i j hi
  unfold at2 at hr
  rw [g1] at w1 hr
  rw [g2] at w2 hr
  apply List.ext_getElem (by rw [w1,w2])
  intro j p2 q2
  have:=hr j (by omega)
  simpa only [List.getD,List.getElem?_eq_getElem p2,List.getElem?_eq_getElem q2,Option.getD_some] using this
theorem mulMat_sha (K:Nat) (A B:List (List Int)) (R C:Nat):Sha R C (mulMat K A B R C):=⟨by simp [mulMat],fun i hi=>by simp [mulMat,mulRow,List.getD,hi]⟩
theorem mulMat_at {K:Nat} {A B:List (List Int)} {R C i j:Nat} (hi:i < R) (hj:j < C):at2 (mulMat K A B R C) i j = mulE K A B i j:=by
  simp [at2,mulMat,mulRow,List.getD,hi,hj]
theorem mat_comp {a b c:List Cel} {sa sb:GS} {ma mb u v:Nat} {M N:Mp} (h:VM a b u M) (g:CM b c v N) (hcm:CM a c (u + v + 7) (compM M N)) (ga:Good a sa ma) (gb:Good b sb mb) (k:Int) :
    mulMat (cellsC b k).length (matF a b M k) (matF b c N k) (cellsC a k).length (cellsC c k).length = matF a c (compM M N) k:=by
  have hna:=idsC_nodup ga.ids
  refine mat_ext2 (mulMat_sha _ _ _ _ _) (matF_sha a c (compM M N) k) fun i j hi hj=>?_
  obtain ⟨y,hy,hd,hid⟩:=cells_mem.1 (List.getElem_mem hi)
  have hgi:(cellsC a k).getD i 0 = y.id:=by simp [List.getD,hi,hid]
  have hky:=h.keyAt hna hy
  rw [hd] at hky
  rw [mulMat_at hi hj,matF_at hcm k hi hj,hgi,comp_img,app_look (imgF N) (fun id=>(g.img id).can),← sum_look _ (cells_nodup gb.ids _) (h.cm.img y.id).can hky]
  exact sumN_congr fun t ht=>by rw [matF_at h.cm k hi ht,matF_at g k ht hj,hgi]
end Tor
namespace Tor
open Go
theorem VM.smM {a b:List Cel} {u:Nat} {M:Mp} (h:CM a b u M) (hb:(idsC b).length ≤ 11) (hu:u ≤ 14000000000):SmM M:=fun p hp=>⟨(h.gc p hp).sm (by omega),by have:=(h.gc p hp).len; omega⟩
end Tor
namespace Tor
open Go
def cst32 (x ar d A B M P Q MP PQ T:AV) (k:Int) (w:AV):St :=
  { vars:=[x,ar,d,.ptr 0 0 [],.bool false,.bool true,A,B,M,P,Q,MP,.int .i64 0,PQ,.int .i64 0,T,.int .i64 0,T,.int .i64 0,M,.int .i64 0,M,.int .i64 0,.int .i64 k,.u,.u,.u,.u,.u,.bool false,.bool false,w,.u,x,.u,.u,.u],heap:=[.var ar],rs:=false }
theorem comp_step {a c:List Cel} {sa sc:GS} {ma mc ea ec u:Nat} {M P:Mp} (h:VM a c u M) (g:VM c c u P) (ga:Good a sa ma) (gc:Good c sc mc) (hma:ma ≤ 11) (hmc:mc ≤ 11) (hea:∀ k,sa.b k ≤ ea) (hec:∀ k,sc.b k ≤ ec) (hec1:ec ≤ 1000000000) (hu:ea + ec + (u + u + 7) ≤ 9000000000)
    (hmp:VM a c (u + u + 7) (compM M P)) (k:Nat) (hk:k ≤ 3) (x ar d Q PQ T:AV) (hx:∀ n,x.under n = true) (har:∀ n,ar.under n = true) (hd:∀ n,d.under n = true) (hQ:∀ n,Q.under n = true) (hPQ:∀ n,PQ.under n = true) (hT:∀ n,T.under n = true) :
    run E2 GP a232l0 (cst32 x ar d (.isl (a.map cA)) (.isl (c.map cA)) (.isl (M.map mA)) (.isl (P.map mA)) Q (.isl ((compM M P).map mA)) PQ T k .u) =
    run E2 GP a232l0 (cst32 x ar d (.isl (a.map cA)) (.isl (c.map cA)) (.isl (M.map mA)) (.isl (P.map mA)) Q (.isl ((compM M P).map mA)) PQ T (k + 1) .u):=by
  have hal:=ga.len
  have hcl:=gc.len
  have c1:=cellsC_len a k
  have c2:=cellsC_len c k
  have f1:=fun H=>i_matrix h ga gc hma hmc hea hec (by omega) k H
  have f2:=fun H=>i_matrix g gc gc hmc hmc hec hec (by omega) k H
  have f3:=fun H=>i_matrix hmp ga gc hma hmc hea hec (by omega) k H
  have s1:=matF_sha a c M k
  have s2:=matF_sha c c P k
  have s3:=matF_sha a c (compM M P) k
  have m1:=matF_bm h.cm k
  have m2:=matF_bm g.cm k
  have m3:=matF_bm hmp.cm k
  have f4:=fun H=>up (r25_cells free1 a k (by omega) H)
  have f5:=fun H=>up (r25_cells free1 c k (by omega) H)
  have f6:=fun H=>up (r5_sized free1 _ _ (by omega) (by omega) _ s1 (bm_fit s1 (pow5_big (by omega)) m1) H)
  have f7:=fun H=>up (r5_sized free1 _ _ (by omega) (by omega) _ s2 (bm_fit s2 (pow5_big (by omega)) m2) H)
  have f8:=fun H=>up (r5_product free1 _ _ _ (by omega) (by omega) (by omega) _ _ s1 s2 (fun i j _ _=>mulOk_of m1 m2 (by omega) (by omega) i j) H)
  rw [mat_comp h g.cm hmp.cm ga gc k] at f8
  have f9:=fun H=>up (r5_same free1 _ _ (by omega) (by omega) _ s3 (bm_fit s3 (pow5_big (by omega)) m3) H)
  have k3:(k:Int) ≤ 3:=by omega
  have r1:=refs_rowsI (matF a c M k)
  have r2:=refs_rowsI (matF c c P k)
  have r3:=refs_rowsI (matF a c (compM M P) k)
  unfold cst32
  unfold MI at f1 f2 f3 f6 f7 f8 f9
  generalize rowsI (matF a c M k) = R1 at *
  generalize rowsI (matF c c P k) = R2 at *
  generalize rowsI (matF a c (compM M P) k) = R3 at *
  generalize compM M P = MP at *
  generalize cellsC a k = ids at *
  generalize cellsC c k = jds at *
  conv=>lhs; rw [a232l0_run]
  simp (maxSteps:=1000000) (disch:=first | omega | decide) only [si,sf,simprocAttr,a232b0,a232R,k3,hx,har,hd,hQ,hPQ,hT,f1,f2,f3,f4,f5,f6,f7,f8,f9]
theorem hom_full {c:List Cel} {s:GS} {m e:Nat} (g:Good c s m) (hm:m ≤ 11) (he:∀ k,s.b k ≤ e) (hee:e ≤ 1000000000) (l:List Int) {N:Int} (hN:-3 ≤ N ∧ N ≤ 3):VM c c (e + 170) (hom c l N):=by
  have h:=hom_vm g hm he hee l hN (n:=c.length) (Nat.le_refl _) (s2:=s) (m2:=m) (by rw [List.take_length]; exact g)
  rwa [List.take_length,List.take_of_length_le (by simp [hom])] at h
theorem composes_true (k:Nat) (hk:k < 256) (ds:List Dg) (hds:∀ x ∈ ds,x.ok) (hdl:ds.length ≤ 9223372036854775807) (a:Nat) (ha:a < 256) (N:Int) (hN:-128 ≤ N ∧ N ≤ 127) (l:List Int) (hl:l.length ≤ 9223372036854775807) (hl8:∀ x ∈ l,-128 ≤ x ∧ x ≤ 127)
    (p q:Int) (hp:-128 ≤ p ∧ p ≤ 127) (hq:-128 ≤ q ∧ q ≤ 127) (d1:List Int) (l1:d1.length ≤ 9223372036854775807) (h1:∀ x ∈ d1,-128 ≤ x ∧ x ≤ 127) (H:Heap) :
    call E2 GP 232 [rawA k ds a N l,.agg [.int .i8 p,.int .i8 q],.isl (d1.map bA)] H = some (.bool true,H,false):=by
  obtain ⟨c,s,m,n,s2,m2,g,hm,hf,hn,g2,hm2,hf2,hmade⟩:=r29_made k hk ds hds hdl a ha N hN l hl hl8
  obtain ⟨e,e1,e2⟩:=fin_e hf
  obtain ⟨ea,ea1,ea2⟩:=fin_e hf2
  have t1:=Int.tmod_lt_of_pos N (show (0:Int) < 4 by omega)
  have t2:=Int.lt_tmod_of_pos N (show (0:Int) < 4 by omega)
  have hM:=hom_vm g hm e2 e1 l (N:=N.tmod 4) (by omega) hn g2
  have p1:=Int.tmod_lt_of_pos p (show (0:Int) < 3 by omega)
  have p2:=Int.lt_tmod_of_pos p (show (0:Int) < 3 by omega)
  have q1:=Int.tmod_lt_of_pos q (show (0:Int) < 3 by omega)
  have q2:=Int.lt_tmod_of_pos q (show (0:Int) < 3 by omega)
  have f1:=fun H=>up (r29_hom g hm e2 e1 d1 l1 h1 (n:=p.tmod 3) (by omega) H)
  have f2:=fun H=>up (r29_hom g hm e2 e1 l hl hl8 (n:=q.tmod 3) (by omega) H)
  have hP:=hom_full g hm e2 e1 d1 (N:=p.tmod 3) (by omega)
  have hQ:=hom_full g hm e2 e1 l (N:=q.tmod 3) (by omega)
  have hIa:=incl_vm g2 g2 fun y hy=>hy
  have hIc:=incl_vm g g fun y hy=>hy
  have hb:=g.len11 hm
  have hal:=g2.len
  have hbl:=g.len
  have hkb:=g.ids64 hm
  have ha11:=g2.len11 hm2
  have hna:=idsC_nodup g2.ids
  have hnb:=idsC_nodup g.ids
  have hmade:=fun H=>up (hmade H)
  generalize (hom c l (N.tmod 4)).take n = M at *
  generalize c.take n = a0 at *
  generalize hom c d1 (p.tmod 3) = P at *
  generalize hom c l (q.tmod 3) = Q at *
  have hMP:=hM.comp hP hna hnb hb hb g g (w:=(e + 170) + (e + 170) + 7) (Nat.le_refl _)
  have hPQ:=hP.comp hQ hnb hnb hb hb g g (w:=(e + 170) + (e + 170) + 7) (Nat.le_refl _)
  have hT:=hMP.comp hQ hna hnb hb hb g g (w:=(e + 170) + (e + 170) + 7 + (e + 170) + 7) (Nat.le_refl _)
  have f3:=fun H=>hM.cm.compose hP.cm hnb (by omega) hb hb hkb (by omega) H
  have f4:=fun H=>hP.cm.compose hQ.cm hnb (by omega) hb hb hkb (by omega) H
  have f5:=fun H=>up (r29_valid hMP g2 g hm2 hm ea2 e2 (by omega) H)
  have f6:=fun H=>up (r29_valid hPQ g g hm hm e2 e2 (by omega) H)
  have f7:=fun H=>hMP.cm.compose hQ.cm hnb (by omega) hb hb hkb (by omega) H
  have f8:=fun H=>hM.cm.compose hPQ.cm hnb (by omega) hb hb hkb (by omega) H
  rw [← comp_assoc] at f8
  have f9:=fun H=>hM.cm.compose hIc.cm hnb (by omega) hb hb hkb (by omega) H
  rw [comp_incl hM.cm hnb] at f9
  have f10:=fun H=>hIa.cm.compose hM.cm hna (by omega) ha11 hb hkb (by omega) H
  rw [incl_comp hM.cm hna] at f10
  have f11:=fun H=>up (i_inclusion free1 c (by omega) (fun H=>i_of free1 1 H (by omega) (by omega)) H)
  have f12:=fun H=>up (i_inclusion free1 a0 (by omega) (fun H=>i_of free1 1 H (by omega) (by omega)) H)
  have sT:=VM.smM hT.cm hb (by omega)
  have sM:=VM.smM hM.cm hb (by omega)
  have f13:=fun H=>up (r29_same free1 _ _ sT sT (by have:=hT.cm.len; omega) H)
  have f14:=fun H=>up (r29_same free1 M M sM sM (by have:=hM.cm.len; omega) H)
  simp only [decide_true] at f13 f14
  have hrd:=refs_gA ds
  have hrl:=refs_bA l
  have stp:=fun (k':Nat) (hk':k' ≤ 3)=>comp_step hM hP g2 g hm2 hm ea2 e2 e1 (by omega) hMP k' hk' (rawA k ds a N l) (.agg [.int .i8 p,.int .i8 q]) (.isl (d1.map bA)) (.isl (Q.map mA)) (.isl ((compM P Q).map mA)) (.isl ((compM (compM M P) Q).map mA))
    (fun n=>by simp [rawA,AV.under,AV.unders]) (fun n=>by simp [AV.under,AV.unders]) (fun n=>by unfold AV.under; rfl) (fun n=>by unfold AV.under; rfl) (fun n=>by unfold AV.under; rfl) (fun n=>by unfold AV.under; rfl)
  generalize hT0:compM (compM M P) Q = T at *
  generalize compM P Q = PQ at *
  generalize compM M P = MP at *
  have fin:run E2 GP a232l0 (cst32 (rawA k ds a N l) (.agg [.int .i8 p,.int .i8 q]) (.isl (d1.map bA)) (.isl (a0.map cA)) (.isl (c.map cA)) (.isl (M.map mA)) (.isl (P.map mA)) (.isl (Q.map mA)) (.isl (MP.map mA)) (.isl (PQ.map mA)) (.isl (T.map mA)) 4 .u) =
      some (.exit 0,cst32 (rawA k ds a N l) (.agg [.int .i8 p,.int .i8 q]) (.isl (d1.map bA)) (.isl (a0.map cA)) (.isl (c.map cA)) (.isl (M.map mA)) (.isl (P.map mA)) (.isl (Q.map mA)) (.isl (MP.map mA)) (.isl (PQ.map mA)) (.isl (T.map mA)) 4 (.bool false)):=by
    unfold cst32
    rw [a232l0_run]
    have k4:¬ (4:Int) ≤ 3:=by omega
    simp (maxSteps:=1000000) (disch:=first | omega | decide) only [si,sf,simprocAttr,a232b0,a232R,k4]
  have L0:=((stp 0 (by omega)).trans ((stp 1 (by omega)).trans ((stp 2 (by omega)).trans (stp 3 (by omega))))).trans fin
  unfold cst32 rawA at L0
  simp only [Int.ofNat_zero] at L0
  unfold rawA at hmade ⊢
  have hsan:=san29
  have wp:IntKind.i64.wrap (p.tmod 3) = p.tmod 3:=i64w (by omega)
  have wq:IntKind.i64.wrap (q.tmod 3) = q.tmod 3:=i64w (by omega)
  rw [call_fun (E2_none (by decide) (by decide)) (f:=a232) rfl rfl]
  simp (maxSteps:=1000000) (disch:=first | omega | decide) only [si,sf,simprocAttr,doBox,a232,a232R,hmade,hsan,hrd,hrl,wp,wq,f1,f2,f3,f4,f5,f6,f7,f8,f9,f10,f11,f12,f13,f14,L0]
theorem law232 (xs:List AV) (h:Fitss [rS,.agg [.int .i8,.int .i8],.sl (.int .i8)] xs):call E2 GP 232 xs [] = some (.bool true,[],false):=by
  simp only [Fitss] at h
  obtain ⟨x,r,rfl,hx,y,s,rfl,hy,z,t,rfl,hz,rfl⟩:=h
  obtain ⟨k,ds,a,N,l,rfl,hk,hds,hdl,ha,hN,hll,hl8⟩:=fits_rS hx
  simp only [Fits,Fitss] at hy hz
  obtain ⟨l2,rfl,y1,r1,rfl,⟨p,rfl,hp⟩,y2,r2,rfl,⟨q,rfl,hq⟩,rfl⟩:=hy
  obtain ⟨l1,rfl,hl1,hz⟩:=hz
  obtain ⟨d,rfl,hd⟩:=fits_list (fun y hy=>fits_bA hy) l1 hz
  exact composes_true k hk ds hds hdl a ha N hN l hll hl8 p q hp hq d (by simpa [maxLen] using hl1) hd []
end Tor
namespace Tor
open Go Go.RowKit Go.ChangeShapes
def shpAll (P:Program):List TypeId → List Shp → Bool
  | [],[]=>true
  | t :: ts,s :: ss=>shpOk P t s && shpAll P ts ss
  | _,_=>false
theorem open_all {P:Program} {ι:Nat → FuncId} {w:World} {H:Type} {enc:TypeId × Value → H} {base b0:Nat} {spare:Nat → Bool} {held:Bool} {r:Reach} :
    ∀ (ss:List Shp) (ts:List TypeId) (vs:List Value) (ds:List (DataW H)) (ps:List MemPlace),shpAll P ts ss = true → (∀ (j:Nat) t v,ts[j]? = some t → vs[j]? = some v → Value.okWide P w r b0 t v) →
      DataW.TrodAll enc P w base spare held ts vs ds ps → ∃ xs,Fitss ss xs ∧ Rvs (Cx.init ι w) xs vs
  | [],[],vs,ds,ps,_,_,h=>by
    obtain ⟨rfl,_,_⟩:=trodAll_nil h
    exact ⟨[],rfl,.nil⟩
  | s :: ss,t :: ts,vs,ds,ps,hs,hv,h=>by
    simp only [shpAll,Bool.and_eq_true] at hs
    obtain ⟨v,vs',d,ds',p,q,rfl,rfl,rfl,h1,h2⟩:=trodAll_cons h
    obtain ⟨y,y1,y2⟩:=open_arg (ι:=ι) hs.1 (hv 0 t v rfl rfl) h1
    obtain ⟨xs,x1,x2⟩:=open_all ss ts vs' ds' q hs.2 (fun j t v ht hv'=>hv (j + 1) t v (by simpa using ht) (by simpa using hv')) h2
    exact ⟨y :: xs,by simp only [Fitss]; exact ⟨y,xs,rfl,y1,x1⟩,.cons y2 x2⟩
  | [],_ :: _,_,_,_,hs,_,_=>by cases hs
  | _ :: _,[],_,_,_,hs,_,_=>by cases hs
def rowed (P:Program) (t:TypeId):Bool:=P.readableRec t && decide (t < P.types.size)
theorem keep_all {P:Program} {H:Type} {enc:TypeId × Value → H} (hl:laidOutB P = true) {W W':World} (hb:Below W.heap.size W W') :
    ∀ (ts:List TypeId) (vs:List Value) (ds:List (DataW H)) (ps:List MemPlace),ts.all (rowed P) = true → (∀ x ∈ ps,x.block < W.heap.size) → DataW.TrodAll enc P W 0 (fun _=>true) true ts vs ds ps →
      DataW.TrodAll enc P W' 0 (fun b=>decide (b < W.heap.size)) true ts vs ds ps
  | [],vs,ds,ps,_,_,h=>by
    obtain ⟨rfl,rfl,rfl⟩:=trodAll_nil h
    exact trodAll_mk0
  | t :: ts,vs,ds,ps,ht,hp,h=>by
    simp only [List.all_cons,Bool.and_eq_true,rowed,decide_eq_true_eq] at ht
    obtain ⟨v,vs',d,ds',p,q,rfl,rfl,rfl,h1,h2⟩:=trodAll_cons h
    exact trodAll_cons_mk (Below.trod hl ht.1.1 ht.1.2 h1 hb fun x hx=>hp x (List.mem_append.2 (.inl hx)))
      (keep_all hl hb ts vs' ds' q (by simpa [rowed] using ht.2) (fun x hx=>hp x (List.mem_append.2 (.inr hx))) h2)
theorem places_lt {P:Program} {H:Type} {enc:TypeId × Value → H} {W:World} {ts:List TypeId} {vs:List Value} {ds:List (DataW H)} {ps:List MemPlace} {base:Nat} {spare:Nat → Bool} {held:Bool}
    (h:DataW.TrodAll enc P W base spare held ts vs ds ps):∀ x ∈ ps,x.block < W.heap.size:=h.lt
end Tor
