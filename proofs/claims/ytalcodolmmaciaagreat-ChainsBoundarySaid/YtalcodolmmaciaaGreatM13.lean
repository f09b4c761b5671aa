/-
  A part of the proof: an abstract machine for the program, its soundness, and what the functions compute (Law14, E1, Frame).
  Conditions: none.
-/
import Derived.Test.YtalcodolmmaciaaGreatM06
import Derived.Test.YtalcodolmmaciaaGreatM12
import Derived.Shelf.SlIterI.Sorted
import Derived.Carry
import Derived.ChangeShapes
set_option linter.unusedSectionVars false
set_option linter.unusedVariables false
set_option linter.unusedSimpArgs false
set_option linter.defProp false
namespace Tor
open Go
theorem sumN_bd {N : Nat} : ∀ (n : Nat) (f : Nat → Int), (∀ k, k < n → (f k).natAbs ≤ N) → (sumN n f).natAbs ≤ n * N
  | 0, f, h => by simp [sumN]
  | n + 1, f, h => by
    have h1 := sumN_bd n f fun k hk => h k (by omega)
    have h2 := h n (by omega)
    rw [Nat.succ_mul]
    simp only [sumN]; omega
theorem row_facts {c : List Cel} {s : GS} {m : Nat} (g : Good c s m) (hm : m ≤ 11) (hf : s.fin = true) (k : Nat) (hk : k ≤ 3) (r : List Int) (hr : r.length = (cellsC c k).length) (hrb : ∀ y ∈ r, y.natAbs ≤ 9) :
    ∃ w : List Int, ∃ C : Nat, (∀ H, call E1 GP 8 [.isl (c.map cA), .int .i64 ((k : Int) - 1), .isl ((bnd26 c (chR (cellsC c k) r)).map fA)] H = some (.tup [.isl (rowA w), .int .i64 0], H, false)) ∧
      (∀ H, call E1 GP 18 [.isl (c.map cA), .int .i64 k, .isl ((chR (cellsC c k) r).map fA)] H = some (.isl (rowA r), H, false)) ∧
      (∀ H, call E1 GP 19 [.isl (c.map cA), .int .i64 k] H = some (MI r.length C (bndC c k), H, false)) ∧
      (∀ H, call E1 GP 20 [.isl (rowA r), MI r.length C (bndC c k)] H = some (.isl (rowA w), H, false)) ∧
      (∀ H, call E1 GP 13 [.isl (rowA w), .isl (rowA w)] H = some (.bool true, H, false)) := by
  obtain ⟨e, e1, e2⟩ := fin_e hf
  have hlen := g.len
  have w1 : IntKind.i64.wrap ((k : Int) - 1) = (k : Int) - 1 := i64w (by omega)
  have lk := cellsC_len c k
  have lk1 := cellsC_len c ((k : Int) - 1)
  have hks := chR_keys (cellsC c k) r
  have hcl := chR_len (cellsC c k) r
  have cx : Ch 9 11 (chR (cellsC c k) r) := ⟨chR_canon _ _, chR_bd (cells_nodup g.ids k) hrb, by omega, fun p hp => key_in g (by omega) (hks p hp)⟩
  obtain ⟨_, _, _, _, cd⟩ := good_bnd g (by omega) e2 cx (e2 := 4) (by decide) (by omega) (by omega)
  have zx : (dim26 c (chR (cellsC c k) r)).2 = 0 := by rw [dim_of g hks]
  have bzx : bz c (chR (cellsC c k) r) = bnd26 c (chR (cellsC c k) r) := by unfold bz; rw [if_pos zx]
  rw [bzx] at cd
  have hkd := bnd_down g hks
  have ldd := cd.len
  have v8 := fun H => c_vector free1 c ((k : Int) - 1) (bnd26 c (chR (cellsC c k) r)) g.ids (by omega) (by omega) H
  have ev : vec26 c ((k : Int) - 1) (bnd26 c (chR (cellsC c k) r)) = (vecV c ((k : Int) - 1) (bnd26 c (chR (cellsC c k) r)), 0) := by
    unfold vec26
    rw [dim_of g hkd, if_neg (by simp), if_neg (fun h => by
      obtain ⟨h1, h2⟩ := h
      simp only at h2
      rw [if_neg h1] at h2; exact h2 rfl)]
  rw [ev] at v8
  have v18 := fun H => r26_row free1 c k (chR (cellsC c k) r) (by omega) (by omega) H
  rw [vec_chR g k r hr] at v18
  have hbl : ∀ x ∈ c, x.b.length < 2147483648 := fun x hx => by have := g.bl x hx; omega
  have v19 := fun H => r25_boundary free1 c (by omega) hbl k H
  have shp := shp_bnd c k
  rw [w1, ← hr] at v19 shp
  have hbm := bnd_bm g k hk
  have hat : ∀ n, (at2 [r] 0 n).natAbs ≤ 9 := fun n => by
    unfold at2
    by_cases h : n < r.length
    · have : r[n] ∈ r := List.getElem_mem h
      simpa [List.getD, h] using hrb _ this
    · simp [List.getD, List.getElem?_eq_none (Nat.le_of_not_lt h)]
  have hprod : ∀ n j, (at2 [r] 0 n * at2 (bndC c k) n j).natAbs ≤ 9 * 2 ^ e := fun n j => by
    rw [Int.natAbs_mul]
    exact Nat.mul_le_mul (hat n) (Nat.le_trans (hbm n j) (Nat.pow_le_pow_right (by decide) (e2 k)))
  have hsum : ∀ n j, n ≤ 11 → (sumN n fun k_1 => at2 [r] 0 k_1 * at2 (bndC c k) k_1 j).natAbs ≤ 2 ^ e * 99 := fun n j hn => by
    refine Nat.le_trans (sumN_bd (N := 9 * 2 ^ e) n _ fun t ht => hprod t j) ?_
    have : n * (9 * 2 ^ e) ≤ 11 * (9 * 2 ^ e) := Nat.mul_le_mul_right _ hn
    omega
  have hb99 : 2 ^ e * 99 < BIG := mul_big (j := 14) (Nat.le_refl _) (by decide) (by omega)
  have hB := big_le
  have hok : ∀ j, j < (cellsC c ((k : Int) - 1)).length → MulOk r.length [r] (bndC c k) 0 j := fun j hj n hn => by
    have h1 := hsum n j (by omega)
    have h2 := hprod n j
    have h3 := hat n
    have h4 := Nat.le_trans (hbm n j) (Nat.pow_le_pow_right (by decide) (e2 k))
    have q1 := big_len (m := (at2 [r] 0 n).natAbs) (by omega)
    have q2 := big_len (m := (at2 (bndC c k) n j).natAbs) (by omega)
    exact ⟨fit_big (by omega), fit_big (by omega), by omega, by omega⟩
  have v20 := fun H => r5_act free1 (cellsC c ((k : Int) - 1)).length (by omega) r (by omega) (bndC c k) shp hok H
  rw [row_mul g k hk r hr] at v20
  have hw : ∀ y ∈ vecV c ((k : Int) - 1) (bnd26 c (chR (cellsC c k) r)), Fit y := fun y hy => by
    rw [← row_mul g k hk r hr] at hy
    simp only [mulRow, List.mem_map] at hy
    obtain ⟨j, _, rfl⟩ := hy
    have := hsum r.length j (by omega)
    exact fit_big (by unfold mulE; omega)
  have v13 := fun H => r5_samevec free1 _ _ hw hw (by simp [vecV]; omega) H
  exact ⟨_, _, v8, v18, v19, v20, fun H => by rw [v13]; simp⟩
def bst (x l m c : AV) (k : Int) (n : AV) (w : AV) : St :=
  { vars := [x, l, m, .bool false, .bool true, c, .int .i64 k, .u, .u, .u, .u, .u, .u, .u, .u, .u, .u, .u, .u, .u, .u, .u, w, .u, .u, .u, .u, .u, x, n], heap := [], rs := false }
theorem comb_row {c : List Cel} {s : GS} {m : Nat} (g : Good c s m) (k : Int) (d : List Int) (hd8 : ∀ x ∈ d, -128 ≤ x ∧ x ≤ 127) :
    (fillRow d (cellsC c k).length 0).length = (cellsC c k).length ∧ ∀ y ∈ fillRow d (cellsC c k).length 0, y.natAbs ≤ 9 :=
  ⟨by simp [fillRow], fillRow_bd free1 d hd8 _ _⟩
theorem bnd14_step {c : List Cel} {s : GS} {m : Nat} (g : Good c s m) (hm : m ≤ 11) (hf : s.fin = true) (k : Nat) (hk : k ≤ 3) (d1 d2 : List Int) (l1 : d1.length ≤ 9223372036854775807) (l2 : d2.length ≤ 9223372036854775807) (h1 : ∀ x ∈ d1, -128 ≤ x ∧ x ≤ 127) (h2 : ∀ x ∈ d2, -128 ≤ x ∧ x ≤ 127) (n : Int) (hn : n.natAbs ≤ 18446744073709551616) (x : AV) (hx : x.under 0 = true) (hxk : x.known = true) (hxs : x.size = 2) (hxr : x.hasRef = false) :
    run E1 GP a122l0 (bst x (.isl (d1.map bA)) (.isl (d2.map bA)) (.isl (c.map cA)) k (Z n) .u) = run E1 GP a122l0 (bst x (.isl (d1.map bA)) (.isl (d2.map bA)) (.isl (c.map cA)) (k + 1) (Z n) .u) := by
  obtain ⟨a, b, ab, da, db, dab, v, ea, eb, eda, f16, fa6, fb6, fab6, va, vb, fd16, s10, aa6, aa11⟩ := dim_facts g hm hf k hk d1 d2 h1 h2 n hn
  have hlen := g.len
  have c1 := fun H => r26_combination free1 c k (by omega) d1 l1 h1 H
  have c2 := fun H => r26_combination free1 c k (by omega) d2 l2 h2 H
  rw [← ea] at c1
  rw [← eb] at c2
  obtain ⟨hr, hrb⟩ := comb_row g k d1 h1
  obtain ⟨w, C, v8, v18, v19, v20, v13⟩ := row_facts g hm hf k hk _ hr hrb
  obtain ⟨e1, _, hkk⟩ := comb_ch g hm k d1 h1
  rw [← e1, ← ea] at v8 v18
  rw [← eda] at v8
  have hd0 : k = 0 → da = [] := fun h => by
    rw [eda, ea]
    have hd := bnd_down g hkk
    cases hq : bnd26 c (comb26 c k d1) with
    | nil => rfl
    | cons p q =>
      rw [hq] at hd
      obtain ⟨y, hy, hyd, _⟩ := cells_mem.1 (hd p (.head _))
      have := g.dims y hy
      omega
  have w1 : IntKind.i64.wrap ((k : Int) - 1) = (k : Int) - 1 := i64w (by omega)
  have w2 : IntKind.i64.wrap ((k : Int) + 1) = (k : Int) + 1 := i64w (by omega)
  have k3 : (k : Int) ≤ 3 := by omega
  have hr1 := refs_bA d1
  have hr2 := refs_bA d2
  have hr3 := refs_cA c
  have hr4 := refs_fA a
  have hr5 := refs_fA b
  have hr6 := refs_fA da
  have hr7 := refs_fA db
  have hr8 := refs_fA dab
  have hr9 := refs_rowA w
  generalize fillRow d1 (cellsC c k).length 0 = r at *
  have hr10 := refs_rowA r
  generalize hMI : MI r.length C (bndC c k) = B at *
  unfold bst
  conv => lhs; rw [a122l0_run]
  by_cases hk0 : k = 0
  · have hda := hd0 hk0
    subst hk0
    rw [hda] at fa6 va fd16 aa6 aa11 v8
    simp only [List.map_nil, Int.ofNat_zero, show (0 : Int) - 1 = -1 from rfl, show (0 : Int) + 1 = 1 from rfl] at fa6 va fd16 aa6 aa11 v8 c1 c2 w1 w2 k3 ⊢
    simp (maxSteps := 4000000) only [si, simprocAttr, a122b0, a122R, c1, c2, f16, fa6, fb6, fab6, va, vb, fd16, s10, aa6, aa11, v8, hr1, hr2, hr3, hr4, hr5, hr6, hr7, hr8, hr9, hr10, k3, w1, w2, hx]
  · have hk1 : (k : Int) > 0 := by omega
    have hk2 : ¬ ((k : Int) = 0) := by omega
    simp (maxSteps := 4000000) only [si, simprocAttr, a122b0, a122R, c1, c2, f16, fa6, fb6, fab6, va, vb, fd16, s10, aa6, aa11, v8, v18, v19, v20, v13, hr1, hr2, hr3, hr4, hr5, hr6, hr7, hr8, hr9, hr10, hk1, hk2, k3, w1, w2, hx]
theorem bnd14_end (c : List Cel) (d1 d2 : List Int) (n : Int) (x : AV) (hx : x.under 0 = true) :
    run E1 GP a122l0 (bst x (.isl (d1.map bA)) (.isl (d2.map bA)) (.isl (c.map cA)) 4 (Z n) .u) = some (.exit 0, bst x (.isl (d1.map bA)) (.isl (d2.map bA)) (.isl (c.map cA)) 4 (Z n) (.bool false)) := by
  unfold bst
  rw [a122l0_run]
  have k4 : ¬ (4 : Int) ≤ 3 := by omega
  simp (maxSteps := 4000000) only [si, simprocAttr, a122b0, a122R, k4]
def bst2 (x l m c : AV) (i : Int) (n : AV) (w : AV) : St :=
  { vars := [x, l, m, .bool false, .bool true, c, .int .i64 4, .u, .u, .u, .u, .u, .u, .u, .u, .u, .u, .u, .u, .int .i64 i, .u, .u, .bool false, .u, .u, .u, w, .u, x, n], heap := [], rs := false }
theorem bnd14_cells {c : List Cel} {s : GS} {m : Nat} (g : Good c s m) (hm : m ≤ 11) (hf : s.fin = true) (d1 d2 : List Int) (n : Int) (x : AV) (hx : x.under 0 = true) : ∀ (t i : Nat), c.length = i + t →
    run E1 GP a122l1 (bst2 x (.isl (d1.map bA)) (.isl (d2.map bA)) (.isl (c.map cA)) i (Z n) .u) = some (.exit 2, bst2 x (.isl (d1.map bA)) (.isl (d2.map bA)) (.isl (c.map cA)) c.length (Z n) (.bool false)) := by
  intro t
  have hlen := g.len
  have hrc := refs_cA c
  have hr1 := refs_bA d1
  have hr2 := refs_bA d2
  induction t with
  | zero =>
    intro i h
    have hi : i = c.length := by omega
    subst hi
    unfold bst2
    rw [a122l1_run]
    have k1 : ¬ ((c.length : Int) < (c.length : Int)) := by omega
    simp (maxSteps := 4000000) only [si, simprocAttr, a122b1, a122R, k1, hrc]
  | succ t ih =>
    intro i h
    have hlt : i < c.length := by omega
    rw [← ih (i + 1) (by omega)]
    have g1 := cA_get hlt
    have hy : c[i] ∈ c := List.getElem_mem hlt
    obtain ⟨e, e1, e2⟩ := fin_e hf
    generalize hyc : c[i] = y at *
    have cx : Ch 1 1 [(y.id, (1 : Int))] := ⟨by simp [Canon], fun p hp => by
      rw [List.mem_singleton] at hp; subst hp; exact Nat.le_refl 1, by simp, fun p hp => by
      rw [List.mem_singleton] at hp; subst hp
      have := g.idr y hy
      simp [in64]; omega⟩
    have hk : ∀ p ∈ [(y.id, (1 : Int))], p.1 ∈ cellsC c y.dim := fun p hp => by
      rw [List.mem_singleton] at hp; subst hp
      exact cells_mem.2 ⟨y, hy, rfl, rfl⟩
    obtain ⟨b6, _, _, _, _⟩ := good_bnd g (by omega) e2 cx (e2 := 0) (by decide) (by omega) (by omega)
    have z0 : (dim26 c [(y.id, (1 : Int))]).2 = 0 := by rw [dim_of g hk]
    have bz0 : bz c [(y.id, (1 : Int))] = y.b := by unfold bz; rw [if_pos z0]; exact bnd_one g hy
    rw [bz0, z0] at b6
    have hbd := g.bd y hy
    have hd4 := g.dims y hy
    have hsm : ∀ p ∈ y.b, Sm p := fun p hp => sm_of (N := 2 ^ e) (by
      have := two_big (e := e + 1) (by omega)
      have h2 : 2 ^ e < 2 ^ (e + 1) := Nat.pow_lt_pow_right (by decide) (by omega)
      omega) (Nat.le_trans (hbd p hp) (Nat.pow_le_pow_right (by decide) (e2 _)))
    have s10 := fun H => r26_same free1 y.b y.b hsm hsm (by have := g.bl y hy; omega) H
    have hof := fun H => r1_of free1 1 H (by omega) (by omega)
    have k1 : ((i : Int) < (c.length : Int)) := by omega
    have wi : IntKind.i64.wrap ((i : Int) + 1) = ((i + 1 : Nat) : Int) := i64a (by omega)
    have hrb := refs_fA y.b
    have hsb := solids_fA y.b
    simp only [List.map_cons, List.map_nil, fA] at b6
    simp only [decide_true] at s10
    unfold bst2
    conv => lhs; rw [a122l1_run]
    simp (maxSteps := 4000000) only [si, simprocAttr, a122b1, a122R, k1, wi, g1, b6, s10, hof, hrc, hr1, hr2, hrb, hsb, hx]
theorem bounds_true (k : Nat) (hk : k < 256) (ds : List Dg) (hds : ∀ x ∈ ds, x.ok) (d1 d2 : List Int) (l1 : d1.length ≤ 9223372036854775807) (l2 : d2.length ≤ 9223372036854775807) (h1 : ∀ x ∈ d1, -128 ≤ x ∧ x ≤ 127) (h2 : ∀ x ∈ d2, -128 ≤ x ∧ x ≤ 127) (H : Heap) :
    call E1 GP 122 [.agg [.int .u8 k, .isl (ds.map gA)], .isl (d1.map bA), .isl (d2.map bA)] H = some (.bool true, H, false) := by
  obtain ⟨c, s, m, g, hm, hf, hmade⟩ := r26_made k hk ds hds
  have hrd := refs_gA ds
  have hx : (AV.agg [.int .u8 k, .isl (ds.map gA)]).under 0 = true := by simp [AV.under, AV.unders]
  have hxk : (AV.agg [.int .u8 k, .isl (ds.map gA)]).known = true := rfl
  have hxs : (AV.agg [.int .u8 k, .isl (ds.map gA)]).size = 2 := rfl
  have hxr : (AV.agg [.int .u8 k, .isl (ds.map gA)]).hasRef = false := by simp [AV.hasRef, AV.hasRefs]
  have hn : (d1.length : Int).natAbs ≤ 18446744073709551616 := by omega
  have stp := fun (k : Nat) (hk : k ≤ 3) => bnd14_step g hm hf k hk d1 d2 l1 l2 h1 h2 (d1.length : Int) hn _ hx hxk hxs hxr
  have L0 := ((stp 0 (by omega)).trans ((stp 1 (by omega)).trans ((stp 2 (by omega)).trans (stp 3 (by omega))))).trans (bnd14_end c d1 d2 (d1.length : Int) _ hx)
  have L1 := bnd14_cells g hm hf d1 d2 (d1.length : Int) _ hx c.length 0 (by omega)
  have hsan := san
  have hof := fun H => r1_of free1 (d1.length : Int) H (by omega) (by omega)
  have hrc := refs_cA c
  have hr1 := refs_bA d1
  have hr2 := refs_bA d2
  unfold bst at L0
  unfold bst2 at L1
  simp only [Int.ofNat_zero] at L0 L1
  rw [call_fun (by rfl) (f := a122) rfl rfl]
  simp (maxSteps := 4000000) only [si, simprocAttr, a122, a122R, hmade, hsan, hof, L0, L1, hrd, hrc, hr1, hr2]
theorem law122 (xs : List AV) (h : Fitss [.agg [.int .u8, .sl (.agg [.int .i8, .int .i8, .int .i8, .int .i8])], .sl (.int .i8), .sl (.int .i8)] xs) : call E1 GP 122 xs [] = some (.bool true, [], false) := by
  simp only [Fitss] at h
  obtain ⟨x, r, rfl, hx, y, s, rfl, hy, z, t, rfl, hz, rfl⟩ := h
  obtain ⟨k, ds, rfl, hk, hds⟩ := fits_mS hx
  simp only [Fits] at hy hz
  obtain ⟨l, rfl, hl, hy⟩ := hy
  obtain ⟨d, rfl, hd⟩ := fits_list (fun y hy => fits_bA hy) l hy
  obtain ⟨l2, rfl, hl2, hz⟩ := hz
  obtain ⟨d2, rfl, hd2⟩ := fits_list (fun y hy => fits_bA hy) l2 hz
  exact bounds_true k hk ds hds d d2 (by simpa [maxLen] using hl) (by simpa [maxLen] using hl2) hd hd2 []
end Tor
namespace Tor
open Go Go.RowKit Go.Maps Go.Sort Go.Shelf Go.Proofs
open Go.WideElems (Fit rd rg pl rd_val elemAt rd_mk rg_of)
def R0 : Value → Option (DataW Nat × List MemPlace) := fun _ => some (.lit (.bool false), [])
theorem in64_wf {n : Int} (h : in64 n = true) : (Lit.int .i64 n).wf = true := by
  have h : -9223372036854775808 ≤ n ∧ n ≤ 9223372036854775807 := of_decide_eq_true h
  simp only [Lit.wf, Bool.and_eq_true, IntKind.min, IntKind.max]
  simp [IntKind.signed, IntKind.bits] at *
  omega
theorem MapR_rd {P : Program} {k : TypeId} (hk : P.underlying k = some (.int .i64)) {C : Cx} {kvs es} (h : MapR C kvs es) (ha : ∀ p ∈ kvs, in64 p.1 = true) :
    (∀ x ∈ es, ∃ y, rd P k R0 x = some y) ∧ es.map (fun x => Go.intOf (rg P k R0 x).1) = kvs.map (·.1) ∧ es.length = kvs.length := by
  induction h with
  | nil => exact ⟨fun x hx => (by cases hx), rfl, rfl⟩
  | @cons n x e r es hkey _ _ _ ih =>
    obtain ⟨i1, i2, i3⟩ := ih fun p hp => ha p (.tail _ hp)
    have hw := in64_wf (ha (n, x) (.head _))
    have hr : rd P k R0 e = some (.int .i64 n, .lit (.bool false)) := by
      obtain ⟨key, val, born⟩ := e
      simp only at hkey
      subst hkey
      exact rd_mk (R := R0) (yv := (.lit (.bool false), [])) (keyOf_int_mk hk hw) rfl
    refine ⟨fun z hz => ?_, ?_, by simp [i3]⟩
    · rcases List.mem_cons.1 hz with rfl | hz
      · exact ⟨_, hr⟩
      · exact i1 z hz
    · simp only [List.map_cons, i2, rg_of hr]; rfl
theorem insI_perm (k : Int) : ∀ l : List Int, (insI k l).Perm (k :: l)
  | [] => .refl _
  | j :: r => by
    simp only [insI]
    split
    · exact .refl _
    · exact ((insI_perm k r).cons j).trans (.swap k j r)
theorem sortI_perm : ∀ l : List Int, (sortI l).Perm l
  | [] => .refl _
  | k :: r => (insI_perm k _).trans ((sortI_perm r).cons k)
theorem insI_le (k : Int) : ∀ l : List Int, l.Pairwise (fun a b => leI a b = true) → (insI k l).Pairwise (fun a b => leI a b = true)
  | [], _ => by simp [insI]
  | j :: r, h => by
    rw [List.pairwise_cons] at h
    simp only [insI]
    split
    · rename_i hkj
      refine List.pairwise_cons.2 ⟨fun q hq => ?_, List.pairwise_cons.2 h⟩
      simp only [leI, decide_eq_true_eq]
      rcases List.mem_cons.1 hq with rfl | hq
      · exact hkj
      · have := h.1 q hq; simp only [leI, decide_eq_true_eq] at this; omega
    · refine List.pairwise_cons.2 ⟨fun q hq => ?_, insI_le k r h.2⟩
      simp only [leI, decide_eq_true_eq]
      rcases (mem_insI k q r).1 hq with e | e
      · omega
      · have := h.1 q e; simpa only [leI, decide_eq_true_eq] using this
theorem sortI_le : ∀ l : List Int, (sortI l).Pairwise (fun a b => leI a b = true)
  | [] => .nil
  | k :: r => insI_le k _ (sortI_le r)
theorem sortI_of_perm {l l' : List Int} (h : l.Perm l') : l.mergeSort leI = sortI l' := by
  have tr : ∀ a b c : Int, leI a b = true → leI b c = true → leI a c = true := fun a b c h1 h2 => by simp only [leI, decide_eq_true_eq] at *; exact Int.le_trans h1 h2
  have to : ∀ a b : Int, (leI a b || leI b a) = true := fun a b => by simp only [leI, Bool.or_eq_true, decide_eq_true_eq]; exact Int.le_total a b
  refine List.Perm.eq_of_pairwise (le := fun a b => leI a b = true) (fun a b _ _ h1 h2 => ?_) (List.pairwise_mergeSort tr to l) (sortI_le l') (((List.mergeSort_perm l leI).trans h).trans (sortI_perm l').symm)
  simp only [leI, decide_eq_true_eq] at h1 h2
  exact Int.le_antisymm h1 h2
theorem E1_inv {g args H r H' b} (h : E1 g args H = some (r, H', b)) :
    g = 56 ∧ b = false ∧ H' = H ∧ ∃ o kvs, args = [.fn 72 [.bx o]] ∧ H[o]? = some (.map kvs) ∧ kvs.length ≤ 1000000 ∧ (∀ p ∈ kvs, in64 p.1 = true) ∧ r = .isl ((sortI (kvs.map (·.1))).map iA) := by
  unfold E1 at h
  split at h
  case isFalse => cases h
  rename_i hg
  unfold sortArgs at h
  split at h
  case h_2 => cases h
  rename_i o
  unfold sortedKeys at h
  split at h
  case h_2 => cases h
  rename_i kvs ho
  split at h
  case isFalse => cases h
  rename_i hh
  simp only [Option.some.injEq, Prod.mk.injEq] at h
  obtain ⟨rfl, rfl, rfl⟩ := h
  exact ⟨hg, rfl, rfl, o, kvs, rfl, ho, hh.1, fun p hp => (List.all_eq_true.1 hh.2) p hp, rfl⟩
theorem E1_keeps : CKeeps E1 := by
  intro g a H x H' b h _
  obtain ⟨_, rfl, rfl, _⟩ := E1_inv h
  exact Keeps.refl _
theorem E1_sound {P : Program} {ι : Nat → FuncId} {ρ ρ' : Ren} (LK : SlLaysZI.n10 P ρ) (LS : SlLaysZI.n6 P ρ') (hS : ∀ m, AnyZI.SortsIn P ρ' Fence.wide m) (e6 : Enters P (ρ'.f 6)) (e9 : Enters P (ρ'.f 9)) (eg : Enters P (ρ.f 10))
    (h72 : ι 72 = ρ.f 10) (h56 : ι 56 = ρ'.f 6) : SoundC P ι E1 := by
  intro g args H r H' b h base C vals hι hs hr
  obtain ⟨rfl, rfl, rfl, o, kvs, rfl, ho, hlen, hin, rfl⟩ := E1_inv h
  cases hr with
  | cons hx hr =>
    cases hr
    rename_i v
    have hv : ∃ a bm, v = .func (.func (C.ι 72)) #[] #[.pointer (some ⟨a, 0, none⟩)] ∧ C.β o 0 = some (some (bm, 0)) ∧ C.F a ∧ cellsAt C.w a 0 [.map (some bm)] := by
      rcases hx with (e | ⟨h1, h2⟩) | ⟨l, vs, e, _⟩
      · cases e
      · simp only [AV.isA] at h2
        rw [cells_one h2] at h1
        simp only [Rc, List.cons.injEq, and_true] at h1
        obtain ⟨_, vs, rfl, hl⟩ := h1
        simp only [Rcl, Rc] at hl
        obtain ⟨c, r, e, ⟨a, bm, h3, rfl, h4, h5⟩, rfl⟩ := hl
        obtain ⟨vs⟩ := vs
        cases vs with
        | nil => cases e
        | cons x t =>
          cases t with
          | nil => simp at e; subst e; exact ⟨a, bm, rfl, h3, h4, h5⟩
          | cons y t => simp at e
      · cases e
    obtain ⟨a, bm, rfl, hβ, hF, hc⟩ := hv
    obtain ⟨b2, es, clock, hβ2, hb, hm, hge, hnF⟩ := (hs.obj o _ ho).1
    rw [hβ] at hβ2
    obtain rfl : bm = b2 := by simpa using hβ2
    obtain ⟨k1, k2, k3⟩ := MapR_rd LK.t26 hm.1 hin
    have hown : C.w.ownsMap P (ρ.t 26) R0 bm 1000000 (.map ((es.toList.map (rg P (ρ.t 26) R0)).foldr DataW.insert [])) :=
      ⟨es, clock, hb, ⟨by rw [← Array.length_toList, k3]; unfold maxLen; omega, hm.2, k1⟩, by rw [← Array.length_toList, k3]; exact hlen, rfl⟩
    have ha : a < C.w.heap.size := hs.fsz a hF
    have hcell : C.w.cell? ⟨a, 0, none⟩ = some (.map (some bm)) := by simpa using hc 0 _ rfl
    have hsz : Maps.size (.map ((es.toList.map (rg P (ρ.t 26) R0)).foldr DataW.insert []) : DataW Nat) ≤ 1000000 := hown.size_le
    have hseq : SeqGives Fence.wide 2 P (ρ.f 10) #[.pointer (some ⟨a, 0, none⟩)] encZ _ _ C.w := AnyZI.keys_gives LK Fence.wide _ trivial rfl (by omega) a bm _ _ C.w ha hcell hown
    have cS := AnyZI.sorted_in LS Fence.wide 5 trivial trivial trivial trivial rfl (by omega) (hS _) e9 (ρ.f 10) #[.pointer (some ⟨a, 0, none⟩)] trivial eg _ _ (by unfold maxLen; omega) (by omega) _ hseq
    have cS := callsIn_wide.1 cS
    unfold Called
    rw [h56, e6 _ C.w]
    rw [hι, h72]
    refine Calls.mono cS fun e w' he => ?_
    obtain ⟨v, ss, rfl, hp, hrow, hnil, hbel⟩ := he
    have hkeys : intKeys (.map ((es.toList.map (rg P (ρ.t 26) R0)).foldr DataW.insert []) : DataW Nat) = _ := rfl
    have hperm : ss.Perm (kvs.map (·.1)) := by
      refine hp.trans ?_
      rw [← k2]
      have := (Go.WideShapes.sorted_perm (es.toList.map (rg P (ρ.t 26) R0))).map (fun (p : Lit × DataW Nat) => Go.intOf p.1)
      simpa [intKeys, Function.comp_def] using this
    have hsort := sortI_of_perm hperm
    rw [show (fun x y : Int => decide (x ≤ y)) = leI from rfl, hsort] at hrow
    have hsl : (sortI (kvs.map (·.1))).length = ss.length := by rw [← hsort]; simp
    let C' : Cx := { C with w := w', F := fun x => C.F x ∨ (C.w.heap.size ≤ x ∧ v.ownBlock = some x) }
    have hob : ∀ x, v.ownBlock = some x → C.w.heap.size ≤ x ∧ x < w'.heap.size := by
      intro x hx
      rcases hrow.2 with ⟨rfl, _⟩ | ⟨g, cap, cur, rfl, hbase, hg, _⟩
      · cases hx
      · simp only [Value.ownBlock, Option.some.injEq] at hx
        subst hx
        exact ⟨hbase, lt_of_heap hg⟩
    have hle : Le C C' := ⟨rfl, fun _ h => .inl h, fun _ _ _ h => h, fun x hx => hbel.block x (hs.fsz x hx), fun x s hx => (by
      have hlt : x < C.w.heap.size := by
        unfold World.shape? at hx
        split at hx
        · rename_i hh; exact lt_of_heap hh
        · cases hx
      rw [← hx]; show w'.shape? x = _
      unfold World.shape?
      rw [hbel.block x hlt])⟩
    have hsim : Sim base C' H' := hs.world hle (fun x hx => by
      rcases hx with hx | ⟨h1, h2⟩
      · exact ⟨Nat.lt_of_lt_of_le (hs.fsz x hx) hbel.size, .inl hx⟩
      · exact ⟨(hob x h2).2, .inr h1⟩) (fun _ _ => rfl) hbel.size (fun x hx _ _ => hbel.block x hx)
    refine ⟨C', rfl, ⟨hle, hsim, hbel.mono hs.bsz, fun x hx => ?_, fun x hx hnx hno => ⟨hbel.block x hx, fun h => h.elim hnx (fun h => by omega), fun o1 ob1 h1 hb1 => hno o1 ob1 h1 hb1⟩⟩, ?_⟩
    · rcases hx with hx | ⟨h1, _⟩
      · exact .inl hx
      · exact .inr (Nat.le_trans hs.bsz h1)
    · have hlit : ∀ (zs : List Int), Rcl C' (zs.map iA) (zs.map fun z => [encZ z]) := by
        intro zs
        induction zs with
        | nil => simp [Rcl]
        | cons z r ih => simp only [List.map_cons, Rcl, Rc, iA]; exact ⟨_, _, rfl, rfl, ih⟩
      have hnr : ∀ (zs : List Int), AV.hasRefs (zs.map iA) = false := by
        intro zs
        induction zs with
        | nil => rfl
        | cons z r ih => simp only [List.map_cons, AV.hasRefs, iA, AV.hasRef, Bool.false_or, ih]
      rcases hrow.2 with ⟨rfl, hz⟩ | ⟨g, cap, cur, rfl, hbase, hg, hcap, hmax, hsize, htake⟩
      · refine Rv_one ?_ rfl rfl
        simp only [Rc]
        refine ⟨hnr _, _, rfl, none, 0, by simp [hsl, hz], .inl (by simp [hsl, hz])⟩
      · refine Rv_one ?_ rfl rfl
        simp only [Rc]
        refine ⟨hnr _, _, rfl, _, cap, by simp [hsl], .inr ⟨g, 0, (sortI (kvs.map (·.1))).map fun z => [encZ z], 1, rfl, .inr ⟨hbase, rfl⟩, by simpa [hsl] using hcap, hlit _, fun c hc => ?_, ?_⟩⟩
        · obtain ⟨z, _, rfl⟩ := List.mem_map.1 hc; rfl
        · intro i x hx
          have hfl : ((sortI (kvs.map (·.1))).map fun z => [encZ z]).flatten = (sortI (kvs.map (·.1))).map encZ := by
            induction sortI (kvs.map (·.1)) with
            | nil => rfl
            | cons z r ih => simp [ih]
          rw [hfl, ← htake] at hx
          have h1 : cur.toList[i]? = some x := by
            rw [List.getElem?_take] at hx
            split at hx
            · exact hx
            · cases hx
          simp only [World.cell?, Nat.zero_add]
          show (match w'.heap[g]? with | _ => _) = _
          rw [hg]
          simpa using h1
end Tor
namespace Tor
open Go Go.RowKit Go.ChangeShapes
def shpAll (P : Program) : List TypeId → List Shp → Bool
  | [], [] => true
  | t :: ts, s :: ss => shpOk P t s && shpAll P ts ss
  | _, _ => false
theorem open_all {P : Program} {ι : Nat → FuncId} {w : World} {H : Type} {enc : TypeId × Value → H} {base b0 : Nat} {spare : Nat → Bool} {held : Bool} {r : Reach} :
    ∀ (ss : List Shp) (ts : List TypeId) (vs : List Value) (ds : List (DataW H)) (ps : List MemPlace), shpAll P ts ss = true → (∀ (j : Nat) t v, ts[j]? = some t → vs[j]? = some v → Value.okWide P w r b0 t v) →
      DataW.TrodAll enc P w base spare held ts vs ds ps → ∃ xs, Fitss ss xs ∧ Rvs (Cx.init ι w) xs vs
  | [], [], vs, ds, ps, _, _, h => by
    obtain ⟨rfl, _, _⟩ := trodAll_nil h
    exact ⟨[], rfl, .nil⟩
  | s :: ss, t :: ts, vs, ds, ps, hs, hv, h => by
    simp only [shpAll, Bool.and_eq_true] at hs
    obtain ⟨v, vs', d, ds', p, q, rfl, rfl, rfl, h1, h2⟩ := trodAll_cons h
    obtain ⟨y, y1, y2⟩ := open_arg (ι := ι) hs.1 (hv 0 t v rfl rfl) h1
    obtain ⟨xs, x1, x2⟩ := open_all ss ts vs' ds' q hs.2 (fun j t v ht hv' => hv (j + 1) t v (by simpa using ht) (by simpa using hv')) h2
    exact ⟨y :: xs, by simp only [Fitss]; exact ⟨y, xs, rfl, y1, x1⟩, .cons y2 x2⟩
  | [], _ :: _, _, _, _, hs, _, _ => by cases hs
  | _ :: _, [], _, _, _, hs, _, _ => by cases hs
def rowed (P : Program) (t : TypeId) : Bool := P.readableRec t && decide (t < P.types.size)
theorem keep_all {P : Program} {H : Type} {enc : TypeId × Value → H} (hl : laidOutB P = true) {W W' : World} (hb : Below W.heap.size W W') :
    ∀ (ts : List TypeId) (vs : List Value) (ds : List (DataW H)) (ps : List MemPlace), ts.all (rowed P) = true → (∀ x ∈ ps, x.block < W.heap.size) → DataW.TrodAll enc P W 0 (fun _ => true) true ts vs ds ps →
      DataW.TrodAll enc P W' 0 (fun b => decide (b < W.heap.size)) true ts vs ds ps
  | [], vs, ds, ps, _, _, h => by
    obtain ⟨rfl, rfl, rfl⟩ := trodAll_nil h
    exact trodAll_mk0
  | t :: ts, vs, ds, ps, ht, hp, h => by
    simp only [List.all_cons, Bool.and_eq_true, rowed, decide_eq_true_eq] at ht
    obtain ⟨v, vs', d, ds', p, q, rfl, rfl, rfl, h1, h2⟩ := trodAll_cons h
    exact trodAll_cons_mk (Below.trod hl ht.1.1 ht.1.2 h1 hb fun x hx => hp x (List.mem_append.2 (.inl hx)))
      (keep_all hl hb ts vs' ds' q (by simpa [rowed] using ht.2) (fun x hx => hp x (List.mem_append.2 (.inr hx))) h2)
theorem places_lt {P : Program} {H : Type} {enc : TypeId × Value → H} {W : World} {ts : List TypeId} {vs : List Value} {ds : List (DataW H)} {ps : List MemPlace} {base : Nat} {spare : Nat → Bool} {held : Bool}
    (h : DataW.TrodAll enc P W base spare held ts vs ds ps) : ∀ x ∈ ps, x.block < W.heap.size := h.lt
theorem pureE_of {pureF : Nat → Bool} {E : CallF} (h : ∀ g args H r, pureF g = true → E g args H = some r → False) : PureC pureF E := fun g hg args H r H' b he => (h g args H _ hg he).elim
end Tor
