/-
  A part of the proof: an abstract machine for the program, its soundness, and what the functions compute (Int14, Chn1, Chn2, Chn3, Chn4, Chn5, Chn6, Chn7, Chn8, Chn9, Chn10, Chn11, Chn12, Pl1, Pl2, Pl3, Pl4).
  Conditions: none.
-/
import Derived.Test.YtalcodolmmaciaaM04
set_option linter.unusedSectionVars false
set_option linter.unusedVariables false
set_option linter.unusedSimpArgs false
/-
  Integers, eighth part: products.
-/
namespace Tor
open Go
set_option linter.unusedSimpArgs false
set_option linter.unusedVariables false
variable {E : CallF}

def y2 (sa sb : Bool) (a b out : List Nat) (i : Nat) : St :=
  { vars := [zl sa a, zl sb b, .sl 0 0 1 0 out.length, .u, .u, .u, .u, .u, .isl (a.map limbA), .int .i64 a.length, .int .i64 i, .u, .u, .u, .u, .u, zl sa a, zl sb b, .agg [.bool false, .isl []]], heap := [.arr 0 1 (out.map limbA)], rs := false }

theorem y2_rows (sa sb : Bool) (a b : List Nat) (ha : ∀ d ∈ a, d < B32) (hb : ∀ d ∈ b, d < B32) (la : a.length < 1073741824) (lb : b.length < 1073741824) : ∀ (n i : Nat) (out : List Nat), a.length = i + n → out.length = a.length + b.length → (∀ d ∈ out, d < B32) →
    val (out.take (i + b.length)) = val (a.take i) * val b →
    ∃ (out' : List Nat), run E GP a32l0 (y2 sa sb a b out i) = some (.exit 0, { vars := [zl sa a, zl sb b, .sl 0 0 1 0 out'.length, .u, .u, .u, .u, .u, .isl (a.map limbA), .int .i64 a.length, .int .i64 a.length, .bool false, .u, .u, .u, .u, zl sa a, zl sb b, .agg [.bool false, .isl []]], heap := [.arr 0 1 (out'.map limbA)], rs := false }) ∧
      out'.length = a.length + b.length ∧ (∀ d ∈ out', d < B32) ∧ val out' = val a * val b := by
  intro n
  induction n with
  | zero =>
    intro i out h1 h2 h3 h4
    have hi : i = a.length := by omega
    subst hi
    rw [List.take_length, List.take_of_length_le (by omega)] at h4
    refine ⟨out, ?_, h2, h3, h4⟩
    have k1 : ¬ (a.length : Int) < (a.length : Int) := by omega
    rw [a32l0_run]
    simp (config := {maxSteps := 1000000}) only [sim, sik, sil, reduceIte, reduceCtorEq, Nat.reduceAdd, Nat.reduceSub, Nat.reduceMul, Nat.reduceLT, Nat.reduceLeDiff, Int.reduceLT, Int.reduceLE, Int.reduceGT, Int.reduceGE, Int.reduceEq, Int.reduceNe, Int.reduceAdd, Int.reduceSub, Int.reduceNeg, Int.cast_ofNat_Int, Int.natCast_nonneg, Int.toNat_natCast, Int.reduceToNat, Int.toNat_zero, Nat.le_refl, Int.le_refl, List.take_length, Z_size, Z_known, Z_isA, Z_ref, Z_under, Z_solid, fz_Z, headSize_limbs, fz_limbs, refs_limbs, solids_limbs, List.length_map, List.contains_cons, List.contains_nil, Nat.reduceBEq, Bool.true_beq, Bool.false_beq, y2, zl, a32b0, a32r3_ev, k1]
  | succ n ih =>
    intro i out h1 h2 h3 h4
    obtain ⟨out1, c, e1, e2, e3, e4, e5⟩ := x2_row (E := E) sa sb a b ha hb la lb i (by omega) out b.length 0 0 out (by omega) h2 h3 (by decide) (by simp [val])
    have hw : (out1.set (i + b.length) c).take (i + 1 + b.length) = out1.take (i + b.length) ++ [c] := by
      rw [show i + 1 + b.length = i + b.length + 1 by omega]
      exact take_set _ _ _ (by omega)
    have hv : val ((out1.set (i + b.length) c).take (i + 1 + b.length)) = val (a.take (i + 1)) * val b := by
      rw [hw, val_append, List.length_take, Nat.min_eq_left (by omega), val, val, Nat.mul_zero, Nat.add_zero, e5, h4, take_dig, Nat.add_mul, Nat.mul_assoc]
    obtain ⟨out', f1, f2, f3, f4⟩ := ih (i + 1) (out1.set (i + b.length) c) (by omega) (by simp [e2]) (fun d hd => by
      rcases List.mem_or_eq_of_mem_set hd with hd | rfl
      · exact e3 d hd
      · exact e4) hv
    refine ⟨out', ?_, f2, f3, f4⟩
    rw [← f1]
    have hlt : (i : Int) < (a.length : Int) := by omega
    have wi : IntKind.i64.wrap ((i : Int) + 1) = ((i + 1 : Nat) : Int) := i64a (by omega)
    have wik : IntKind.i64.wrap ((i : Int) + (b.length : Int)) = ((i + b.length : Nat) : Int) := by rw [i64w (by omega)]; omega
    have g1 := limb_get (l := a) (n := i) (by omega)
    have ed : dig a i = a.getD i 0 := by unfold dig; rw [if_pos (by omega)]
    rw [← ed] at g1
    have g3 := limb_get (l := out1) (n := i + b.length) (by omega)
    have k3 : ((i + b.length : Nat) : Int) < ((out1.length : Nat) : Int) := by omega
    have wc := u32n c
    rw [Nat.mod_eq_of_lt e4] at wc
    conv => lhs; rw [a32l0_run]
    simp only [x2, zl, Int.ofNat_zero] at e1
    simp (config := {maxSteps := 1000000}) only [sim, sik, sil, reduceIte, reduceCtorEq, Nat.reduceAdd, Nat.reduceSub, Nat.reduceMul, Nat.reduceLT, Nat.reduceLeDiff, Int.reduceLT, Int.reduceLE, Int.reduceGT, Int.reduceGE, Int.reduceEq, Int.reduceNe, Int.reduceAdd, Int.reduceSub, Int.reduceNeg, Int.cast_ofNat_Int, Int.natCast_nonneg, Int.toNat_natCast, Int.reduceToNat, Int.toNat_zero, Nat.le_refl, Int.le_refl, List.take_length, Z_size, Z_known, Z_isA, Z_ref, Z_under, Z_solid, fz_Z, headSize_limbs, fz_limbs, refs_limbs, solids_limbs, List.length_map, List.contains_cons, List.contains_nil, Nat.reduceBEq, Bool.true_beq, Bool.false_beq, y2, zl, a32b0, a32r3_ev, a32r4_ev, a32r5_ev, a32r6_ev, a32r13_ev, a32r14_ev, hlt, g1, limbA, e1, wi, wik, g3, k3, wc, List.map_set, List.length_set]

variable (hE : Free E)
include hE

theorem i_mul (m n : Int) (H : Heap) (hm : (limbs m.natAbs).length < 1073741824) (hn : (limbs n.natAbs).length < 1073741824) : call E GP 32 [Z m, Z n] H = some (Z (m * n), H, false) := by
  rw [call_fun (hE _ _ _ (by decide)) (f := a32) rfl rfl]
  have Lm := limbs_lt m.natAbs
  have Ln := limbs_lt n.natAbs
  have Vm := val_limbs m.natAbs
  have Vn := val_limbs n.natAbs
  obtain ⟨out, f1, f2, f3, f4⟩ := y2_rows (E := E) (decide (m < 0)) (decide (n < 0)) _ _ Lm Ln hm hn (limbs m.natAbs).length 0 (List.replicate ((limbs m.natAbs).length + (limbs n.natAbs).length) 0) (by omega) (by simp) (fun d hd => by rw [List.eq_of_mem_replicate hd]; decide) (by rw [List.take_replicate, val_zeros]; simp [val])
  have hmade := i_norm hE out (decide (m < 0) != decide (n < 0)) [.arr 0 1 (out.map limbA)] 0 0 1 0 out.length (by simp [sil, sim, List.take_of_length_le]) f3 (by omega)
  rw [ofL_mul m n out (by rw [f4, Vm, Vn])] at hmade
  have w1 : IntKind.i64.wrap (((limbs m.natAbs).length : Int) + ((limbs n.natAbs).length : Int)) = (((limbs m.natAbs).length + (limbs n.natAbs).length : Nat) : Int) := by rw [i64w (by omega)]; omega
  have w3 : (((limbs m.natAbs).length + (limbs n.natAbs).length : Nat) : Int) ≤ maxLenA := by unfold maxLenA; omega
  have w4 : ((((limbs m.natAbs).length + (limbs n.natAbs).length : Nat) : Int)).toNat = (limbs m.natAbs).length + (limbs n.natAbs).length := by omega
  have w5 : (0:Int) ≤ (((limbs m.natAbs).length + (limbs n.natAbs).length : Nat) : Int) := by omega
  rw [show Z m = .agg [.bool (decide (m < 0)), .isl ((limbs m.natAbs).map limbA)] from rfl, show Z n = .agg [.bool (decide (n < 0)), .isl ((limbs n.natAbs).map limbA)] from rfl]
  simp only [y2, zl, List.length_replicate, Int.ofNat_zero, List.map_replicate, limbA] at f1
  generalize (limbs m.natAbs).length + (limbs n.natAbs).length = K at *
  simp (config := {maxSteps := 1000000}) only [sim, sik, sil, reduceIte, reduceCtorEq, Nat.reduceAdd, Nat.reduceSub, Nat.reduceMul, Nat.reduceLT, Nat.reduceLeDiff, Int.reduceLT, Int.reduceLE, Int.reduceGT, Int.reduceGE, Int.reduceEq, Int.reduceNe, Int.reduceAdd, Int.reduceSub, Int.reduceNeg, Int.cast_ofNat_Int, Int.natCast_nonneg, Int.toNat_natCast, Int.reduceToNat, Int.toNat_zero, Nat.le_refl, Int.le_refl, List.take_length, Z_size, Z_known, Z_isA, Z_ref, Z_under, Z_solid, fz_Z, headSize_limbs, fz_limbs, refs_limbs, solids_limbs, List.length_map, List.contains_cons, List.contains_nil, Nat.reduceBEq, Bool.true_beq, Bool.false_beq, a32, a32r0_ev, a32r1_ev, a32r2_ev, a32r15_ev, w1, w3, w4, w5]
  simp (config := {maxSteps := 1000000}) only [sim, sik, sil, reduceIte, reduceCtorEq, Nat.reduceAdd, Nat.reduceSub, Nat.reduceMul, Nat.reduceLT, Nat.reduceLeDiff, Int.reduceLT, Int.reduceLE, Int.reduceGT, Int.reduceGE, Int.reduceEq, Int.reduceNe, Int.reduceAdd, Int.reduceSub, Int.reduceNeg, Int.cast_ofNat_Int, Int.natCast_nonneg, Int.toNat_natCast, Int.reduceToNat, Int.toNat_zero, Nat.le_refl, Int.le_refl, List.take_length, Z_size, Z_known, Z_isA, Z_ref, Z_under, Z_solid, fz_Z, headSize_limbs, fz_limbs, refs_limbs, solids_limbs, List.length_map, List.contains_cons, List.contains_nil, Nat.reduceBEq, Bool.true_beq, Bool.false_beq, f1, hmade, a32r15_ev]
end Tor
/-
  Chains, first part: the reference's comparison.
-/
namespace Tor
open Go
set_option linter.unusedSimpArgs false
set_option linter.unusedVariables false
variable {E : CallF}

def fA (p : Int × Int) : AV := .agg [.int .i64 p.1, Z p.2]
/-- Coefficients of bearable size. -/
def Sm (p : Int × Int) : Prop := (limbs p.2.natAbs).length < 1073741000

theorem fA_ref (p : Int × Int) : (fA p).hasRef = false := by simp [fA, AV.hasRef, AV.hasRefs, Z_ref]
theorem refs_fA : ∀ l : List (Int × Int), AV.hasRefs (l.map fA) = false
  | [] => rfl
  | p :: r => by simp only [List.map_cons, AV.hasRefs, fA_ref, refs_fA r, Bool.or_self]
theorem fA_get {l : List (Int × Int)} {i : Nat} (h : i < l.length) : (l.map fA)[i]? = some (.agg [.int .i64 l[i].1, Z l[i].2]) := by
  simp [h, fA]

section
variable (hE : Free E)
include hE

theorem same_loop (l m : List (Int × Int)) (hl : ∀ p ∈ l, Sm p) (hm : ∀ p ∈ m, Sm p) (hlm : l.length = m.length) (hs : l.length < 2147483648) : ∀ k i, l.length = i + k →
    (l.drop i = m.drop i → run E GP a10l0 { vars := [.isl (l.map fA), .isl (m.map fA), .bool false, .int .i64 (i : Nat), .bool false, .u, .u], heap := [], rs := false } =
      some (.exit 0, { vars := [.isl (l.map fA), .isl (m.map fA), .bool false, .int .i64 l.length, .bool false, .bool false, .u], heap := [], rs := false })) ∧
    (l.drop i ≠ m.drop i → ∃ j : Nat, run E GP a10l0 { vars := [.isl (l.map fA), .isl (m.map fA), .bool false, .int .i64 (i : Nat), .bool false, .u, .u], heap := [], rs := false } =
      some (.ret, { vars := [.isl (l.map fA), .isl (m.map fA), .bool false, .int .i64 j, .bool false, .bool true, .bool true], heap := [], rs := false })) := by
  intro k
  induction k with
  | zero =>
    intro i h
    have hi : i = l.length := by omega
    subst hi
    have k1 : ¬ (l.length : Int) < (l.length : Int) := by omega
    refine ⟨fun _ => ?_, fun h => absurd (by simp [hlm]) h⟩
    rw [a10l0_run]
    simp (config := {maxSteps := 1000000}) only [sim, sik, sil, reduceIte, reduceCtorEq, Nat.reduceAdd, Nat.reduceSub, Nat.reduceMul, Nat.reduceLT, Nat.reduceLeDiff, Int.reduceLT, Int.reduceLE, Int.reduceGT, Int.reduceGE, Int.reduceEq, Int.reduceNe, Int.reduceAdd, Int.reduceSub, Int.reduceNeg, Int.cast_ofNat_Int, Int.natCast_nonneg, Int.toNat_natCast, Int.reduceToNat, Int.toNat_zero, Nat.le_refl, Int.le_refl, List.take_length, Z_size, Z_known, Z_isA, Z_ref, Z_under, Z_solid, fz_Z, headSize_limbs, fz_limbs, refs_limbs, solids_limbs, List.length_map, List.contains_cons, List.contains_nil, Nat.reduceBEq, Bool.true_beq, Bool.false_beq, a10b0, a10r4_ev, k1]
  | succ k ih =>
    intro i h
    have h1 : i < l.length := by omega
    have h2 : i < m.length := by omega
    have k1 : (i : Int) < (l.length : Int) := by omega
    have g1 := fA_get h1
    have g2 := fA_get h2
    have wi : IntKind.i64.wrap ((i : Int) + 1) = ((i + 1 : Nat) : Int) := i64a (by omega)
    have d1 : l.drop i = l[i] :: l.drop (i + 1) := List.drop_eq_getElem_cons h1
    have d2 : m.drop i = m[i] :: m.drop (i + 1) := List.drop_eq_getElem_cons h2
    have s1 := hl _ (List.getElem_mem h1)
    have s2 := hm _ (List.getElem_mem h2)
    have hsame := fun H => r1_same hE l[i].2 m[i].2 H (by unfold Sm at s1; omega) (by unfold Sm at s2; omega)
    rw [d1, d2]
    obtain ⟨ih1, ih2⟩ := ih (i + 1) (by omega)
    by_cases e1 : l[i].1 = m[i].1
    · by_cases e2 : l[i].2 = m[i].2
      · have e : l[i] = m[i] := Prod.ext e1 e2
        have hrun : run E GP a10l0 { vars := [.isl (l.map fA), .isl (m.map fA), .bool false, .int .i64 (i : Nat), .bool false, .u, .u], heap := [], rs := false } = run E GP a10l0 { vars := [.isl (l.map fA), .isl (m.map fA), .bool false, .int .i64 ((i + 1 : Nat) : Int), .bool false, .u, .u], heap := [], rs := false } := by
          conv => lhs; rw [a10l0_run]
          simp only [e1, e2, decide_true] at g1 hsame
          simp (config := {maxSteps := 1000000}) only [sim, sik, sil, reduceIte, reduceCtorEq, Nat.reduceAdd, Nat.reduceSub, Nat.reduceMul, Nat.reduceLT, Nat.reduceLeDiff, Int.reduceLT, Int.reduceLE, Int.reduceGT, Int.reduceGE, Int.reduceEq, Int.reduceNe, Int.reduceAdd, Int.reduceSub, Int.reduceNeg, Int.cast_ofNat_Int, Int.natCast_nonneg, Int.toNat_natCast, Int.reduceToNat, Int.toNat_zero, Nat.le_refl, Int.le_refl, List.take_length, Z_size, Z_known, Z_isA, Z_ref, Z_under, Z_solid, fz_Z, headSize_limbs, fz_limbs, refs_limbs, solids_limbs, List.length_map, List.contains_cons, List.contains_nil, Nat.reduceBEq, Bool.true_beq, Bool.false_beq, a10b0, a10r4_ev, a10r5_ev, a10r6_ev, a10r7_ev, k1, g1, g2, wi, hsame]
        rw [hrun]
        refine ⟨fun hh => ih1 (List.cons.inj hh).2, fun hh => ih2 (fun h => hh (by rw [e, h]))⟩
      · refine ⟨fun hh => absurd (congrArg (·.2) (List.cons.inj hh).1) e2, fun _ => ⟨i, ?_⟩⟩
        rw [a10l0_run]
        simp only [e2, decide_false] at hsame
        simp only [e1] at g1
        simp (config := {maxSteps := 1000000}) only [sim, sik, sil, reduceIte, reduceCtorEq, Nat.reduceAdd, Nat.reduceSub, Nat.reduceMul, Nat.reduceLT, Nat.reduceLeDiff, Int.reduceLT, Int.reduceLE, Int.reduceGT, Int.reduceGE, Int.reduceEq, Int.reduceNe, Int.reduceAdd, Int.reduceSub, Int.reduceNeg, Int.cast_ofNat_Int, Int.natCast_nonneg, Int.toNat_natCast, Int.reduceToNat, Int.toNat_zero, Nat.le_refl, Int.le_refl, List.take_length, Z_size, Z_known, Z_isA, Z_ref, Z_under, Z_solid, fz_Z, headSize_limbs, fz_limbs, refs_limbs, solids_limbs, List.length_map, List.contains_cons, List.contains_nil, Nat.reduceBEq, Bool.true_beq, Bool.false_beq, a10b0, a10r4_ev, a10r5_ev, a10r6_ev, a10r7_ev, k1, g1, g2, wi, hsame]
    · refine ⟨fun hh => absurd (congrArg (·.1) (List.cons.inj hh).1) e1, fun _ => ⟨i, ?_⟩⟩
      rw [a10l0_run]
      simp (config := {maxSteps := 1000000}) only [sim, sik, sil, reduceIte, reduceCtorEq, Nat.reduceAdd, Nat.reduceSub, Nat.reduceMul, Nat.reduceLT, Nat.reduceLeDiff, Int.reduceLT, Int.reduceLE, Int.reduceGT, Int.reduceGE, Int.reduceEq, Int.reduceNe, Int.reduceAdd, Int.reduceSub, Int.reduceNeg, Int.cast_ofNat_Int, Int.natCast_nonneg, Int.toNat_natCast, Int.reduceToNat, Int.toNat_zero, Nat.le_refl, Int.le_refl, List.take_length, Z_size, Z_known, Z_isA, Z_ref, Z_under, Z_solid, fz_Z, headSize_limbs, fz_limbs, refs_limbs, solids_limbs, List.length_map, List.contains_cons, List.contains_nil, Nat.reduceBEq, Bool.true_beq, Bool.false_beq, a10b0, a10r4_ev, a10r5_ev, a10r6_ev, a10r7_ev, k1, g1, g2, wi, e1]

theorem r26_same (l m : List (Int × Int)) (hl : ∀ p ∈ l, Sm p) (hm : ∀ p ∈ m, Sm p) (hs : l.length < 2147483648) (H : Heap) :
    call E GP 10 [.isl (l.map fA), .isl (m.map fA)] H = some (.bool (decide (l = m)), H, false) := by
  rw [call_fun (hE _ _ _ (by decide)) (f := a10) rfl rfl]
  by_cases hlm : l.length = m.length
  · obtain ⟨h1, h2⟩ := same_loop hE l m hl hm hlm hs l.length 0 (by omega)
    simp only [List.drop_zero, Int.ofNat_zero] at h1 h2
    have hlm' : (l.length : Int) = (m.length : Int) := by omega
    by_cases e : l = m
    · have hr := h1 e
      simp only [e] at hr
      simp (config := {maxSteps := 1000000}) only [sim, sik, sil, reduceIte, reduceCtorEq, Nat.reduceAdd, Nat.reduceSub, Nat.reduceMul, Nat.reduceLT, Nat.reduceLeDiff, Int.reduceLT, Int.reduceLE, Int.reduceGT, Int.reduceGE, Int.reduceEq, Int.reduceNe, Int.reduceAdd, Int.reduceSub, Int.reduceNeg, Int.cast_ofNat_Int, Int.natCast_nonneg, Int.toNat_natCast, Int.reduceToNat, Int.toNat_zero, Nat.le_refl, Int.le_refl, List.take_length, Z_size, Z_known, Z_isA, Z_ref, Z_under, Z_solid, fz_Z, headSize_limbs, fz_limbs, refs_limbs, solids_limbs, List.length_map, List.contains_cons, List.contains_nil, Nat.reduceBEq, Bool.true_beq, Bool.false_beq, a10, a10r0_ev, a10r1_ev, a10r2_ev, a10r3_ev, a10r8_ev, refs_fA, e, hr, ne_eq, not_true_eq_false, decide_true]
    · obtain ⟨j, hr⟩ := h2 e
      simp (config := {maxSteps := 1000000}) only [sim, sik, sil, reduceIte, reduceCtorEq, Nat.reduceAdd, Nat.reduceSub, Nat.reduceMul, Nat.reduceLT, Nat.reduceLeDiff, Int.reduceLT, Int.reduceLE, Int.reduceGT, Int.reduceGE, Int.reduceEq, Int.reduceNe, Int.reduceAdd, Int.reduceSub, Int.reduceNeg, Int.cast_ofNat_Int, Int.natCast_nonneg, Int.toNat_natCast, Int.reduceToNat, Int.toNat_zero, Nat.le_refl, Int.le_refl, List.take_length, Z_size, Z_known, Z_isA, Z_ref, Z_under, Z_solid, fz_Z, headSize_limbs, fz_limbs, refs_limbs, solids_limbs, List.length_map, List.contains_cons, List.contains_nil, Nat.reduceBEq, Bool.true_beq, Bool.false_beq, a10, a10r0_ev, a10r1_ev, a10r2_ev, a10r3_ev, a10r8_ev, refs_fA, hr, hlm', e, ne_eq, not_true_eq_false, decide_false]
  · have hlm' : (l.length : Int) ≠ (m.length : Int) := by omega
    have e : l ≠ m := fun h => hlm (by rw [h])
    simp (config := {maxSteps := 1000000}) only [sim, sik, sil, reduceIte, reduceCtorEq, Nat.reduceAdd, Nat.reduceSub, Nat.reduceMul, Nat.reduceLT, Nat.reduceLeDiff, Int.reduceLT, Int.reduceLE, Int.reduceGT, Int.reduceGE, Int.reduceEq, Int.reduceNe, Int.reduceAdd, Int.reduceSub, Int.reduceNeg, Int.cast_ofNat_Int, Int.natCast_nonneg, Int.toNat_natCast, Int.reduceToNat, Int.toNat_zero, Nat.le_refl, Int.le_refl, List.take_length, Z_size, Z_known, Z_isA, Z_ref, Z_under, Z_solid, fz_Z, headSize_limbs, fz_limbs, refs_limbs, solids_limbs, List.length_map, List.contains_cons, List.contains_nil, Nat.reduceBEq, Bool.true_beq, Bool.false_beq, a10, a10r0_ev, a10r1_ev, a10r2_ev, a10r3_ev, a10r8_ev, refs_fA, hlm', e, decide_false]
end
end Tor
/-
  Chains, second part: the reference's insertion.
-/
namespace Tor
open Go
set_option linter.unusedSimpArgs false
set_option linter.unusedVariables false
variable {E : CallF}

def insR (f : Int × Int) : Bool → List (Int × Int) → List (Int × Int)
  | d, [] => if d then [] else [f]
  | d, x :: r => if d = false ∧ x.1 > f.1 then f :: x :: insR f true r
    else if d = false ∧ x.1 = f.1 then (if x.2 + f.2 ≠ 0 then (f.1, x.2 + f.2) :: insR f true r else insR f true r)
    else x :: insR f d r

def nst (l : List (Int × Int)) (f : Int × Int) (out : List (Int × Int)) (d : Bool) (i : Nat) : St :=
  { vars := [.isl (l.map fA), fA f, .isl [], .sl 0 out.length 3 0 out.length, .bool d, .int .i64 i, .u, .u, .u, .u, .u, fA f, .u], heap := [.arr out.length 3 (out.map fA)], rs := false }

theorem fA_size (p : Int × Int) : (fA p).size = 3 := by simp [fA, AV.size, AV.sizes, Z_size]

theorem fz_fA (n : Nat) (H : Heap) (k : Nat) (p : Int × Int) : fz n H (k + 3) (fA p) = fA p := by simp only [fA, fz, List.map_cons, List.map_nil, fz_Z]
theorem fz_fAs (n : Nat) (H : Heap) (k : Nat) : ∀ l : List (Int × Int), (l.map fA).map (fz n H (k + 3)) = l.map fA
  | [] => rfl
  | p :: r => by rw [List.map_cons, List.map_cons, fz_fA, fz_fAs n H k r]
theorem fz_fAs7 (n : Nat) (H : Heap) (l : List (Int × Int)) : (l.map fA).map (fz n H 7) = l.map fA := fz_fAs n H 4 l
theorem solid_fA (p : Int × Int) : (fA p).solid = true := by simp [fA, AV.solid, AV.solids, Z_solid, AV.hasRef, AV.hasRefs, Z_ref]
theorem solids_fA : ∀ l : List (Int × Int), AV.solids (l.map fA) = true
  | [] => rfl
  | p :: r => by simp only [List.map_cons, AV.solids, solid_fA, fA_ref, solids_fA r]; rfl
theorem headSize_fA (l : List (Int × Int)) : headSize 3 (l.map fA) = true := by cases l <;> simp [headSize, fA_size]
theorem take_all {α : Type} (l : List α) (f : α → AV) : List.take l.length (l.map f) = l.map f := List.take_of_length_le (by simp)

section
variable (hE : Free E)
include hE

/-- A round that only keeps the cell. -/
theorem ins_keep (l : List (Int × Int)) (f : Int × Int) (hs : l.length < 2147483648) (out : List (Int × Int)) (ho : out.length < 2147483650) (d : Bool) (i : Nat) (h1 : i < l.length)
    (h : d = true ∨ (¬ l[i].1 > f.1 ∧ l[i].1 ≠ f.1)) : run E GP a29l0 (nst l f out d i) = run E GP a29l0 (nst l f (out ++ [l[i]]) d (i + 1)) := by
  have k1 : (i : Int) < (l.length : Int) := by omega
  have g1 := fA_get h1
  have wi : IntKind.i64.wrap ((i : Int) + 1) = ((i + 1 : Nat) : Int) := i64a (by omega)
  have hm : out.length + 1 ≤ 4294967296 := by omega
  have el : (out ++ [l[i]]).length = out.length + 1 := by simp
  conv => lhs; rw [a29l0_run]
  cases d with
  | true =>
    simp (config := {maxSteps := 1000000}) only [sim, sik, sil, reduceIte, reduceCtorEq, Nat.reduceAdd, Nat.reduceSub, Nat.reduceMul, Nat.reduceLT, Nat.reduceLeDiff, Int.reduceLT, Int.reduceLE, Int.reduceGT, Int.reduceGE, Int.reduceEq, Int.reduceNe, Int.reduceAdd, Int.reduceSub, Int.reduceNeg, Int.cast_ofNat_Int, Int.natCast_nonneg, Int.toNat_natCast, Int.reduceToNat, Int.toNat_zero, Nat.le_refl, Int.le_refl, List.take_length, Z_size, Z_known, Z_isA, Z_ref, Z_under, Z_solid, fz_Z, headSize_limbs, fz_limbs, refs_limbs, solids_limbs, List.length_map, List.contains_cons, List.contains_nil, Nat.reduceBEq, Bool.true_beq, Bool.false_beq, nst, fA, a29b0, a29r3_ev, a29r4_ev, a29r5_ev, a29r6_ev, a29r7_ev, a29r8_ev, a29r9_ev, a29r10_ev, a29r11_ev, a29r12_ev, a29r13_ev, k1, g1, wi, hm, maxLenA, List.map_append, el]
  | false =>
    have h' : ¬ l[i].1 > f.1 ∧ l[i].1 ≠ f.1 := by rcases h with h | h; cases h; exact h
    simp (config := {maxSteps := 1000000}) only [sim, sik, sil, reduceIte, reduceCtorEq, Nat.reduceAdd, Nat.reduceSub, Nat.reduceMul, Nat.reduceLT, Nat.reduceLeDiff, Int.reduceLT, Int.reduceLE, Int.reduceGT, Int.reduceGE, Int.reduceEq, Int.reduceNe, Int.reduceAdd, Int.reduceSub, Int.reduceNeg, Int.cast_ofNat_Int, Int.natCast_nonneg, Int.toNat_natCast, Int.reduceToNat, Int.toNat_zero, Nat.le_refl, Int.le_refl, List.take_length, Z_size, Z_known, Z_isA, Z_ref, Z_under, Z_solid, fz_Z, headSize_limbs, fz_limbs, refs_limbs, solids_limbs, List.length_map, List.contains_cons, List.contains_nil, Nat.reduceBEq, Bool.true_beq, Bool.false_beq, nst, fA, a29b0, a29r3_ev, a29r4_ev, a29r5_ev, a29r6_ev, a29r7_ev, a29r8_ev, a29r9_ev, a29r10_ev, a29r11_ev, a29r12_ev, a29r13_ev, k1, g1, wi, hm, maxLenA, List.map_append, el, h'.1, h'.2]

/-- A round that puts the new cell first. -/
theorem ins_put (l : List (Int × Int)) (f : Int × Int) (hs : l.length < 2147483648) (out : List (Int × Int)) (ho : out.length < 2147483650) (i : Nat) (h1 : i < l.length)
    (h : l[i].1 > f.1) : run E GP a29l0 (nst l f out false i) = run E GP a29l0 (nst l f (out ++ [f] ++ [l[i]]) true (i + 1)) := by
  have k1 : (i : Int) < (l.length : Int) := by omega
  have g1 := fA_get h1
  have wi : IntKind.i64.wrap ((i : Int) + 1) = ((i + 1 : Nat) : Int) := i64a (by omega)
  have hm : out.length + 1 ≤ 4294967296 := by omega
  have hm2 : out.length + 1 + 1 ≤ 4294967296 := by omega
  have el : (out ++ [f] ++ [l[i]]).length = out.length + 1 + 1 := by simp
  conv => lhs; rw [a29l0_run]
  simp (config := {maxSteps := 1000000}) only [sim, sik, sil, reduceIte, reduceCtorEq, Nat.reduceAdd, Nat.reduceSub, Nat.reduceMul, Nat.reduceLT, Nat.reduceLeDiff, Int.reduceLT, Int.reduceLE, Int.reduceGT, Int.reduceGE, Int.reduceEq, Int.reduceNe, Int.reduceAdd, Int.reduceSub, Int.reduceNeg, Int.cast_ofNat_Int, Int.natCast_nonneg, Int.toNat_natCast, Int.reduceToNat, Int.toNat_zero, Nat.le_refl, Int.le_refl, List.take_length, Z_size, Z_known, Z_isA, Z_ref, Z_under, Z_solid, fz_Z, headSize_limbs, fz_limbs, refs_limbs, solids_limbs, List.length_map, List.contains_cons, List.contains_nil, Nat.reduceBEq, Bool.true_beq, Bool.false_beq, nst, fA, a29b0, a29r3_ev, a29r4_ev, a29r5_ev, a29r6_ev, a29r7_ev, a29r8_ev, a29r9_ev, a29r10_ev, a29r11_ev, a29r12_ev, a29r13_ev, k1, g1, wi, hm, hm2, maxLenA, List.map_append, List.length_append, List.length_cons, List.length_nil, Nat.zero_add, h]

/-- A round that adds to a cell. -/
theorem ins_sum (l : List (Int × Int)) (f : Int × Int) (hf : Sm f) (hs : l.length < 2147483648) (out : List (Int × Int)) (ho : out.length < 2147483650) (i : Nat) (h1 : i < l.length) (hli : Sm l[i])
    (h : l[i].1 = f.1) : run E GP a29l0 (nst l f out false i) = run E GP a29l0 (nst l f (if l[i].2 + f.2 ≠ 0 then out ++ [(f.1, l[i].2 + f.2)] else out) true (i + 1)) := by
  have k1 : (i : Int) < (l.length : Int) := by omega
  have g1 := fA_get h1
  rw [h] at g1
  have k2 : ¬ f.1 > f.1 := by omega
  have wi : IntKind.i64.wrap ((i : Int) + 1) = ((i + 1 : Nat) : Int) := i64a (by omega)
  have hm : out.length + 1 ≤ 4294967296 := by omega
  have ha := fun H => r1_add hE l[i].2 f.2 H (by unfold Sm at hli; omega) (by unfold Sm at hf; omega)
  have hg := r1_sign hE (l[i].2 + f.2)
  have el : (out ++ [(f.1, l[i].2 + f.2)]).length = out.length + 1 := by simp
  conv => lhs; rw [a29l0_run]
  by_cases hz : l[i].2 + f.2 = 0
  · rw [if_neg (by simpa using hz)]
    rw [hz] at ha hg
    simp only [Int.sign_zero] at hg
    simp (config := {maxSteps := 1000000}) only [sim, sik, sil, reduceIte, reduceCtorEq, Nat.reduceAdd, Nat.reduceSub, Nat.reduceMul, Nat.reduceLT, Nat.reduceLeDiff, Int.reduceLT, Int.reduceLE, Int.reduceGT, Int.reduceGE, Int.reduceEq, Int.reduceNe, Int.reduceAdd, Int.reduceSub, Int.reduceNeg, Int.cast_ofNat_Int, Int.natCast_nonneg, Int.toNat_natCast, Int.reduceToNat, Int.toNat_zero, Nat.le_refl, Int.le_refl, List.take_length, Z_size, Z_known, Z_isA, Z_ref, Z_under, Z_solid, fz_Z, headSize_limbs, fz_limbs, refs_limbs, solids_limbs, List.length_map, List.contains_cons, List.contains_nil, Nat.reduceBEq, Bool.true_beq, Bool.false_beq, nst, fA, a29b0, a29r3_ev, a29r4_ev, a29r5_ev, a29r6_ev, a29r7_ev, a29r8_ev, a29r9_ev, a29r10_ev, a29r11_ev, a29r12_ev, a29r13_ev, k1, g1, wi, hm, maxLenA, List.map_append, k2, ha, hg, ne_eq, not_true_eq_false, decide_false]
  · rw [if_pos hz]
    have hsg : (l[i].2 + f.2).sign ≠ 0 := by
      intro e; exact hz (Int.sign_eq_zero_iff_zero.1 e)
    simp (config := {maxSteps := 1000000}) only [sim, sik, sil, reduceIte, reduceCtorEq, Nat.reduceAdd, Nat.reduceSub, Nat.reduceMul, Nat.reduceLT, Nat.reduceLeDiff, Int.reduceLT, Int.reduceLE, Int.reduceGT, Int.reduceGE, Int.reduceEq, Int.reduceNe, Int.reduceAdd, Int.reduceSub, Int.reduceNeg, Int.cast_ofNat_Int, Int.natCast_nonneg, Int.toNat_natCast, Int.reduceToNat, Int.toNat_zero, Nat.le_refl, Int.le_refl, List.take_length, Z_size, Z_known, Z_isA, Z_ref, Z_under, Z_solid, fz_Z, headSize_limbs, fz_limbs, refs_limbs, solids_limbs, List.length_map, List.contains_cons, List.contains_nil, Nat.reduceBEq, Bool.true_beq, Bool.false_beq, nst, fA, a29b0, a29r3_ev, a29r4_ev, a29r5_ev, a29r6_ev, a29r7_ev, a29r8_ev, a29r9_ev, a29r10_ev, a29r11_ev, a29r12_ev, a29r13_ev, k1, g1, wi, hm, maxLenA, List.map_append, el, k2, ha, hg, hsg, ne_eq, not_false_eq_true, decide_true]

omit hE in
theorem ins_exit (l : List (Int × Int)) (f : Int × Int) (out : List (Int × Int)) (d : Bool) :
    run E GP a29l0 (nst l f out d l.length) = some (.exit 0, { vars := [.isl (l.map fA), fA f, .isl [], .sl 0 out.length 3 0 out.length, .bool d, .int .i64 l.length, .bool false, .u, .u, .u, .u, fA f, .u], heap := [.arr out.length 3 (out.map fA)], rs := false }) := by
  have k1 : ¬ (l.length : Int) < (l.length : Int) := by omega
  rw [a29l0_run]
  simp (config := {maxSteps := 1000000}) only [sim, sik, sil, reduceIte, reduceCtorEq, Nat.reduceAdd, Nat.reduceSub, Nat.reduceMul, Nat.reduceLT, Nat.reduceLeDiff, Int.reduceLT, Int.reduceLE, Int.reduceGT, Int.reduceGE, Int.reduceEq, Int.reduceNe, Int.reduceAdd, Int.reduceSub, Int.reduceNeg, Int.cast_ofNat_Int, Int.natCast_nonneg, Int.toNat_natCast, Int.reduceToNat, Int.toNat_zero, Nat.le_refl, Int.le_refl, List.take_length, Z_size, Z_known, Z_isA, Z_ref, Z_under, Z_solid, fz_Z, headSize_limbs, fz_limbs, refs_limbs, solids_limbs, List.length_map, List.contains_cons, List.contains_nil, Nat.reduceBEq, Bool.true_beq, Bool.false_beq, nst, fA, a29b0, a29r3_ev, a29r4_ev, a29r5_ev, a29r6_ev, a29r7_ev, a29r8_ev, a29r9_ev, a29r10_ev, a29r11_ev, a29r12_ev, a29r13_ev, k1]

/-- What is left at the end. -/
def insEnd (f : Int × Int) (d : Bool) : List (Int × Int) := if d then [] else [f]

theorem ins_loop (l : List (Int × Int)) (f : Int × Int) (hf : Sm f) (hl : ∀ p ∈ l, Sm p) (hs : l.length < 2147483648) : ∀ (k i : Nat) (d : Bool) (out : List (Int × Int)), l.length = i + k → out.length ≤ i + (if d then 1 else 0) →
    ∃ (out' : List (Int × Int)) (d' : Bool), run E GP a29l0 (nst l f out d i) = some (.exit 0, { vars := [.isl (l.map fA), fA f, .isl [], .sl 0 out'.length 3 0 out'.length, .bool d', .int .i64 l.length, .bool false, .u, .u, .u, .u, fA f, .u], heap := [.arr out'.length 3 (out'.map fA)], rs := false }) ∧
      out'.length ≤ l.length + 1 ∧ out' ++ insEnd f d' = out ++ insR f d (l.drop i) := by
  intro k
  induction k with
  | zero =>
    intro i d out h1 h2
    have hi : i = l.length := by omega
    subst hi
    refine ⟨out, d, ins_exit l f out d, by cases d <;> simp at h2 <;> omega, ?_⟩
    rw [List.drop_length]; cases d <;> rfl
  | succ k ih =>
    intro i d out h1 h2
    have hi : i < l.length := by omega
    have hd : l.drop i = l[i] :: l.drop (i + 1) := List.drop_eq_getElem_cons hi
    have ho : out.length < 2147483650 := by cases d <;> simp at h2 <;> omega
    rw [hd]
    by_cases c1 : d = true ∨ (¬ l[i].1 > f.1 ∧ l[i].1 ≠ f.1)
    · rw [ins_keep hE l f hs out ho d i hi c1]
      obtain ⟨out', d', e1, e2, e3⟩ := ih (i + 1) d (out ++ [l[i]]) (by omega) (by simp; omega)
      refine ⟨out', d', e1, e2, e3.trans ?_⟩
      have : insR f d (l[i] :: l.drop (i + 1)) = l[i] :: insR f d (l.drop (i + 1)) := by
        rw [insR, if_neg, if_neg]
        · rintro ⟨a, b⟩; rcases c1 with c | c
          · rw [a] at c; cases c
          · exact c.2 b
        · rintro ⟨a, b⟩; rcases c1 with c | c
          · rw [a] at c; cases c
          · exact c.1 b
      rw [this, List.append_assoc]; rfl
    · have hdf : d = false := by cases d with
        | true => exact absurd (Or.inl rfl) c1
        | false => rfl
      subst hdf
      simp only [Bool.false_eq_true, if_false, Nat.add_zero] at h2
      by_cases c2 : l[i].1 > f.1
      · rw [ins_put hE l f hs out ho i hi c2]
        obtain ⟨out', d', e1, e2, e3⟩ := ih (i + 1) true (out ++ [f] ++ [l[i]]) (by omega) (by simp; omega)
        refine ⟨out', d', e1, e2, e3.trans ?_⟩
        rw [insR, if_pos ⟨rfl, c2⟩]; simp
      · have c3 : l[i].1 = f.1 := by
          by_cases c3 : l[i].1 = f.1
          · exact c3
          · exact absurd (Or.inr ⟨c2, c3⟩) c1
        rw [ins_sum hE l f hf hs out ho i hi (hl _ (List.getElem_mem hi)) c3]
        obtain ⟨out', d', e1, e2, e3⟩ := ih (i + 1) true (if l[i].2 + f.2 ≠ 0 then out ++ [(f.1, l[i].2 + f.2)] else out) (by omega) (by split <;> simp <;> omega)
        refine ⟨out', d', e1, e2, e3.trans ?_⟩
        have hin : insR f false (l[i] :: l.drop (i + 1)) = (if l[i].2 + f.2 ≠ 0 then (f.1, l[i].2 + f.2) :: insR f true (l.drop (i + 1)) else insR f true (l.drop (i + 1))) := by
          rw [insR, if_neg (fun h => c2 h.2), if_pos ⟨rfl, c3⟩]
        rw [hin]
        by_cases hz : l[i].2 + f.2 ≠ 0
        · rw [if_pos hz, if_pos hz]; simp
        · rw [if_neg hz, if_neg hz]

/-- The reference's insertion. -/
def insert26 (l : List (Int × Int)) (f : Int × Int) : List (Int × Int) := insR f (decide (f.2 = 0)) l

theorem r26_insert (l : List (Int × Int)) (f : Int × Int) (hf : Sm f) (hl : ∀ p ∈ l, Sm p) (hs : l.length < 2147483647) (H : Heap) :
    call E GP 29 [.isl (l.map fA), fA f] H = some (.isl ((insert26 l f).map fA), H, false) := by
  rw [call_fun (hE _ _ _ (by decide)) (f := a29) rfl rfl]
  have hg := r1_sign hE f.2
  have hz : decide (f.2.sign = 0) = decide (f.2 = 0) := by rw [decide_eq_decide]; exact Int.sign_eq_zero_iff_zero
  obtain ⟨out, d, e1, e2, e3⟩ := ins_loop hE l f hf hl (by omega) l.length 0 (decide (f.2 = 0)) [] (by omega) (by simp)
  rw [List.drop_zero, List.nil_append] at e3
  unfold insert26
  rw [← e3]
  simp only [nst, List.length_nil, List.map_nil, Int.ofNat_zero] at e1
  have e1' := e1
  have hm : out.length + 1 ≤ 4294967296 := by omega
  cases d with
  | true =>
    simp only [insEnd, if_true, List.append_nil]
    simp only [fA] at e1
    simp (config := {maxSteps := 1000000}) only [sim, sik, sil, reduceIte, reduceCtorEq, Nat.reduceAdd, Nat.reduceSub, Nat.reduceMul, Nat.reduceLT, Nat.reduceLeDiff, Int.reduceLT, Int.reduceLE, Int.reduceGT, Int.reduceGE, Int.reduceEq, Int.reduceNe, Int.reduceAdd, Int.reduceSub, Int.reduceNeg, Int.cast_ofNat_Int, Int.natCast_nonneg, Int.toNat_natCast, Int.reduceToNat, Int.toNat_zero, Nat.le_refl, Int.le_refl, List.take_length, Z_size, Z_known, Z_isA, Z_ref, Z_under, Z_solid, fz_Z, headSize_limbs, fz_limbs, refs_limbs, solids_limbs, List.length_map, List.contains_cons, List.contains_nil, Nat.reduceBEq, Bool.true_beq, Bool.false_beq, a29, a29r0_ev, a29r1_ev, a29r2_ev, a29r14_ev, a29r15_ev, a29r16_ev, refs_fA, fA, hg, hz, e1, hm, maxLenA, take_all, fz_fAs7, solids_fA, headSize_fA]
  | false =>
    simp only [insEnd, Bool.false_eq_true, if_false, List.map_append]
    simp only [fA] at e1
    simp (config := {maxSteps := 1000000}) only [sim, sik, sil, reduceIte, reduceCtorEq, Nat.reduceAdd, Nat.reduceSub, Nat.reduceMul, Nat.reduceLT, Nat.reduceLeDiff, Int.reduceLT, Int.reduceLE, Int.reduceGT, Int.reduceGE, Int.reduceEq, Int.reduceNe, Int.reduceAdd, Int.reduceSub, Int.reduceNeg, Int.cast_ofNat_Int, Int.natCast_nonneg, Int.toNat_natCast, Int.reduceToNat, Int.toNat_zero, Nat.le_refl, Int.le_refl, List.take_length, Z_size, Z_known, Z_isA, Z_ref, Z_under, Z_solid, fz_Z, headSize_limbs, fz_limbs, refs_limbs, solids_limbs, List.length_map, List.contains_cons, List.contains_nil, Nat.reduceBEq, Bool.true_beq, Bool.false_beq, a29, a29r0_ev, a29r1_ev, a29r2_ev, a29r14_ev, a29r15_ev, a29r16_ev, refs_fA, fA, hg, hz, e1, hm, maxLenA]
    have e9 : List.map fA out ++ [AV.agg [.int .i64 f.1, Z f.2]] = (out ++ [f]).map fA := by simp [fA]
    have e8 : out.length + 1 = (out ++ [f]).length := by simp
    simp (config := {maxSteps := 1000000}) only [sim, sik, sil, reduceIte, reduceCtorEq, Nat.reduceAdd, Nat.reduceSub, Nat.reduceMul, Nat.reduceLT, Nat.reduceLeDiff, Int.reduceLT, Int.reduceLE, Int.reduceGT, Int.reduceGE, Int.reduceEq, Int.reduceNe, Int.reduceAdd, Int.reduceSub, Int.reduceNeg, Int.cast_ofNat_Int, Int.natCast_nonneg, Int.toNat_natCast, Int.reduceToNat, Int.toNat_zero, Nat.le_refl, Int.le_refl, List.take_length, Z_size, Z_known, Z_isA, Z_ref, Z_under, Z_solid, fz_Z, headSize_limbs, fz_limbs, refs_limbs, solids_limbs, List.length_map, List.contains_cons, List.contains_nil, Nat.reduceBEq, Bool.true_beq, Bool.false_beq, e9, e8, take_all, fz_fAs7, solids_fA, refs_fA, headSize_fA]
end
end Tor
/-
  Chains, third part: the reference's chains and sums.
-/
namespace Tor
open Go
set_option linter.unusedSimpArgs false
set_option linter.unusedVariables false
set_option linter.unusedSectionVars false
variable {E : CallF}

/-- Coefficients up to a bound. -/
def Bd (N : Nat) (l : List (Int × Int)) : Prop := ∀ p ∈ l, p.2.natAbs ≤ N

theorem sm_of {N : Nat} (hN : N < B32 ^ 4) {p : Int × Int} (h : p.2.natAbs ≤ N) : Sm p := by
  unfold Sm
  have h1 : ∀ (n k : Nat), n < B32 ^ k → (limbs n).length ≤ k := by
    intro n k hk
    rcases Nat.lt_or_ge k (limbs n).length with h | h
    · exfalso
      have hne : limbs n ≠ [] := by intro e; rw [e] at h; simp at h
      obtain ⟨l, d, e⟩ : ∃ l d, limbs n = l ++ [d] := ⟨_, _, (List.dropLast_concat_getLast hne).symm⟩
      have hd : d ≠ 0 := by
        have := limbs_last n hne
        simp only [e] at this
        simpa using this
      have h2 := val_limbs n
      rw [e, val_append] at h2
      simp only [val, Nat.mul_zero, Nat.add_zero] at h2
      have h3 : l.length + 1 = (limbs n).length := by rw [e]; simp
      have h4 : B32 ^ k ≤ B32 ^ l.length := Nat.pow_le_pow_right (by decide) (by omega)
      have h5 : B32 ^ l.length * 1 ≤ B32 ^ l.length * d := Nat.mul_le_mul_left _ (by omega)
      omega
    · exact h
  have := h1 p.2.natAbs 4 (by omega)
  omega

theorem bd_mono {M N : Nat} (h : M ≤ N) {l : List (Int × Int)} (hl : Bd M l) : Bd N l := fun p hp => Nat.le_trans (hl p hp) h

theorem insR_bd {M N : Nat} {f : Int × Int} (hf : f.2.natAbs ≤ N) : ∀ (l : List (Int × Int)) (d : Bool), Bd M l → Bd (M + N) (insR f d l)
  | [], d, _ => by
    cases d <;> intro p hp <;> simp [insR] at hp
    subst hp; omega
  | x :: r, d, h => by
    have hx : x.2.natAbs ≤ M := h x (.head _)
    have hr : Bd M r := fun p hp => h p (.tail _ hp)
    have i1 := insR_bd hf r true hr
    have i2 := insR_bd hf r d hr
    rw [insR]
    split
    · intro p hp
      cases hp with
      | head => omega
      | tail _ hp => cases hp with
        | head => omega
        | tail _ hp => exact i1 p hp
    · split
      · split
        · intro p hp
          cases hp with
          | head => simp only; omega
          | tail _ hp => exact i1 p hp
        · exact i1
      · intro p hp
        cases hp with
        | head => omega
        | tail _ hp => exact i2 p hp

theorem insR_len (f : Int × Int) : ∀ (l : List (Int × Int)) (d : Bool), (insR f d l).length ≤ l.length + 1
  | [], d => by cases d <;> simp [insR]
  | x :: r, d => by
    have i0 : ∀ r : List (Int × Int), (insR f true r).length ≤ r.length := by
      intro r
      induction r with
      | nil => simp [insR]
      | cons y r ih => simp [insR]; exact ih
    have i1 := i0 r
    have i2 := insR_len f r d
    rw [insR]
    split
    · simp; omega
    · split
      · split
        · simp; omega
        · simp; omega
      · simp; omega

section
variable (hE : Free E)
include hE

theorem make_loop (l : List (Int × Int)) (N : Nat) (hl : Bd N l) (hs : l.length < 2147483647) (hN : N * (l.length + 1) < B32 ^ 4) : ∀ (k i : Nat) (acc : List (Int × Int)), l.length = i + k → Bd (N * i) acc → acc.length ≤ i →
    run E GP a3l0 { vars := [.isl (l.map fA), .isl [], .isl (acc.map fA), .int .i64 (i : Nat), .u], heap := [], rs := false } =
      some (.exit 0, { vars := [.isl (l.map fA), .isl [], .isl (((l.drop i).foldl insert26 acc).map fA), .int .i64 l.length, .bool false], heap := [], rs := false }) := by
  intro k
  induction k with
  | zero =>
    intro i acc h1 h2 h3
    have hi : i = l.length := by omega
    subst hi
    have k1 : ¬ (l.length : Int) < (l.length : Int) := by omega
    rw [a3l0_run, List.drop_length, List.foldl_nil]
    simp (config := {maxSteps := 1000000}) only [sim, sik, sil, reduceIte, reduceCtorEq, Nat.reduceAdd, Nat.reduceSub, Nat.reduceMul, Nat.reduceLT, Nat.reduceLeDiff, Int.reduceLT, Int.reduceLE, Int.reduceGT, Int.reduceGE, Int.reduceEq, Int.reduceNe, Int.reduceAdd, Int.reduceSub, Int.reduceNeg, Int.cast_ofNat_Int, Int.natCast_nonneg, Int.toNat_natCast, Int.reduceToNat, Int.toNat_zero, Nat.le_refl, Int.le_refl, List.take_length, Z_size, Z_known, Z_isA, Z_ref, Z_under, Z_solid, fz_Z, headSize_limbs, fz_limbs, refs_limbs, solids_limbs, List.length_map, List.contains_cons, List.contains_nil, Nat.reduceBEq, Bool.true_beq, Bool.false_beq, a3b0, a3r3_ev, k1]
  | succ k ih =>
    intro i acc h1 h2 h3
    have hi : i < l.length := by omega
    have k1 : (i : Int) < (l.length : Int) := by omega
    have g1 : (l.map fA)[i]? = some (fA l[i]) := by simp [hi]
    have wi : IntKind.i64.wrap ((i : Int) + 1) = ((i + 1 : Nat) : Int) := i64a (by omega)
    have hd : l.drop i = l[i] :: l.drop (i + 1) := List.drop_eq_getElem_cons hi
    have hb := hl _ (List.getElem_mem hi)
    have hNi : N * i ≤ N * (l.length + 1) := Nat.mul_le_mul_left _ (by omega)
    have hN1 : N * 1 ≤ N * (l.length + 1) := Nat.mul_le_mul_left _ (by omega)
    have hins := r26_insert hE acc l[i] (sm_of (N := N) (by omega) hb) (fun p hp => sm_of (N := N * i) (by omega) (h2 p hp)) (by omega)
    have hacc : Bd (N * (i + 1)) (insert26 acc l[i]) := by
      rw [Nat.mul_succ]; exact insR_bd hb acc _ h2
    have hlen := insR_len l[i] acc (decide (l[i].2 = 0))
    rw [hd, List.foldl_cons, ← ih (i + 1) (insert26 acc l[i]) (by omega) hacc (by unfold insert26; omega)]
    conv => lhs; rw [a3l0_run]
    have hsz := fA_size l[i]
    have hA : (fA l[i]).isA = true := rfl
    have hK : (fA l[i]).known = true := rfl
    have hR := fA_ref l[i]
    simp (config := {maxSteps := 1000000}) only [sim, sik, sil, reduceIte, reduceCtorEq, Nat.reduceAdd, Nat.reduceSub, Nat.reduceMul, Nat.reduceLT, Nat.reduceLeDiff, Int.reduceLT, Int.reduceLE, Int.reduceGT, Int.reduceGE, Int.reduceEq, Int.reduceNe, Int.reduceAdd, Int.reduceSub, Int.reduceNeg, Int.cast_ofNat_Int, Int.natCast_nonneg, Int.toNat_natCast, Int.reduceToNat, Int.toNat_zero, Nat.le_refl, Int.le_refl, List.take_length, Z_size, Z_known, Z_isA, Z_ref, Z_under, Z_solid, fz_Z, headSize_limbs, fz_limbs, refs_limbs, solids_limbs, List.length_map, List.contains_cons, List.contains_nil, Nat.reduceBEq, Bool.true_beq, Bool.false_beq, a3b0, a3r3_ev, a3r4_ev, a3r5_ev, k1, g1, wi, hsz, hA, hK, hR, hins]

theorem r26_make (l : List (Int × Int)) (N : Nat) (hl : Bd N l) (hs : l.length < 2147483647) (hN : N * (l.length + 1) < B32 ^ 4) (H : Heap) :
    call E GP 3 [.isl (l.map fA)] H = some (.isl ((l.foldl insert26 []).map fA), H, false) := by
  rw [call_fun (hE _ _ _ (by decide)) (f := a3) rfl rfl]
  have hr := make_loop hE l N hl hs hN l.length 0 [] (by omega) (by intro p hp; cases hp) (by simp)
  simp only [List.map_nil, Int.ofNat_zero, List.drop_zero] at hr
  simp (config := {maxSteps := 1000000}) only [sim, sik, sil, reduceIte, reduceCtorEq, Nat.reduceAdd, Nat.reduceSub, Nat.reduceMul, Nat.reduceLT, Nat.reduceLeDiff, Int.reduceLT, Int.reduceLE, Int.reduceGT, Int.reduceGE, Int.reduceEq, Int.reduceNe, Int.reduceAdd, Int.reduceSub, Int.reduceNeg, Int.cast_ofNat_Int, Int.natCast_nonneg, Int.toNat_natCast, Int.reduceToNat, Int.toNat_zero, Nat.le_refl, Int.le_refl, List.take_length, Z_size, Z_known, Z_isA, Z_ref, Z_under, Z_solid, fz_Z, headSize_limbs, fz_limbs, refs_limbs, solids_limbs, List.length_map, List.contains_cons, List.contains_nil, Nat.reduceBEq, Bool.true_beq, Bool.false_beq, a3, a3r0_ev, a3r1_ev, a3r2_ev, a3r6_ev, refs_fA, hr, fz_fAs7, solids_fA]
end
end Tor
/-
  Chains, fourth part: the reference's sums and validity.
-/
namespace Tor
open Go
set_option linter.unusedSimpArgs false
set_option linter.unusedVariables false
set_option linter.unusedSectionVars false
variable {E : CallF} (hE : Free E)
include hE

theorem add_loop (l : List (Int × Int)) (c : Int) (av : AV) (ha : av.under 0 = true) (M N : Nat) (hc : Sm (0, c)) (hsm : ∀ p ∈ l, Sm p) (hl : ∀ p ∈ l, (c * p.2).natAbs ≤ N) (hs : l.length < 1073741824) (hN : M + N * (l.length + 1) < B32 ^ 4) : ∀ (k i : Nat) (acc : List (Int × Int)), l.length = i + k → Bd (M + N * i) acc → acc.length ≤ 1073741824 + i →
    run E GP a16l0 { vars := [av, .isl (l.map fA), Z c, .isl [], .isl (acc.map fA), .int .i64 (i : Nat), .u, Z c], heap := [], rs := false } =
      some (.exit 0, { vars := [av, .isl (l.map fA), Z c, .isl [], .isl (((l.drop i).foldl (fun a p => insert26 a (p.1, c * p.2)) acc).map fA), .int .i64 l.length, .bool false, Z c], heap := [], rs := false }) := by
  intro k
  induction k with
  | zero =>
    intro i acc h1 h2 h3
    have hi : i = l.length := by omega
    subst hi
    have k1 : ¬ (l.length : Int) < (l.length : Int) := by omega
    rw [a16l0_run, List.drop_length, List.foldl_nil]
    simp (config := {maxSteps := 1000000}) only [sim, sik, sil, reduceIte, reduceCtorEq, Nat.reduceAdd, Nat.reduceSub, Nat.reduceMul, Nat.reduceLT, Nat.reduceLeDiff, Int.reduceLT, Int.reduceLE, Int.reduceGT, Int.reduceGE, Int.reduceEq, Int.reduceNe, Int.reduceAdd, Int.reduceSub, Int.reduceNeg, Int.cast_ofNat_Int, Int.natCast_nonneg, Int.toNat_natCast, Int.reduceToNat, Int.toNat_zero, Nat.le_refl, Int.le_refl, List.take_length, Z_size, Z_known, Z_isA, Z_ref, Z_under, Z_solid, fz_Z, headSize_limbs, fz_limbs, refs_limbs, solids_limbs, List.length_map, List.contains_cons, List.contains_nil, Nat.reduceBEq, Bool.true_beq, Bool.false_beq, a16b0, a16r3_ev, k1, ha]
  | succ k ih =>
    intro i acc h1 h2 h3
    have hi : i < l.length := by omega
    have k1 : (i : Int) < (l.length : Int) := by omega
    have g1 := fA_get hi
    have wi : IntKind.i64.wrap ((i : Int) + 1) = ((i + 1 : Nat) : Int) := i64a (by omega)
    have hd : l.drop i = l[i] :: l.drop (i + 1) := List.drop_eq_getElem_cons hi
    have hb := hl _ (List.getElem_mem hi)
    have hp := hsm _ (List.getElem_mem hi)
    have hNi : N * i ≤ N * (l.length + 1) := Nat.mul_le_mul_left _ (by omega)
    have hN1 : N * 1 ≤ N * (l.length + 1) := Nat.mul_le_mul_left _ (by omega)
    have hmul := fun H => r1_mul hE c l[i].2 H (by unfold Sm at hc; simp only at hc; omega) (by unfold Sm at hp; omega) (by unfold Sm at hc hp; simp only at hc; omega)
    have hins := r26_insert hE acc (l[i].1, c * l[i].2) (sm_of (N := N) (by omega) hb) (fun p hp => sm_of (N := M + N * i) (by omega) (h2 p hp)) (by omega)
    have hacc : Bd (M + N * (i + 1)) (insert26 acc (l[i].1, c * l[i].2)) := by
      rw [Nat.mul_succ, ← Nat.add_assoc]; exact insR_bd hb acc _ h2
    have hlen := insR_len (l[i].1, c * l[i].2) acc (decide (c * l[i].2 = 0))
    rw [hd, List.foldl_cons, ← ih (i + 1) (insert26 acc (l[i].1, c * l[i].2)) (by omega) hacc (by unfold insert26; simp only; omega)]
    conv => lhs; rw [a16l0_run]
    simp only [fA] at hins
    simp (config := {maxSteps := 1000000}) only [sim, sik, sil, reduceIte, reduceCtorEq, Nat.reduceAdd, Nat.reduceSub, Nat.reduceMul, Nat.reduceLT, Nat.reduceLeDiff, Int.reduceLT, Int.reduceLE, Int.reduceGT, Int.reduceGE, Int.reduceEq, Int.reduceNe, Int.reduceAdd, Int.reduceSub, Int.reduceNeg, Int.cast_ofNat_Int, Int.natCast_nonneg, Int.toNat_natCast, Int.reduceToNat, Int.toNat_zero, Nat.le_refl, Int.le_refl, List.take_length, Z_size, Z_known, Z_isA, Z_ref, Z_under, Z_solid, fz_Z, headSize_limbs, fz_limbs, refs_limbs, solids_limbs, List.length_map, List.contains_cons, List.contains_nil, Nat.reduceBEq, Bool.true_beq, Bool.false_beq, a16b0, a16r3_ev, a16r4_ev, a16r5_ev, k1, g1, wi, hmul, hins, ha]

def add26 (a l : List (Int × Int)) (c : Int) : List (Int × Int) := l.foldl (fun a p => insert26 a (p.1, c * p.2)) a

theorem r26_add (a l : List (Int × Int)) (c : Int) (M N : Nat) (ha : Bd M a) (hc : Sm (0, c)) (hsm : ∀ p ∈ l, Sm p) (hl : ∀ p ∈ l, (c * p.2).natAbs ≤ N) (hsa : a.length ≤ 1073741824) (hs : l.length < 1073741824) (hN : M + N * (l.length + 1) < B32 ^ 4) (H : Heap) :
    call E GP 16 [.isl (a.map fA), .isl (l.map fA), Z c] H = some (.isl ((add26 a l c).map fA), H, false) := by
  rw [call_fun (hE _ _ _ (by decide)) (f := a16) rfl rfl]
  have hr := add_loop hE l c (.isl (a.map fA)) (by simp [AV.under, refs_fA]) M N hc hsm hl hs hN l.length 0 a (by omega) (by simpa using ha) (by omega)
  simp only [Int.ofNat_zero, List.drop_zero] at hr
  unfold add26
  simp (config := {maxSteps := 1000000}) only [sim, sik, sil, reduceIte, reduceCtorEq, Nat.reduceAdd, Nat.reduceSub, Nat.reduceMul, Nat.reduceLT, Nat.reduceLeDiff, Int.reduceLT, Int.reduceLE, Int.reduceGT, Int.reduceGE, Int.reduceEq, Int.reduceNe, Int.reduceAdd, Int.reduceSub, Int.reduceNeg, Int.cast_ofNat_Int, Int.natCast_nonneg, Int.toNat_natCast, Int.reduceToNat, Int.toNat_zero, Nat.le_refl, Int.le_refl, List.take_length, Z_size, Z_known, Z_isA, Z_ref, Z_under, Z_solid, fz_Z, headSize_limbs, fz_limbs, refs_limbs, solids_limbs, List.length_map, List.contains_cons, List.contains_nil, Nat.reduceBEq, Bool.true_beq, Bool.false_beq, a16, a16r0_ev, a16r1_ev, a16r2_ev, a16r6_ev, refs_fA, hr, fz_fAs7, solids_fA]
end Tor
/-
  Chains, fifth part: the reference's validity.
-/
namespace Tor
open Go
set_option linter.unusedSimpArgs false
set_option linter.unusedVariables false
set_option linter.unusedSectionVars false
variable {E : CallF} (hE : Free E)
include hE

/-- A cell that stands right behind a cell: a coefficient that is not 0, a greater ID. -/
def okAt (l : List (Int × Int)) (i : Nat) : Bool := decide ((l.getD i (0, 0)).2.sign ≠ 0) && (decide (i = 0) || decide ((l.getD (i - 1) (0, 0)).1 < (l.getD i (0, 0)).1))

omit hE in
theorem getD_get (l : List (Int × Int)) (i : Nat) (h : i < l.length) : l[i] = l.getD i (0, 0) := by simp [List.getD, h]

theorem valid_loop (l : List (Int × Int)) (hl : ∀ p ∈ l, Sm p) (hs : l.length < 2147483648) : ∀ k i, l.length = i + k →
    ((∀ j, i ≤ j → j < l.length → okAt l j = true) → run E GP a17l0 { vars := [.isl (l.map fA), .bool false, .int .i64 (i : Nat), .u, .u], heap := [], rs := false } =
      some (.exit 0, { vars := [.isl (l.map fA), .bool false, .int .i64 l.length, .bool false, .u], heap := [], rs := false })) ∧
    ((¬ ∀ j, i ≤ j → j < l.length → okAt l j = true) → ∃ j : Nat, run E GP a17l0 { vars := [.isl (l.map fA), .bool false, .int .i64 (i : Nat), .u, .u], heap := [], rs := false } =
      some (.ret, { vars := [.isl (l.map fA), .bool false, .int .i64 j, .bool true, .bool true], heap := [], rs := false })) := by
  intro k
  induction k with
  | zero =>
    intro i h
    have hi : i = l.length := by omega
    subst hi
    have k1 : ¬ (l.length : Int) < (l.length : Int) := by omega
    refine ⟨fun _ => ?_, fun h => absurd (fun j h1 h2 => by omega) h⟩
    rw [a17l0_run]
    simp (config := {maxSteps := 1000000}) only [sim, sik, sil, reduceIte, reduceCtorEq, Nat.reduceAdd, Nat.reduceSub, Nat.reduceMul, Nat.reduceLT, Nat.reduceLeDiff, Int.reduceLT, Int.reduceLE, Int.reduceGT, Int.reduceGE, Int.reduceEq, Int.reduceNe, Int.reduceAdd, Int.reduceSub, Int.reduceNeg, Int.cast_ofNat_Int, Int.natCast_nonneg, Int.toNat_natCast, Int.reduceToNat, Int.toNat_zero, Nat.le_refl, Int.le_refl, List.take_length, Z_size, Z_known, Z_isA, Z_ref, Z_under, Z_solid, fz_Z, headSize_limbs, fz_limbs, refs_limbs, solids_limbs, List.length_map, List.contains_cons, List.contains_nil, Nat.reduceBEq, Bool.true_beq, Bool.false_beq, a17b0, a17r2_ev, k1]
  | succ k ih =>
    intro i h
    have h1 : i < l.length := by omega
    have k1 : (i : Int) < (l.length : Int) := by omega
    have g1 := fA_get h1
    have wi : IntKind.i64.wrap ((i : Int) + 1) = ((i + 1 : Nat) : Int) := i64a (by omega)
    have s1 := hl _ (List.getElem_mem h1)
    have hv := fun H => r1_valid hE l[i].2 H (by unfold Sm at s1; omega)
    have hg := r1_sign hE l[i].2
    obtain ⟨ih1, ih2⟩ := ih (i + 1) (by omega)
    have hok : okAt l i = (decide (l[i].2.sign ≠ 0) && (decide (i = 0) || decide ((l.getD (i - 1) (0, 0)).1 < l[i].1))) := by
      unfold okAt; rw [getD_get l i h1]
    have hiff : (∀ j, i ≤ j → j < l.length → okAt l j = true) ↔ okAt l i = true ∧ ∀ j, i + 1 ≤ j → j < l.length → okAt l j = true := by
      constructor
      · exact fun hh => ⟨hh i (Nat.le_refl _) h1, fun j a b => hh j (by omega) b⟩
      · rintro ⟨a, b⟩ j c d
        rcases Nat.eq_or_lt_of_le c with e | e
        · subst e; exact a
        · exact b j e d
    have hround : okAt l i = true → run E GP a17l0 { vars := [.isl (l.map fA), .bool false, .int .i64 (i : Nat), .u, .u], heap := [], rs := false } = run E GP a17l0 { vars := [.isl (l.map fA), .bool false, .int .i64 ((i + 1 : Nat) : Int), .u, .u], heap := [], rs := false } := by
      intro hk
      rw [hok] at hk
      simp only [Bool.and_eq_true, decide_eq_true_eq, Bool.or_eq_true] at hk
      obtain ⟨hk1, hk2⟩ := hk
      conv => lhs; rw [a17l0_run]
      by_cases hi0 : i = 0
      · have k2 : ¬ (i : Int) > 0 := by omega
        simp (config := {maxSteps := 1000000}) only [sim, sik, sil, reduceIte, reduceCtorEq, Nat.reduceAdd, Nat.reduceSub, Nat.reduceMul, Nat.reduceLT, Nat.reduceLeDiff, Int.reduceLT, Int.reduceLE, Int.reduceGT, Int.reduceGE, Int.reduceEq, Int.reduceNe, Int.reduceAdd, Int.reduceSub, Int.reduceNeg, Int.cast_ofNat_Int, Int.natCast_nonneg, Int.toNat_natCast, Int.reduceToNat, Int.toNat_zero, Nat.le_refl, Int.le_refl, List.take_length, Z_size, Z_known, Z_isA, Z_ref, Z_under, Z_solid, fz_Z, headSize_limbs, fz_limbs, refs_limbs, solids_limbs, List.length_map, List.contains_cons, List.contains_nil, Nat.reduceBEq, Bool.true_beq, Bool.false_beq, a17b0, a17r2_ev, a17r3_ev, a17r4_ev, a17r5_ev, k1, g1, wi, hv, hg, hk1, k2]
      · have k2 : (i : Int) > 0 := by omega
        have hp : IntKind.i64.wrap ((i : Int) - 1) = ((i - 1 : Nat) : Int) := by rw [i64w (by omega)]; omega
        have g0 := fA_get (l := l) (i := i - 1) (by omega)
        have hk3 : ¬ l[i - 1].1 ≥ l[i].1 := by
          have := hk2.resolve_left hi0
          rw [← getD_get l (i - 1) (by omega)] at this; omega
        have k3 : ((i - 1 : Nat) : Int) < (l.length : Int) := by omega
        simp (config := {maxSteps := 1000000}) only [sim, sik, sil, reduceIte, reduceCtorEq, Nat.reduceAdd, Nat.reduceSub, Nat.reduceMul, Nat.reduceLT, Nat.reduceLeDiff, Int.reduceLT, Int.reduceLE, Int.reduceGT, Int.reduceGE, Int.reduceEq, Int.reduceNe, Int.reduceAdd, Int.reduceSub, Int.reduceNeg, Int.cast_ofNat_Int, Int.natCast_nonneg, Int.toNat_natCast, Int.reduceToNat, Int.toNat_zero, Nat.le_refl, Int.le_refl, List.take_length, Z_size, Z_known, Z_isA, Z_ref, Z_under, Z_solid, fz_Z, headSize_limbs, fz_limbs, refs_limbs, solids_limbs, List.length_map, List.contains_cons, List.contains_nil, Nat.reduceBEq, Bool.true_beq, Bool.false_beq, a17b0, a17r2_ev, a17r3_ev, a17r4_ev, a17r5_ev, k1, g1, wi, hv, hg, hk1, k2, hp, g0, hk3, k3]
    have hstop : okAt l i = false → run E GP a17l0 { vars := [.isl (l.map fA), .bool false, .int .i64 (i : Nat), .u, .u], heap := [], rs := false } = some (.ret, { vars := [.isl (l.map fA), .bool false, .int .i64 i, .bool true, .bool true], heap := [], rs := false }) := by
      intro hk
      rw [hok] at hk
      rw [a17l0_run]
      by_cases hz : l[i].2.sign = 0
      · simp (config := {maxSteps := 1000000}) only [sim, sik, sil, reduceIte, reduceCtorEq, Nat.reduceAdd, Nat.reduceSub, Nat.reduceMul, Nat.reduceLT, Nat.reduceLeDiff, Int.reduceLT, Int.reduceLE, Int.reduceGT, Int.reduceGE, Int.reduceEq, Int.reduceNe, Int.reduceAdd, Int.reduceSub, Int.reduceNeg, Int.cast_ofNat_Int, Int.natCast_nonneg, Int.toNat_natCast, Int.reduceToNat, Int.toNat_zero, Nat.le_refl, Int.le_refl, List.take_length, Z_size, Z_known, Z_isA, Z_ref, Z_under, Z_solid, fz_Z, headSize_limbs, fz_limbs, refs_limbs, solids_limbs, List.length_map, List.contains_cons, List.contains_nil, Nat.reduceBEq, Bool.true_beq, Bool.false_beq, a17b0, a17r2_ev, a17r3_ev, a17r4_ev, a17r5_ev, k1, g1, wi, hv, hg, hz]
      · have hk2 : i ≠ 0 ∧ ¬ (l.getD (i - 1) (0, 0)).1 < l[i].1 := by
          rw [show decide (l[i].2.sign ≠ 0) = true by simpa using hz, Bool.true_and, Bool.or_eq_false_iff] at hk
          exact ⟨by simpa using hk.1, by simpa using hk.2⟩
        have k2 : (i : Int) > 0 := by omega
        have hp : IntKind.i64.wrap ((i : Int) - 1) = ((i - 1 : Nat) : Int) := by rw [i64w (by omega)]; omega
        have g0 := fA_get (l := l) (i := i - 1) (by omega)
        have hk3 : l[i - 1].1 ≥ l[i].1 := by
          have := hk2.2
          rw [← getD_get l (i - 1) (by omega)] at this; omega
        have k3 : ((i - 1 : Nat) : Int) < (l.length : Int) := by omega
        simp (config := {maxSteps := 1000000}) only [sim, sik, sil, reduceIte, reduceCtorEq, Nat.reduceAdd, Nat.reduceSub, Nat.reduceMul, Nat.reduceLT, Nat.reduceLeDiff, Int.reduceLT, Int.reduceLE, Int.reduceGT, Int.reduceGE, Int.reduceEq, Int.reduceNe, Int.reduceAdd, Int.reduceSub, Int.reduceNeg, Int.cast_ofNat_Int, Int.natCast_nonneg, Int.toNat_natCast, Int.reduceToNat, Int.toNat_zero, Nat.le_refl, Int.le_refl, List.take_length, Z_size, Z_known, Z_isA, Z_ref, Z_under, Z_solid, fz_Z, headSize_limbs, fz_limbs, refs_limbs, solids_limbs, List.length_map, List.contains_cons, List.contains_nil, Nat.reduceBEq, Bool.true_beq, Bool.false_beq, a17b0, a17r2_ev, a17r3_ev, a17r4_ev, a17r5_ev, k1, g1, wi, hv, hg, hz, k2, hp, g0, hk3, k3]
    rw [hiff]
    cases hc : okAt l i with
    | true =>
      rw [hround hc]
      refine ⟨fun hh => ih1 hh.2, fun hh => ih2 (fun a => hh ⟨rfl, a⟩)⟩
    | false =>
      refine ⟨fun hh => (Bool.false_ne_true hh.1).elim, fun _ => ⟨i, hstop hc⟩⟩

def valid26 (l : List (Int × Int)) : Bool := (List.range l.length).all (okAt l)

theorem r26_valid (l : List (Int × Int)) (hl : ∀ p ∈ l, Sm p) (hs : l.length < 2147483648) (H : Heap) :
    call E GP 17 [.isl (l.map fA)] H = some (.bool (valid26 l), H, false) := by
  rw [call_fun (hE _ _ _ (by decide)) (f := a17) rfl rfl]
  obtain ⟨h1, h2⟩ := valid_loop hE l hl hs l.length 0 (by omega)
  simp only [Int.ofNat_zero] at h1 h2
  by_cases c : ∀ j, 0 ≤ j → j < l.length → okAt l j = true
  · have hv : valid26 l = true := by
      unfold valid26; rw [List.all_eq_true]; intro j hj; exact c j (Nat.zero_le _) (List.mem_range.1 hj)
    have hr := h1 c
    simp (config := {maxSteps := 1000000}) only [sim, sik, sil, reduceIte, reduceCtorEq, Nat.reduceAdd, Nat.reduceSub, Nat.reduceMul, Nat.reduceLT, Nat.reduceLeDiff, Int.reduceLT, Int.reduceLE, Int.reduceGT, Int.reduceGE, Int.reduceEq, Int.reduceNe, Int.reduceAdd, Int.reduceSub, Int.reduceNeg, Int.cast_ofNat_Int, Int.natCast_nonneg, Int.toNat_natCast, Int.reduceToNat, Int.toNat_zero, Nat.le_refl, Int.le_refl, List.take_length, Z_size, Z_known, Z_isA, Z_ref, Z_under, Z_solid, fz_Z, headSize_limbs, fz_limbs, refs_limbs, solids_limbs, List.length_map, List.contains_cons, List.contains_nil, Nat.reduceBEq, Bool.true_beq, Bool.false_beq, a17, a17r0_ev, a17r1_ev, a17r6_ev, refs_fA, hr, hv]
  · have hv : valid26 l = false := by
      cases hh : valid26 l with
      | false => rfl
      | true => exact absurd (fun j _ hj => by unfold valid26 at hh; rw [List.all_eq_true] at hh; exact hh j (List.mem_range.2 hj)) c
    obtain ⟨j, hr⟩ := h2 c
    simp (config := {maxSteps := 1000000}) only [sim, sik, sil, reduceIte, reduceCtorEq, Nat.reduceAdd, Nat.reduceSub, Nat.reduceMul, Nat.reduceLT, Nat.reduceLeDiff, Int.reduceLT, Int.reduceLE, Int.reduceGT, Int.reduceGE, Int.reduceEq, Int.reduceNe, Int.reduceAdd, Int.reduceSub, Int.reduceNeg, Int.cast_ofNat_Int, Int.natCast_nonneg, Int.toNat_natCast, Int.reduceToNat, Int.toNat_zero, Nat.le_refl, Int.le_refl, List.take_length, Z_size, Z_known, Z_isA, Z_ref, Z_under, Z_solid, fz_Z, headSize_limbs, fz_limbs, refs_limbs, solids_limbs, List.length_map, List.contains_cons, List.contains_nil, Nat.reduceBEq, Bool.true_beq, Bool.false_beq, a17, a17r0_ev, a17r1_ev, a17r6_ev, refs_fA, hr, hv]
end Tor
/-
  Chains, sixth part: the package's validity.
-/
namespace Tor
open Go
set_option linter.unusedSimpArgs false
set_option linter.unusedVariables false
set_option linter.unusedSectionVars false
variable {E : CallF} (hE : Free E)
include hE

theorem cvalid_loop (l : List (Int × Int)) (hl : ∀ p ∈ l, Sm p) (hs : l.length < 2147483648) : ∀ k i, l.length = i + k →
    ((∀ j, i ≤ j → j < l.length → okAt l j = true) → run E GP a26l0 { vars := [.isl (l.map fA), .bool false, .u, .isl (l.map fA), .int .i64 l.length, .int .i64 (i : Nat), .u, .u, .u], heap := [], rs := false } =
      some (.exit 0, { vars := [.isl (l.map fA), .bool false, .u, .isl (l.map fA), .int .i64 l.length, .int .i64 l.length, .bool false, .u, .u], heap := [], rs := false })) ∧
    ((¬ ∀ j, i ≤ j → j < l.length → okAt l j = true) → ∃ (j : Nat) (x : AV), run E GP a26l0 { vars := [.isl (l.map fA), .bool false, .u, .isl (l.map fA), .int .i64 l.length, .int .i64 (i : Nat), .u, .u, .u], heap := [], rs := false } =
      some (.ret, { vars := [.isl (l.map fA), .bool false, .int .i64 j, .isl (l.map fA), .int .i64 l.length, .int .i64 j, .bool true, .bool true, x], heap := [], rs := false })) := by
  intro k
  induction k with
  | zero =>
    intro i h
    have hi : i = l.length := by omega
    subst hi
    have k1 : ¬ (l.length : Int) < (l.length : Int) := by omega
    refine ⟨fun _ => ?_, fun h => absurd (fun j h1 h2 => by omega) h⟩
    rw [a26l0_run]
    simp (config := {maxSteps := 1000000}) only [sim, sik, sil, reduceIte, reduceCtorEq, Nat.reduceAdd, Nat.reduceSub, Nat.reduceMul, Nat.reduceLT, Nat.reduceLeDiff, Int.reduceLT, Int.reduceLE, Int.reduceGT, Int.reduceGE, Int.reduceEq, Int.reduceNe, Int.reduceAdd, Int.reduceSub, Int.reduceNeg, Int.cast_ofNat_Int, Int.natCast_nonneg, Int.toNat_natCast, Int.reduceToNat, Int.toNat_zero, Nat.le_refl, Int.le_refl, List.take_length, Z_size, Z_known, Z_isA, Z_ref, Z_under, Z_solid, fz_Z, headSize_limbs, fz_limbs, refs_limbs, solids_limbs, List.length_map, List.contains_cons, List.contains_nil, Nat.reduceBEq, Bool.true_beq, Bool.false_beq, a26b0, a26r2_ev, k1]
  | succ k ih =>
    intro i h
    have h1 : i < l.length := by omega
    have k1 : (i : Int) < (l.length : Int) := by omega
    have g1 := fA_get h1
    have wi : IntKind.i64.wrap ((i : Int) + 1) = ((i + 1 : Nat) : Int) := i64a (by omega)
    have s1 := hl _ (List.getElem_mem h1)
    have hv := fun H => i_valid hE l[i].2 H (by unfold Sm at s1; omega)
    have hg := i_sign hE l[i].2
    obtain ⟨ih1, ih2⟩ := ih (i + 1) (by omega)
    have hok : okAt l i = (decide (l[i].2.sign ≠ 0) && (decide (i = 0) || decide ((l.getD (i - 1) (0, 0)).1 < l[i].1))) := by
      unfold okAt; rw [getD_get l i h1]
    have hiff : (∀ j, i ≤ j → j < l.length → okAt l j = true) ↔ okAt l i = true ∧ ∀ j, i + 1 ≤ j → j < l.length → okAt l j = true := by
      constructor
      · exact fun hh => ⟨hh i (Nat.le_refl _) h1, fun j a b => hh j (by omega) b⟩
      · rintro ⟨a, b⟩ j c d
        rcases Nat.eq_or_lt_of_le c with e | e
        · subst e; exact a
        · exact b j e d
    have hround : okAt l i = true → run E GP a26l0 { vars := [.isl (l.map fA), .bool false, .u, .isl (l.map fA), .int .i64 l.length, .int .i64 (i : Nat), .u, .u, .u], heap := [], rs := false } = run E GP a26l0 { vars := [.isl (l.map fA), .bool false, .u, .isl (l.map fA), .int .i64 l.length, .int .i64 ((i + 1 : Nat) : Int), .u, .u, .u], heap := [], rs := false } := by
      intro hk
      rw [hok] at hk
      simp only [Bool.and_eq_true, decide_eq_true_eq, Bool.or_eq_true] at hk
      obtain ⟨hk1, hk2⟩ := hk
      conv => lhs; rw [a26l0_run]
      by_cases hi0 : i = 0
      · have k2 : ¬ (i : Int) > 0 := by omega
        simp (config := {maxSteps := 1000000}) only [sim, sik, sil, reduceIte, reduceCtorEq, Nat.reduceAdd, Nat.reduceSub, Nat.reduceMul, Nat.reduceLT, Nat.reduceLeDiff, Int.reduceLT, Int.reduceLE, Int.reduceGT, Int.reduceGE, Int.reduceEq, Int.reduceNe, Int.reduceAdd, Int.reduceSub, Int.reduceNeg, Int.cast_ofNat_Int, Int.natCast_nonneg, Int.toNat_natCast, Int.reduceToNat, Int.toNat_zero, Nat.le_refl, Int.le_refl, List.take_length, Z_size, Z_known, Z_isA, Z_ref, Z_under, Z_solid, fz_Z, headSize_limbs, fz_limbs, refs_limbs, solids_limbs, List.length_map, List.contains_cons, List.contains_nil, Nat.reduceBEq, Bool.true_beq, Bool.false_beq, fA, a26b0, a26r2_ev, a26r3_ev, a26r4_ev, a26r5_ev, a26r6_ev, k1, g1, wi, hv, hg, hk1, k2]
      · have k2 : (i : Int) > 0 := by omega
        have hp : IntKind.i64.wrap ((i : Int) - 1) = ((i - 1 : Nat) : Int) := by rw [i64w (by omega)]; omega
        have g0 := fA_get (l := l) (i := i - 1) (by omega)
        have hk3 : ¬ l[i - 1].1 ≥ l[i].1 := by
          have := hk2.resolve_left hi0
          rw [← getD_get l (i - 1) (by omega)] at this; omega
        have k3 : ((i - 1 : Nat) : Int) < (l.length : Int) := by omega
        simp (config := {maxSteps := 1000000}) only [sim, sik, sil, reduceIte, reduceCtorEq, Nat.reduceAdd, Nat.reduceSub, Nat.reduceMul, Nat.reduceLT, Nat.reduceLeDiff, Int.reduceLT, Int.reduceLE, Int.reduceGT, Int.reduceGE, Int.reduceEq, Int.reduceNe, Int.reduceAdd, Int.reduceSub, Int.reduceNeg, Int.cast_ofNat_Int, Int.natCast_nonneg, Int.toNat_natCast, Int.reduceToNat, Int.toNat_zero, Nat.le_refl, Int.le_refl, List.take_length, Z_size, Z_known, Z_isA, Z_ref, Z_under, Z_solid, fz_Z, headSize_limbs, fz_limbs, refs_limbs, solids_limbs, List.length_map, List.contains_cons, List.contains_nil, Nat.reduceBEq, Bool.true_beq, Bool.false_beq, fA, a26b0, a26r2_ev, a26r3_ev, a26r4_ev, a26r5_ev, a26r6_ev, k1, g1, wi, hv, hg, hk1, k2, hp, g0, hk3, k3]
    have hstop : okAt l i = false → run E GP a26l0 { vars := [.isl (l.map fA), .bool false, .u, .isl (l.map fA), .int .i64 l.length, .int .i64 (i : Nat), .u, .u, .u], heap := [], rs := false } = some (.ret, { vars := [.isl (l.map fA), .bool false, .int .i64 i, .isl (l.map fA), .int .i64 l.length, .int .i64 i, .bool true, .bool true, fA l[i]], heap := [], rs := false }) := by
      intro hk
      rw [hok] at hk
      rw [a26l0_run]
      by_cases hz : l[i].2.sign = 0
      · simp (config := {maxSteps := 1000000}) only [sim, sik, sil, reduceIte, reduceCtorEq, Nat.reduceAdd, Nat.reduceSub, Nat.reduceMul, Nat.reduceLT, Nat.reduceLeDiff, Int.reduceLT, Int.reduceLE, Int.reduceGT, Int.reduceGE, Int.reduceEq, Int.reduceNe, Int.reduceAdd, Int.reduceSub, Int.reduceNeg, Int.cast_ofNat_Int, Int.natCast_nonneg, Int.toNat_natCast, Int.reduceToNat, Int.toNat_zero, Nat.le_refl, Int.le_refl, List.take_length, Z_size, Z_known, Z_isA, Z_ref, Z_under, Z_solid, fz_Z, headSize_limbs, fz_limbs, refs_limbs, solids_limbs, List.length_map, List.contains_cons, List.contains_nil, Nat.reduceBEq, Bool.true_beq, Bool.false_beq, fA, a26b0, a26r2_ev, a26r3_ev, a26r4_ev, a26r5_ev, a26r6_ev, k1, g1, wi, hv, hg, hz]
      · have hk2 : i ≠ 0 ∧ ¬ (l.getD (i - 1) (0, 0)).1 < l[i].1 := by
          rw [show decide (l[i].2.sign ≠ 0) = true by simpa using hz, Bool.true_and, Bool.or_eq_false_iff] at hk
          exact ⟨by simpa using hk.1, by simpa using hk.2⟩
        have k2 : (i : Int) > 0 := by omega
        have hp : IntKind.i64.wrap ((i : Int) - 1) = ((i - 1 : Nat) : Int) := by rw [i64w (by omega)]; omega
        have g0 := fA_get (l := l) (i := i - 1) (by omega)
        have hk3 : l[i - 1].1 ≥ l[i].1 := by
          have := hk2.2
          rw [← getD_get l (i - 1) (by omega)] at this; omega
        have k3 : ((i - 1 : Nat) : Int) < (l.length : Int) := by omega
        simp (config := {maxSteps := 1000000}) only [sim, sik, sil, reduceIte, reduceCtorEq, Nat.reduceAdd, Nat.reduceSub, Nat.reduceMul, Nat.reduceLT, Nat.reduceLeDiff, Int.reduceLT, Int.reduceLE, Int.reduceGT, Int.reduceGE, Int.reduceEq, Int.reduceNe, Int.reduceAdd, Int.reduceSub, Int.reduceNeg, Int.cast_ofNat_Int, Int.natCast_nonneg, Int.toNat_natCast, Int.reduceToNat, Int.toNat_zero, Nat.le_refl, Int.le_refl, List.take_length, Z_size, Z_known, Z_isA, Z_ref, Z_under, Z_solid, fz_Z, headSize_limbs, fz_limbs, refs_limbs, solids_limbs, List.length_map, List.contains_cons, List.contains_nil, Nat.reduceBEq, Bool.true_beq, Bool.false_beq, fA, a26b0, a26r2_ev, a26r3_ev, a26r4_ev, a26r5_ev, a26r6_ev, k1, g1, wi, hv, hg, hz, k2, hp, g0, hk3, k3]
    rw [hiff]
    cases hc : okAt l i with
    | true =>
      rw [hround hc]
      refine ⟨fun hh => ih1 hh.2, fun hh => ih2 (fun a => hh ⟨rfl, a⟩)⟩
    | false =>
      refine ⟨fun hh => (Bool.false_ne_true hh.1).elim, fun _ => ⟨i, fA l[i], hstop hc⟩⟩

theorem c_valid (l : List (Int × Int)) (hl : ∀ p ∈ l, Sm p) (hs : l.length < 2147483648) (H : Heap) :
    call E GP 26 [.isl (l.map fA)] H = some (.bool (valid26 l), H, false) := by
  rw [call_fun (hE _ _ _ (by decide)) (f := a26) rfl rfl]
  obtain ⟨h1, h2⟩ := cvalid_loop hE l hl hs l.length 0 (by omega)
  simp only [Int.ofNat_zero] at h1 h2
  by_cases c : ∀ j, 0 ≤ j → j < l.length → okAt l j = true
  · have hv : valid26 l = true := by
      unfold valid26; rw [List.all_eq_true]; intro j hj; exact c j (Nat.zero_le _) (List.mem_range.1 hj)
    have hr := h1 c
    simp (config := {maxSteps := 1000000}) only [sim, sik, sil, reduceIte, reduceCtorEq, Nat.reduceAdd, Nat.reduceSub, Nat.reduceMul, Nat.reduceLT, Nat.reduceLeDiff, Int.reduceLT, Int.reduceLE, Int.reduceGT, Int.reduceGE, Int.reduceEq, Int.reduceNe, Int.reduceAdd, Int.reduceSub, Int.reduceNeg, Int.cast_ofNat_Int, Int.natCast_nonneg, Int.toNat_natCast, Int.reduceToNat, Int.toNat_zero, Nat.le_refl, Int.le_refl, List.take_length, Z_size, Z_known, Z_isA, Z_ref, Z_under, Z_solid, fz_Z, headSize_limbs, fz_limbs, refs_limbs, solids_limbs, List.length_map, List.contains_cons, List.contains_nil, Nat.reduceBEq, Bool.true_beq, Bool.false_beq, a26, a26r0_ev, a26r1_ev, a26r7_ev, refs_fA, hr, hv]
  · have hv : valid26 l = false := by
      cases hh : valid26 l with
      | false => rfl
      | true => exact absurd (fun j _ hj => by unfold valid26 at hh; rw [List.all_eq_true] at hh; exact hh j (List.mem_range.2 hj)) c
    obtain ⟨j, x, hr⟩ := h2 c
    simp (config := {maxSteps := 1000000}) only [sim, sik, sil, reduceIte, reduceCtorEq, Nat.reduceAdd, Nat.reduceSub, Nat.reduceMul, Nat.reduceLT, Nat.reduceLeDiff, Int.reduceLT, Int.reduceLE, Int.reduceGT, Int.reduceGE, Int.reduceEq, Int.reduceNe, Int.reduceAdd, Int.reduceSub, Int.reduceNeg, Int.cast_ofNat_Int, Int.natCast_nonneg, Int.toNat_natCast, Int.reduceToNat, Int.toNat_zero, Nat.le_refl, Int.le_refl, List.take_length, Z_size, Z_known, Z_isA, Z_ref, Z_under, Z_solid, fz_Z, headSize_limbs, fz_limbs, refs_limbs, solids_limbs, List.length_map, List.contains_cons, List.contains_nil, Nat.reduceBEq, Bool.true_beq, Bool.false_beq, a26, a26r0_ev, a26r1_ev, a26r7_ev, refs_fA, hr, hv]
end Tor
/-
  Chains, seventh part: the map that sums.
-/
namespace Tor
open Go
set_option linter.unusedSimpArgs false
set_option linter.unusedVariables false
set_option linter.unusedSectionVars false
variable {E : CallF}

def kvM (l : List (Int × Int)) : List (Int × AV) := l.map fun p => (p.1, Z p.2)
def lookL (k : Int) : List (Int × Int) → Int
  | [] => 0
  | (j, x) :: r => if k = j then x else lookL k r
def setL (k y : Int) : List (Int × Int) → List (Int × Int)
  | [] => [(k, y)]
  | (j, x) :: r => if k = j then (k, y) :: r else (j, x) :: setL k y r
def delL (k : Int) : List (Int × Int) → List (Int × Int)
  | [] => []
  | (j, x) :: r => if k = j then r else (j, x) :: delL k r

theorem zeroZ : AV.agg [.bool false, .isl []] = Z 0 := rfl

theorem look_kv (k : Int) : ∀ l, orElse (.agg [.bool false, .isl []]) false (mfind k (kvM l)) = Z (lookL k l)
  | [] => rfl
  | (j, x) :: r => by
    have ih := look_kv k r
    simp only [kvM, List.map_cons, mfind, lookL]
    by_cases h : k = j
    · rw [if_pos h, if_pos h]; rfl
    · rw [if_neg h, if_neg h]; exact ih
theorem set_kv (k y : Int) : ∀ l, mset k (Z y) (kvM l) = kvM (setL k y l)
  | [] => rfl
  | (j, x) :: r => by
    have ih := set_kv k y r
    simp only [kvM, List.map_cons, mset, setL]
    by_cases h : k = j
    · rw [if_pos h, if_pos h]; rfl
    · rw [if_neg h, if_neg h]; simp only [kvM] at ih; rw [ih]; rfl
theorem del_kv (k : Int) : ∀ l, mdel k (kvM l) = kvM (delL k l)
  | [] => rfl
  | (j, x) :: r => by
    have ih := del_kv k r
    simp only [kvM, List.map_cons, mdel, delL]
    by_cases h : k = j
    · rw [if_pos h, if_pos h]
    · rw [if_neg h, if_neg h]; simp only [kvM] at ih; rw [ih]; rfl

/-- One cell more. -/
def sadd (l : List (Int × Int)) (k c : Int) : List (Int × Int) := if lookL k l + c = 0 then delL k l else setL k (lookL k l + c) l

variable (hE : Free E)
include hE

theorem c_sumadd (l : List (Int × Int)) (k c : Int) (H : Heap) (o : Nat) (hH : H[o]? = some (.map (kvM l))) (h1 : (limbs (lookL k l).natAbs).length < 1073741000) (h2 : (limbs c.natAbs).length < 1073741000) :
    call E GP 33 [.mp o, .int .i64 k, Z c] H = some (.tup [], H.set o (.map (kvM (sadd l k c))), false) := by
  rw [call_fun (hE _ _ _ (by decide)) (f := a33) rfl rfl]
  have ha := fun H => i_add hE (lookL k l) c H (by omega) (by omega)
  have hg := i_sign hE (lookL k l + c)
  have hlk := look_kv k l
  have hst := set_kv k (lookL k l + c) l
  have hdl := del_kv k l
  have htk : ∀ x : AObj, (H.set o x).take H.length = H.set o x := fun x => List.take_of_length_le (by simp)
  have hmode : a33.mode = .shr := rfl
  unfold sadd
  by_cases hz : lookL k l + c = 0
  · rw [if_pos hz]
    rw [hz] at ha hg
    simp only [Int.sign_zero] at hg
    simp (config := {maxSteps := 1000000}) only [hmode, sim, sik, sil, reduceIte, reduceCtorEq, Nat.reduceAdd, Nat.reduceSub, Nat.reduceMul, Nat.reduceLT, Nat.reduceLeDiff, Int.reduceLT, Int.reduceLE, Int.reduceGT, Int.reduceGE, Int.reduceEq, Int.reduceNe, Int.reduceAdd, Int.reduceSub, Int.reduceNeg, Int.cast_ofNat_Int, Int.natCast_nonneg, Int.toNat_natCast, Int.reduceToNat, Int.toNat_zero, Nat.le_refl, Int.le_refl, List.take_length, Z_size, Z_known, Z_isA, Z_ref, Z_under, Z_solid, fz_Z, headSize_limbs, fz_limbs, refs_limbs, solids_limbs, List.length_map, List.contains_cons, List.contains_nil, Nat.reduceBEq, Bool.true_beq, Bool.false_beq, a33, a33r0_ev, a33r1_ev, a33r2_ev, a33r3_ev, a33r4_ev, hH, lookIn, mdelIn, mupdIn, hlk, hst, hdl, ha, hg, htk]
  · rw [if_neg hz]
    have hsg : (lookL k l + c).sign ≠ 0 := fun e => hz (Int.sign_eq_zero_iff_zero.1 e)
    simp (config := {maxSteps := 1000000}) only [hmode, sim, sik, sil, reduceIte, reduceCtorEq, Nat.reduceAdd, Nat.reduceSub, Nat.reduceMul, Nat.reduceLT, Nat.reduceLeDiff, Int.reduceLT, Int.reduceLE, Int.reduceGT, Int.reduceGE, Int.reduceEq, Int.reduceNe, Int.reduceAdd, Int.reduceSub, Int.reduceNeg, Int.cast_ofNat_Int, Int.natCast_nonneg, Int.toNat_natCast, Int.reduceToNat, Int.toNat_zero, Nat.le_refl, Int.le_refl, List.take_length, Z_size, Z_known, Z_isA, Z_ref, Z_under, Z_solid, fz_Z, headSize_limbs, fz_limbs, refs_limbs, solids_limbs, List.length_map, List.contains_cons, List.contains_nil, Nat.reduceBEq, Bool.true_beq, Bool.false_beq, a33, a33r0_ev, a33r1_ev, a33r2_ev, a33r3_ev, a33r4_ev, hH, lookIn, mdelIn, mupdIn, hlk, hst, hdl, ha, hg, hsg, htk]
end Tor
/-
  Chains, eighth part: the loop of Make.
-/
namespace Tor
open Go
set_option linter.unusedSimpArgs false
set_option linter.unusedVariables false
set_option linter.unusedSectionVars false
variable {E : CallF}

theorem setL_bd {N : Nat} {k y : Int} (hy : y.natAbs ≤ N) : ∀ l, Bd N l → Bd N (setL k y l)
  | [], _ => by intro p hp; simp [setL] at hp; subst hp; exact hy
  | (j, x) :: r, h => by
    have hr : Bd N r := fun p hp => h p (.tail _ hp)
    simp only [setL]
    split
    · intro p hp
      cases hp with
      | head => exact hy
      | tail _ hp => exact hr p hp
    · intro p hp
      cases hp with
      | head => exact h _ (.head _)
      | tail _ hp => exact setL_bd hy r hr p hp
theorem delL_bd {N : Nat} {k : Int} : ∀ l, Bd N l → Bd N (delL k l)
  | [], _ => by intro p hp; simp [delL] at hp
  | (j, x) :: r, h => by
    have hr : Bd N r := fun p hp => h p (.tail _ hp)
    simp only [delL]
    split
    · exact hr
    · intro p hp
      cases hp with
      | head => exact h _ (.head _)
      | tail _ hp => exact delL_bd r hr p hp
theorem lookL_bd {N : Nat} {k : Int} : ∀ l, Bd N l → (lookL k l).natAbs ≤ N
  | [], _ => by simp [lookL]
  | (j, x) :: r, h => by
    simp only [lookL]
    split
    · exact h _ (.head _)
    · exact lookL_bd r fun p hp => h p (.tail _ hp)
theorem sadd_bd {M N : Nat} {l : List (Int × Int)} {k c : Int} (hl : Bd M l) (hc : c.natAbs ≤ N) : Bd (M + N) (sadd l k c) := by
  unfold sadd
  split
  · exact bd_mono (by omega) (delL_bd l hl)
  · have := lookL_bd (k := k) l hl
    exact setL_bd (by omega) l (bd_mono (by omega) hl)
theorem sm_nat {N : Nat} (hN : N < B32 ^ 4) {n : Int} (h : n.natAbs ≤ N) : (limbs n.natAbs).length < 1073741000 := sm_of (p := (0, n)) hN h

/-- The sums of cells. -/
def sums (l m : List (Int × Int)) : List (Int × Int) := l.foldl (fun m p => sadd m p.1 p.2) m

variable (hE : Free E)
include hE

theorem cmake_loop (l : List (Int × Int)) (N : Nat) (hl : Bd N l) (hs : l.length < 2147483647) (hN : N * (l.length + 1) < B32 ^ 4) : ∀ (k i : Nat) (m : List (Int × Int)), l.length = i + k → Bd (N * i) m →
    run E GP a22l0 { vars := [.isl (l.map fA), .isl [], .mp 0, .isl (l.map fA), .int .i64 l.length, .int .i64 (i : Nat), .u, .u], heap := [.map (kvM m)], rs := false } =
      some (.exit 0, { vars := [.isl (l.map fA), .isl [], .mp 0, .isl (l.map fA), .int .i64 l.length, .int .i64 l.length, .bool false, .u], heap := [.map (kvM (sums (l.drop i) m))], rs := false }) := by
  intro k
  induction k with
  | zero =>
    intro i m h1 h2
    have hi : i = l.length := by omega
    subst hi
    have k1 : ¬ (l.length : Int) < (l.length : Int) := by omega
    rw [a22l0_run, List.drop_length]
    simp (config := {maxSteps := 1000000}) only [sim, sik, sil, reduceIte, reduceCtorEq, Nat.reduceAdd, Nat.reduceSub, Nat.reduceMul, Nat.reduceLT, Nat.reduceLeDiff, Int.reduceLT, Int.reduceLE, Int.reduceGT, Int.reduceGE, Int.reduceEq, Int.reduceNe, Int.reduceAdd, Int.reduceSub, Int.reduceNeg, Int.cast_ofNat_Int, Int.natCast_nonneg, Int.toNat_natCast, Int.reduceToNat, Int.toNat_zero, Nat.le_refl, Int.le_refl, List.take_length, Z_size, Z_known, Z_isA, Z_ref, Z_under, Z_solid, fz_Z, headSize_limbs, fz_limbs, refs_limbs, solids_limbs, List.length_map, List.contains_cons, List.contains_nil, Nat.reduceBEq, Bool.true_beq, Bool.false_beq, a22b0, a22r3_ev, k1, sums, List.foldl_nil]
  | succ k ih =>
    intro i m h1 h2
    have hi : i < l.length := by omega
    have k1 : (i : Int) < (l.length : Int) := by omega
    have g1 := fA_get hi
    have wi : IntKind.i64.wrap ((i : Int) + 1) = ((i + 1 : Nat) : Int) := i64a (by omega)
    have hd : l.drop i = l[i] :: l.drop (i + 1) := List.drop_eq_getElem_cons hi
    have hb := hl _ (List.getElem_mem hi)
    have hNi : N * i ≤ N * (l.length + 1) := Nat.mul_le_mul_left _ (by omega)
    have hN1 : N * 1 ≤ N * (l.length + 1) := Nat.mul_le_mul_left _ (by omega)
    have hadd := c_sumadd hE m l[i].1 l[i].2 [.map (kvM m)] 0 rfl (sm_nat (N := N * i) (by omega) (lookL_bd m h2)) (sm_nat (N := N) (by omega) hb)
    have hacc : Bd (N * (i + 1)) (sadd m l[i].1 l[i].2) := by
      rw [Nat.mul_succ]; exact sadd_bd h2 hb
    have hsum : sums (l.drop i) m = sums (l.drop (i + 1)) (sadd m l[i].1 l[i].2) := by rw [hd]; rfl
    rw [hsum, ← ih (i + 1) _ (by omega) hacc]
    conv => lhs; rw [a22l0_run]
    simp (config := {maxSteps := 1000000}) only [sim, sik, sil, reduceIte, reduceCtorEq, Nat.reduceAdd, Nat.reduceSub, Nat.reduceMul, Nat.reduceLT, Nat.reduceLeDiff, Int.reduceLT, Int.reduceLE, Int.reduceGT, Int.reduceGE, Int.reduceEq, Int.reduceNe, Int.reduceAdd, Int.reduceSub, Int.reduceNeg, Int.cast_ofNat_Int, Int.natCast_nonneg, Int.toNat_natCast, Int.reduceToNat, Int.toNat_zero, Nat.le_refl, Int.le_refl, List.take_length, Z_size, Z_known, Z_isA, Z_ref, Z_under, Z_solid, fz_Z, headSize_limbs, fz_limbs, refs_limbs, solids_limbs, List.length_map, List.contains_cons, List.contains_nil, Nat.reduceBEq, Bool.true_beq, Bool.false_beq, a22b0, a22r3_ev, a22r4_ev, a22r5_ev, a22r6_ev, k1, g1, wi, hadd]
end Tor
/-
  Chains, ninth part: the chain of a map.
-/
namespace Tor
open Go
set_option linter.unusedSimpArgs false
set_option linter.unusedVariables false
set_option linter.unusedSectionVars false
variable {E : CallF}

def iA (n : Int) : AV := .int .i64 n
def chainOf (ks : List Int) (m : List (Int × Int)) : List (Int × Int) := ks.map fun k => (k, lookL k m)

theorem chain_loop (m : List (Int × Int)) (ks : List Int) (hs : ks.length < 2147483647) : ∀ k i (out : List (Int × Int)), ks.length = i + k → out.length = i →
    run E GP a34l0 { vars := [.mp 0, .isl [], .sl 1 i 3 0 i, .u, .isl (ks.map iA), .int .i64 ks.length, .int .i64 (i : Nat), .u], heap := [.map (kvM m), .arr i 3 (out.map fA)], rs := false } =
      some (.exit 0, { vars := [.mp 0, .isl [], .sl 1 ks.length 3 0 ks.length, .u, .isl (ks.map iA), .int .i64 ks.length, .int .i64 ks.length, .bool false], heap := [.map (kvM m), .arr ks.length 3 ((out ++ chainOf (ks.drop i) m).map fA)], rs := false }) := by
  intro k
  induction k with
  | zero =>
    intro i out h1 h2
    have hi : i = ks.length := by omega
    subst hi
    have k1 : ¬ (ks.length : Int) < (ks.length : Int) := by omega
    have e : out ++ chainOf (ks.drop ks.length) m = out := by simp [chainOf]
    rw [a34l0_run, e]
    simp (config := {maxSteps := 1000000}) only [sim, sik, sil, reduceIte, reduceCtorEq, Nat.reduceAdd, Nat.reduceSub, Nat.reduceMul, Nat.reduceLT, Nat.reduceLeDiff, Int.reduceLT, Int.reduceLE, Int.reduceGT, Int.reduceGE, Int.reduceEq, Int.reduceNe, Int.reduceAdd, Int.reduceSub, Int.reduceNeg, Int.cast_ofNat_Int, Int.natCast_nonneg, Int.toNat_natCast, Int.reduceToNat, Int.toNat_zero, Nat.le_refl, Int.le_refl, List.take_length, Z_size, Z_known, Z_isA, Z_ref, Z_under, Z_solid, fz_Z, headSize_limbs, fz_limbs, refs_limbs, solids_limbs, List.length_map, List.contains_cons, List.contains_nil, Nat.reduceBEq, Bool.true_beq, Bool.false_beq, a34b0, a34r3_ev, k1]
  | succ k ih =>
    intro i out h1 h2
    have hi : i < ks.length := by omega
    have k1 : (i : Int) < (ks.length : Int) := by omega
    have g1 : (ks.map iA)[i]? = some (.int .i64 ks[i]) := by simp [hi, iA]
    have wi : IntKind.i64.wrap ((i : Int) + 1) = ((i + 1 : Nat) : Int) := i64a (by omega)
    have hm : i + 1 ≤ 4294967296 := by omega
    have hlk := look_kv ks[i] m
    have e : out ++ chainOf (ks.drop i) m = out ++ [(ks[i], lookL ks[i] m)] ++ chainOf (ks.drop (i + 1)) m := by
      rw [List.drop_eq_getElem_cons hi]; simp only [chainOf, List.map_cons, List.append_assoc]; rfl
    rw [e, ← ih (i + 1) (out ++ [(ks[i], lookL ks[i] m)]) (by omega) (by simp [h2])]
    have e2 : List.map fA (out ++ [(ks[i], lookL ks[i] m)]) = List.map fA out ++ [.agg [.int .i64 ks[i], Z (lookL ks[i] m)]] := by simp [fA]
    rw [e2]
    conv => lhs; rw [a34l0_run]
    simp (config := {maxSteps := 1000000}) only [sim, sik, sil, reduceIte, reduceCtorEq, Nat.reduceAdd, Nat.reduceSub, Nat.reduceMul, Nat.reduceLT, Nat.reduceLeDiff, Int.reduceLT, Int.reduceLE, Int.reduceGT, Int.reduceGE, Int.reduceEq, Int.reduceNe, Int.reduceAdd, Int.reduceSub, Int.reduceNeg, Int.cast_ofNat_Int, Int.natCast_nonneg, Int.toNat_natCast, Int.reduceToNat, Int.toNat_zero, Nat.le_refl, Int.le_refl, List.take_length, Z_size, Z_known, Z_isA, Z_ref, Z_under, Z_solid, fz_Z, headSize_limbs, fz_limbs, refs_limbs, solids_limbs, List.length_map, List.contains_cons, List.contains_nil, Nat.reduceBEq, Bool.true_beq, Bool.false_beq, a34b0, a34r3_ev, a34r4_ev, a34r5_ev, a34r6_ev, k1, g1, wi, hm, maxLenA, lookIn, hlk, h2]

/-- The table serves the sorted keys of the map at place 0. -/
def Srt (E : CallF) (m : List (Int × Int)) (ks : List Int) : Prop := ∀ H : Heap, H[0]? = some (.map (kvM m)) → E 56 [.fn 72 [.bx 0]] H = some (.isl (ks.map iA), H, false)

theorem c_keys (hE : Free E) (H : Heap) (h0 : 0 < H.length) : call E GP 55 [.mp 0] H = some (.fn 72 [.bx 0], H, false) := by
  rw [call_fun (hE _ _ _ (by decide)) (f := a55) rfl rfl]
  have hmode : a55.mode = .shr := rfl
  have hbox : doBox true H (AV.mp 0) = some (.bx 0, H, false) := rfl
  have htk : H.take H.length = H := List.take_length
  have hfz : fz H.length H 8 (AV.fn 72 [.bx 0]) = .fn 72 [.bx 0] := by simp [fz, h0]
  have hun : AV.under H.length (AV.fn 72 [.bx 0]) = true := by simp [AV.under, AV.unders, h0]
  have hso : AV.solid (AV.fn 72 [.bx 0]) = true := by simp [AV.solid, AV.solids, AV.hasRef, AV.hasRefs]
  simp (config := {maxSteps := 1000000}) only [hmode, sim, sik, sil, reduceIte, reduceCtorEq, Nat.reduceAdd, Nat.reduceSub, Nat.reduceMul, Nat.reduceLT, Nat.reduceLeDiff, Int.reduceLT, Int.reduceLE, Int.reduceGT, Int.reduceGE, Int.reduceEq, Int.reduceNe, Int.reduceAdd, Int.reduceSub, Int.reduceNeg, Int.cast_ofNat_Int, Int.natCast_nonneg, Int.toNat_natCast, Int.reduceToNat, Int.toNat_zero, Nat.le_refl, Int.le_refl, List.take_length, Z_size, Z_known, Z_isA, Z_ref, Z_under, Z_solid, fz_Z, headSize_limbs, fz_limbs, refs_limbs, solids_limbs, List.length_map, List.contains_cons, List.contains_nil, Nat.reduceBEq, Bool.true_beq, Bool.false_beq, a55, a55r0_ev, a55r1_ev, hbox, htk, hfz, hun, hso]

theorem c_chain (hE : Free E) (m : List (Int × Int)) (ks : List Int) (hS : Srt E m ks) (hs : ks.length < 2147483647) :
    call E GP 34 [.mp 0] [.map (kvM m)] = some (.isl ((chainOf ks m).map fA), [.map (kvM m)], false) := by
  rw [call_fun (hE _ _ _ (by decide)) (f := a34) rfl rfl]
  have hk := c_keys hE [.map (kvM m), .arr 0 3 []] (by simp)
  have hso := call_ext (GP := GP) (hS [.map (kvM m), .arr 0 3 []] rfl)
  have hr := chain_loop (E := E) m ks hs ks.length 0 [] (by omega) rfl
  have hl : (chainOf ks m).length = ks.length := by simp [chainOf]
  have hta : List.take ks.length ((chainOf ks m).map fA) = (chainOf ks m).map fA := List.take_of_length_le (by simp [hl])
  simp only [List.drop_zero, List.nil_append, List.map_nil, Int.ofNat_zero] at hr
  have hmode : a34.mode = .shr := rfl
  have hle : ks.length ≤ ((chainOf ks m).map fA).length := by simp [hl]
  have hfz : ∀ H : Heap, ((chainOf ks m).map fA).map (fz 1 H 7) = (chainOf ks m).map fA := fun H => fz_fAs 1 H 4 _
  simp (config := {maxSteps := 1000000}) only [hmode, sim, sik, sil, reduceIte, reduceCtorEq, Nat.reduceAdd, Nat.reduceSub, Nat.reduceMul, Nat.reduceLT, Nat.reduceLeDiff, Int.reduceLT, Int.reduceLE, Int.reduceGT, Int.reduceGE, Int.reduceEq, Int.reduceNe, Int.reduceAdd, Int.reduceSub, Int.reduceNeg, Int.cast_ofNat_Int, Int.natCast_nonneg, Int.toNat_natCast, Int.reduceToNat, Int.toNat_zero, Nat.le_refl, Int.le_refl, List.take_length, Z_size, Z_known, Z_isA, Z_ref, Z_under, Z_solid, fz_Z, headSize_limbs, fz_limbs, refs_limbs, solids_limbs, List.length_map, List.contains_cons, List.contains_nil, Nat.reduceBEq, Bool.true_beq, Bool.false_beq, a34, a34r0_ev, a34r1_ev, a34r2_ev, a34r7_ev, hk, hso, hr, hta, hle, hl, refs_fA, solids_fA, headSize_fA, hfz]

end Tor
/-
  Chains, tenth part: Make.
-/
namespace Tor
open Go
set_option linter.unusedSimpArgs false
set_option linter.unusedVariables false
set_option linter.unusedSectionVars false
variable {E : CallF} (hE : Free E)
include hE

theorem c_make (l : List (Int × Int)) (N : Nat) (hl : Bd N l) (hs : l.length < 2147483647) (hN : N * (l.length + 1) < B32 ^ 4) (ks : List Int) (hS : Srt E (sums l []) ks) (hk : ks.length < 2147483647) (H : Heap) :
    call E GP 22 [.isl (l.map fA)] H = some (.isl ((chainOf ks (sums l [])).map fA), H, false) := by
  rw [call_fun (hE _ _ _ (by decide)) (f := a22) rfl rfl]
  have hr := cmake_loop hE l N hl hs hN l.length 0 [] (by omega) (by intro p hp; cases hp)
  have hc := c_chain hE (sums l []) ks hS hk
  rw [List.drop_zero] at hr
  simp only [kvM, List.map_nil, Int.ofNat_zero] at hr
  simp only [kvM] at hc
  simp (config := {maxSteps := 1000000}) only [sim, sik, sil, reduceIte, reduceCtorEq, Nat.reduceAdd, Nat.reduceSub, Nat.reduceMul, Nat.reduceLT, Nat.reduceLeDiff, Int.reduceLT, Int.reduceLE, Int.reduceGT, Int.reduceGE, Int.reduceEq, Int.reduceNe, Int.reduceAdd, Int.reduceSub, Int.reduceNeg, Int.cast_ofNat_Int, Int.natCast_nonneg, Int.toNat_natCast, Int.reduceToNat, Int.toNat_zero, Nat.le_refl, Int.le_refl, List.take_length, Z_size, Z_known, Z_isA, Z_ref, Z_under, Z_solid, fz_Z, headSize_limbs, fz_limbs, refs_limbs, solids_limbs, List.length_map, List.contains_cons, List.contains_nil, Nat.reduceBEq, Bool.true_beq, Bool.false_beq, a22, a22r0_ev, a22r1_ev, a22r2_ev, a22r7_ev, refs_fA, hr, hc, fz_fAs7, solids_fA]
end Tor
/-
  Chains, eleventh part: Add.
-/
namespace Tor
open Go
set_option linter.unusedSimpArgs false
set_option linter.unusedVariables false
set_option linter.unusedSectionVars false
variable {E : CallF}

/-- The sums of multiples. -/
def sumsK (c : Int) (l m : List (Int × Int)) : List (Int × Int) := l.foldl (fun m p => sadd m p.1 (c * p.2)) m

variable (hE : Free E)
include hE

theorem cadd_loop0 (l : List (Int × Int)) (bv : AV) (c : Int) (hbv : bv.under 1 = true) (N : Nat) (hl : Bd N l) (hs : l.length < 2147483647) (hN : N * (l.length + 1) < B32 ^ 4) : ∀ (k i : Nat) (m : List (Int × Int)), l.length = i + k → Bd (N * i) m →
    run E GP a25l0 { vars := [.isl (l.map fA), bv, Z c, .isl [], .mp 0, .isl (l.map fA), .int .i64 l.length, .int .i64 (i : Nat), .u, .u, .u, .u, .u, Z c, .u, .u], heap := [.map (kvM m)], rs := false } =
      some (.exit 0, { vars := [.isl (l.map fA), bv, Z c, .isl [], .mp 0, .isl (l.map fA), .int .i64 l.length, .int .i64 l.length, .bool false, .u, .u, .u, .u, Z c, .u, .u], heap := [.map (kvM (sums (l.drop i) m))], rs := false }) := by
  intro k
  induction k with
  | zero =>
    intro i m h1 h2
    have hi : i = l.length := by omega
    subst hi
    have k1 : ¬ (l.length : Int) < (l.length : Int) := by omega
    rw [a25l0_run, List.drop_length]
    simp (config := {maxSteps := 1000000}) only [sim, sik, sil, reduceIte, reduceCtorEq, Nat.reduceAdd, Nat.reduceSub, Nat.reduceMul, Nat.reduceLT, Nat.reduceLeDiff, Int.reduceLT, Int.reduceLE, Int.reduceGT, Int.reduceGE, Int.reduceEq, Int.reduceNe, Int.reduceAdd, Int.reduceSub, Int.reduceNeg, Int.cast_ofNat_Int, Int.natCast_nonneg, Int.toNat_natCast, Int.reduceToNat, Int.toNat_zero, Nat.le_refl, Int.le_refl, List.take_length, Z_size, Z_known, Z_isA, Z_ref, Z_under, Z_solid, fz_Z, headSize_limbs, fz_limbs, refs_limbs, solids_limbs, List.length_map, List.contains_cons, List.contains_nil, Nat.reduceBEq, Bool.true_beq, Bool.false_beq, a25b0, a25r3_ev, k1, sums, List.foldl_nil, hbv]
  | succ k ih =>
    intro i m h1 h2
    have hi : i < l.length := by omega
    have k1 : (i : Int) < (l.length : Int) := by omega
    have g1 := fA_get hi
    have wi : IntKind.i64.wrap ((i : Int) + 1) = ((i + 1 : Nat) : Int) := i64a (by omega)
    have hd : l.drop i = l[i] :: l.drop (i + 1) := List.drop_eq_getElem_cons hi
    have hb := hl _ (List.getElem_mem hi)
    have hNi : N * i ≤ N * (l.length + 1) := Nat.mul_le_mul_left _ (by omega)
    have hN1 : N * 1 ≤ N * (l.length + 1) := Nat.mul_le_mul_left _ (by omega)
    have hadd := c_sumadd hE m l[i].1 l[i].2 [.map (kvM m)] 0 rfl (sm_nat (N := N * i) (by omega) (lookL_bd m h2)) (sm_nat (N := N) (by omega) hb)
    have hacc : Bd (N * (i + 1)) (sadd m l[i].1 l[i].2) := by
      rw [Nat.mul_succ]; exact sadd_bd h2 hb
    have hsum : sums (l.drop i) m = sums (l.drop (i + 1)) (sadd m l[i].1 l[i].2) := by rw [hd]; rfl
    rw [hsum, ← ih (i + 1) _ (by omega) hacc]
    conv => lhs; rw [a25l0_run]
    simp (config := {maxSteps := 1000000}) only [sim, sik, sil, reduceIte, reduceCtorEq, Nat.reduceAdd, Nat.reduceSub, Nat.reduceMul, Nat.reduceLT, Nat.reduceLeDiff, Int.reduceLT, Int.reduceLE, Int.reduceGT, Int.reduceGE, Int.reduceEq, Int.reduceNe, Int.reduceAdd, Int.reduceSub, Int.reduceNeg, Int.cast_ofNat_Int, Int.natCast_nonneg, Int.toNat_natCast, Int.reduceToNat, Int.toNat_zero, Nat.le_refl, Int.le_refl, List.take_length, Z_size, Z_known, Z_isA, Z_ref, Z_under, Z_solid, fz_Z, headSize_limbs, fz_limbs, refs_limbs, solids_limbs, List.length_map, List.contains_cons, List.contains_nil, Nat.reduceBEq, Bool.true_beq, Bool.false_beq, a25b0, a25r3_ev, a25r4_ev, a25r5_ev, a25r6_ev, k1, g1, wi, hadd, hbv]

theorem cadd_loop1 (l : List (Int × Int)) (av xv nv : AV) (c : Int) (ha : av.under 1 = true) (hx : xv.under 1 = true) (hn : nv.under 1 = true) (M N : Nat) (hc : Sm (0, c)) (hsm : ∀ p ∈ l, Sm p) (hl : ∀ p ∈ l, (c * p.2).natAbs ≤ N) (hs : l.length < 2147483647) (hN : M + N * (l.length + 1) < B32 ^ 4) : ∀ (k i : Nat) (m : List (Int × Int)), l.length = i + k → Bd (M + N * i) m →
    run E GP a25l1 { vars := [av, .isl (l.map fA), Z c, .isl [], .mp 0, xv, nv, nv, .bool false, .isl (l.map fA), .int .i64 l.length, .int .i64 (i : Nat), .u, Z c, .u, .u], heap := [.map (kvM m)], rs := false } =
      some (.exit 2, { vars := [av, .isl (l.map fA), Z c, .isl [], .mp 0, xv, nv, nv, .bool false, .isl (l.map fA), .int .i64 l.length, .int .i64 l.length, .bool false, Z c, .u, .u], heap := [.map (kvM (sumsK c (l.drop i) m))], rs := false }) := by
  intro k
  induction k with
  | zero =>
    intro i m h1 h2
    have hi : i = l.length := by omega
    subst hi
    have k1 : ¬ (l.length : Int) < (l.length : Int) := by omega
    rw [a25l1_run, List.drop_length]
    simp (config := {maxSteps := 1000000}) only [sim, sik, sil, reduceIte, reduceCtorEq, Nat.reduceAdd, Nat.reduceSub, Nat.reduceMul, Nat.reduceLT, Nat.reduceLeDiff, Int.reduceLT, Int.reduceLE, Int.reduceGT, Int.reduceGE, Int.reduceEq, Int.reduceNe, Int.reduceAdd, Int.reduceSub, Int.reduceNeg, Int.cast_ofNat_Int, Int.natCast_nonneg, Int.toNat_natCast, Int.reduceToNat, Int.toNat_zero, Nat.le_refl, Int.le_refl, List.take_length, Z_size, Z_known, Z_isA, Z_ref, Z_under, Z_solid, fz_Z, headSize_limbs, fz_limbs, refs_limbs, solids_limbs, List.length_map, List.contains_cons, List.contains_nil, Nat.reduceBEq, Bool.true_beq, Bool.false_beq, a25b1, a25r8_ev, k1, sumsK, List.foldl_nil, ha, hx, hn]
  | succ k ih =>
    intro i m h1 h2
    have hi : i < l.length := by omega
    have k1 : (i : Int) < (l.length : Int) := by omega
    have g1 := fA_get hi
    have wi : IntKind.i64.wrap ((i : Int) + 1) = ((i + 1 : Nat) : Int) := i64a (by omega)
    have hd : l.drop i = l[i] :: l.drop (i + 1) := List.drop_eq_getElem_cons hi
    have hb := hl _ (List.getElem_mem hi)
    have hp := hsm _ (List.getElem_mem hi)
    have hNi : N * i ≤ N * (l.length + 1) := Nat.mul_le_mul_left _ (by omega)
    have hN1 : N * 1 ≤ N * (l.length + 1) := Nat.mul_le_mul_left _ (by omega)
    have hmul := fun H => i_mul hE c l[i].2 H (by unfold Sm at hc; simp only at hc; omega) (by unfold Sm at hp; omega)
    have hadd := c_sumadd hE m l[i].1 (c * l[i].2) [.map (kvM m)] 0 rfl (sm_nat (N := M + N * i) (by omega) (lookL_bd m h2)) (sm_nat (N := N) (by omega) hb)
    have hacc : Bd (M + N * (i + 1)) (sadd m l[i].1 (c * l[i].2)) := by
      rw [Nat.mul_succ, ← Nat.add_assoc]; exact sadd_bd h2 hb
    have hsum : sumsK c (l.drop i) m = sumsK c (l.drop (i + 1)) (sadd m l[i].1 (c * l[i].2)) := by rw [hd]; rfl
    rw [hsum, ← ih (i + 1) _ (by omega) hacc]
    conv => lhs; rw [a25l1_run]
    simp (config := {maxSteps := 1000000}) only [sim, sik, sil, reduceIte, reduceCtorEq, Nat.reduceAdd, Nat.reduceSub, Nat.reduceMul, Nat.reduceLT, Nat.reduceLeDiff, Int.reduceLT, Int.reduceLE, Int.reduceGT, Int.reduceGE, Int.reduceEq, Int.reduceNe, Int.reduceAdd, Int.reduceSub, Int.reduceNeg, Int.cast_ofNat_Int, Int.natCast_nonneg, Int.toNat_natCast, Int.reduceToNat, Int.toNat_zero, Nat.le_refl, Int.le_refl, List.take_length, Z_size, Z_known, Z_isA, Z_ref, Z_under, Z_solid, fz_Z, headSize_limbs, fz_limbs, refs_limbs, solids_limbs, List.length_map, List.contains_cons, List.contains_nil, Nat.reduceBEq, Bool.true_beq, Bool.false_beq, a25b1, a25r8_ev, a25r9_ev, a25r10_ev, a25r11_ev, k1, g1, wi, hmul, hadd, ha, hx, hn]

theorem c_add (a l : List (Int × Int)) (c : Int) (M N : Nat) (hba : Bd M a) (hsa : a.length < 2147483647) (hc : Sm (0, c)) (hsm : ∀ p ∈ l, Sm p) (hl : ∀ p ∈ l, (c * p.2).natAbs ≤ N) (hs : l.length < 2147483647) (hN : M * (a.length + 1) + N * (l.length + 1) < B32 ^ 4)
    (ks : List Int) (hS : Srt E (sumsK c l (sums a [])) ks) (hk : ks.length < 2147483647) (hbs : Bd (M * a.length) (sums a [])) (H : Heap) :
    call E GP 25 [.isl (a.map fA), .isl (l.map fA), Z c] H = some (.isl ((chainOf ks (sumsK c l (sums a []))).map fA), H, false) := by
  rw [call_fun (hE _ _ _ (by decide)) (f := a25) rfl rfl]
  have hMa : M * a.length ≤ M * (a.length + 1) := Nat.mul_le_mul_left _ (by omega)
  have hr := cadd_loop0 hE a (.isl (l.map fA)) c (by simp [AV.under, refs_fA]) M hba hsa (by omega) a.length 0 [] (by omega) (by intro p hp; cases hp)
  have hq := cadd_loop1 hE l (.isl (a.map fA)) (.isl (a.map fA)) (.int .i64 a.length) c (by simp [AV.under, refs_fA]) (by simp [AV.under, refs_fA]) (by simp [AV.under]) (M * a.length) N hc hsm hl hs (by omega) l.length 0 (sums a []) (by omega) (by simpa using hbs)
  have hch := c_chain hE _ ks hS hk
  rw [List.drop_zero] at hr hq
  simp only [kvM, List.map_nil, Int.ofNat_zero] at hr
  simp only [kvM, Int.ofNat_zero] at hq
  simp only [kvM] at hch
  simp (config := {maxSteps := 1000000}) only [sim, sik, sil, reduceIte, reduceCtorEq, Nat.reduceAdd, Nat.reduceSub, Nat.reduceMul, Nat.reduceLT, Nat.reduceLeDiff, Int.reduceLT, Int.reduceLE, Int.reduceGT, Int.reduceGE, Int.reduceEq, Int.reduceNe, Int.reduceAdd, Int.reduceSub, Int.reduceNeg, Int.cast_ofNat_Int, Int.natCast_nonneg, Int.toNat_natCast, Int.reduceToNat, Int.toNat_zero, Nat.le_refl, Int.le_refl, List.take_length, Z_size, Z_known, Z_isA, Z_ref, Z_under, Z_solid, fz_Z, headSize_limbs, fz_limbs, refs_limbs, solids_limbs, List.length_map, List.contains_cons, List.contains_nil, Nat.reduceBEq, Bool.true_beq, Bool.false_beq, a25, a25r0_ev, a25r1_ev, a25r2_ev, a25r7_ev, a25r12_ev, refs_fA, hr, hq, hch, fz_fAs7, solids_fA]
end Tor
/-
  Chains, twelfth part: the cells that a law is given.
-/
namespace Tor
open Go
set_option linter.unusedSimpArgs false
set_option linter.unusedVariables false
set_option linter.unusedSectionVars false
variable {E : CallF}

theorem sums_bd {N : Nat} : ∀ (l m : List (Int × Int)) (M : Nat), Bd N l → Bd M m → Bd (M + N * l.length) (sums l m)
  | [], m, M, _, hm => by simpa [sums] using hm
  | p :: r, m, M, hl, hm => by
    have h1 := sums_bd r (sadd m p.1 p.2) (M + N) (fun q hq => hl q (.tail _ hq)) (sadd_bd hm (hl p (.head _)))
    have e : sums (p :: r) m = sums r (sadd m p.1 p.2) := rfl
    rw [e, List.length_cons, Nat.mul_succ]
    exact bd_mono (by omega) h1

/-- A pair of bytes, as a law is given it. -/
def pA (p : Int × Int) : AV := .agg [.int .i8 p.1, .int .i8 p.2]
/-- The cell that a pair stands for. -/
def cellOf (p : Int × Int) : Int × Int := (IntKind.i64.wrap ((IntKind.u8.wrap p.1).tmod 10), IntKind.i64.wrap (p.2.tmod 4))

theorem pA_get {l : List (Int × Int)} {i : Nat} (h : i < l.length) : (l.map pA)[i]? = some (.agg [.int .i8 l[i].1, .int .i8 l[i].2]) := by
  simp [h, pA]
theorem refs_pA : ∀ l : List (Int × Int), AV.hasRefs (l.map pA) = false
  | [] => rfl
  | p :: r => by simp [pA, AV.hasRefs, AV.hasRef, refs_pA r]

variable (hE : Free E)
include hE

theorem faces_round (l : List (Int × Int)) (hl : ∀ p ∈ l, -128 ≤ p.2 ∧ p.2 ≤ 127) (i : Nat) (out : List (Int × Int)) (ho : out.length = i) (h1 : i < l.length) (h6 : i < 6) :
    run E GP a2l0 { vars := [.isl (l.map pA), .isl [], .sl 0 i 3 0 i, .int .i64 (i : Nat), .u], heap := [.arr i 3 (out.map fA)], rs := false } =
    run E GP a2l0 { vars := [.isl (l.map pA), .isl [], .sl 0 (i + 1) 3 0 (i + 1), .int .i64 ((i + 1 : Nat) : Int), .u], heap := [.arr (i + 1) 3 ((out ++ [cellOf l[i]]).map fA)], rs := false } := by
  have k1 : (i : Int) < (l.length : Int) := by omega
  have k6 : (i : Int) < 6 := by omega
  have g1 := pA_get h1
  have wi : IntKind.i64.wrap ((i : Int) + 1) = ((i + 1 : Nat) : Int) := i64a (by omega)
  have hm : i + 1 ≤ 4294967296 := by omega
  have hof := fun (H : Heap) => r1_of hE (IntKind.i64.wrap (l[i].2.tmod 4)) H (by rw [IntKind.wrap_i64]; omega) (by rw [IntKind.wrap_i64]; omega)
  conv => lhs; rw [a2l0_run]
  simp (config := {maxSteps := 1000000}) only [sim, sik, sil, reduceIte, reduceCtorEq, Nat.reduceAdd, Nat.reduceSub, Nat.reduceMul, Nat.reduceLT, Nat.reduceLeDiff, Int.reduceLT, Int.reduceLE, Int.reduceGT, Int.reduceGE, Int.reduceEq, Int.reduceNe, Int.reduceAdd, Int.reduceSub, Int.reduceNeg, Int.cast_ofNat_Int, Int.natCast_nonneg, Int.toNat_natCast, Int.reduceToNat, Int.toNat_zero, Nat.le_refl, Int.le_refl, List.take_length, Z_size, Z_known, Z_isA, Z_ref, Z_under, Z_solid, fz_Z, headSize_limbs, fz_limbs, refs_limbs, solids_limbs, List.length_map, List.contains_cons, List.contains_nil, Nat.reduceBEq, Bool.true_beq, Bool.false_beq, a2b0, a2r3_ev, a2r4_ev, a2r5_ev, k1, k6, g1, wi, hm, maxLenA, hof, List.map_append, fA, cellOf, ho]

omit hE in
theorem faces_exit (l : List (Int × Int)) (i : Nat) (out : List (Int × Int)) (h : ¬ i < l.length ∨ ¬ i < 6) :
    run E GP a2l0 { vars := [.isl (l.map pA), .isl [], .sl 0 i 3 0 i, .int .i64 (i : Nat), .u], heap := [.arr i 3 (out.map fA)], rs := false } =
      some (.exit 0, { vars := [.isl (l.map pA), .isl [], .sl 0 i 3 0 i, .int .i64 (i : Nat), .bool false], heap := [.arr i 3 (out.map fA)], rs := false }) := by
  rw [a2l0_run]
  by_cases h1 : i < l.length
  · have k1 : (i : Int) < (l.length : Int) := by omega
    have k6 : ¬ (i : Int) < 6 := by omega
    simp (config := {maxSteps := 1000000}) only [sim, sik, sil, reduceIte, reduceCtorEq, Nat.reduceAdd, Nat.reduceSub, Nat.reduceMul, Nat.reduceLT, Nat.reduceLeDiff, Int.reduceLT, Int.reduceLE, Int.reduceGT, Int.reduceGE, Int.reduceEq, Int.reduceNe, Int.reduceAdd, Int.reduceSub, Int.reduceNeg, Int.cast_ofNat_Int, Int.natCast_nonneg, Int.toNat_natCast, Int.reduceToNat, Int.toNat_zero, Nat.le_refl, Int.le_refl, List.take_length, Z_size, Z_known, Z_isA, Z_ref, Z_under, Z_solid, fz_Z, headSize_limbs, fz_limbs, refs_limbs, solids_limbs, List.length_map, List.contains_cons, List.contains_nil, Nat.reduceBEq, Bool.true_beq, Bool.false_beq, a2b0, a2r3_ev, k1, k6]
  · have k1 : ¬ (i : Int) < (l.length : Int) := by omega
    simp (config := {maxSteps := 1000000}) only [sim, sik, sil, reduceIte, reduceCtorEq, Nat.reduceAdd, Nat.reduceSub, Nat.reduceMul, Nat.reduceLT, Nat.reduceLeDiff, Int.reduceLT, Int.reduceLE, Int.reduceGT, Int.reduceGE, Int.reduceEq, Int.reduceNe, Int.reduceAdd, Int.reduceSub, Int.reduceNeg, Int.cast_ofNat_Int, Int.natCast_nonneg, Int.toNat_natCast, Int.reduceToNat, Int.toNat_zero, Nat.le_refl, Int.le_refl, List.take_length, Z_size, Z_known, Z_isA, Z_ref, Z_under, Z_solid, fz_Z, headSize_limbs, fz_limbs, refs_limbs, solids_limbs, List.length_map, List.contains_cons, List.contains_nil, Nat.reduceBEq, Bool.true_beq, Bool.false_beq, a2b0, a2r3_ev, k1]

theorem faces_loop (l : List (Int × Int)) (hl : ∀ p ∈ l, -128 ≤ p.2 ∧ p.2 ≤ 127) : ∀ (k i : Nat) (out : List (Int × Int)), min l.length 6 = i + k → out.length = i →
    ∃ out' : List (Int × Int), out' = out ++ ((l.take 6).drop i).map cellOf ∧ out'.length = min l.length 6 ∧
    run E GP a2l0 { vars := [.isl (l.map pA), .isl [], .sl 0 i 3 0 i, .int .i64 (i : Nat), .u], heap := [.arr i 3 (out.map fA)], rs := false } =
      some (.exit 0, { vars := [.isl (l.map pA), .isl [], .sl 0 out'.length 3 0 out'.length, .int .i64 (out'.length : Nat), .bool false], heap := [.arr out'.length 3 (out'.map fA)], rs := false }) := by
  intro k
  induction k with
  | zero =>
    intro i out h1 h2
    refine ⟨out, ?_, by omega, ?_⟩
    · rw [List.drop_of_length_le (by rw [List.length_take]; omega)]; simp
    · subst h2; exact faces_exit l _ out (by omega)
  | succ k ih =>
    intro i out h1 h2
    obtain ⟨out', e1, e2, e3⟩ := ih (i + 1) (out ++ [cellOf (l[i]'(by omega))]) (by omega) (by simp [h2])
    refine ⟨out', ?_, e2, ?_⟩
    · rw [e1, List.drop_eq_getElem_cons (i := i) (by rw [List.length_take]; omega)]
      simp
    · rw [faces_round hE l hl i out h2 (by omega) (by omega)]; exact e3

theorem r26_faces (l : List (Int × Int)) (hl : ∀ p ∈ l, -128 ≤ p.2 ∧ p.2 ≤ 127) (H : Heap) :
    call E GP 2 [.isl (l.map pA)] H = some (.isl (((l.take 6).map cellOf).map fA), H, false) := by
  rw [call_fun (hE _ _ _ (by decide)) (f := a2) rfl rfl]
  obtain ⟨out, e1, e2, e3⟩ := faces_loop hE l hl (min l.length 6) 0 [] (by omega) rfl
  rw [List.nil_append, List.drop_zero] at e1
  rw [← e1]
  simp only [List.map_nil, Int.ofNat_zero] at e3
  simp (config := {maxSteps := 1000000}) only [sim, sik, sil, reduceIte, reduceCtorEq, Nat.reduceAdd, Nat.reduceSub, Nat.reduceMul, Nat.reduceLT, Nat.reduceLeDiff, Int.reduceLT, Int.reduceLE, Int.reduceGT, Int.reduceGE, Int.reduceEq, Int.reduceNe, Int.reduceAdd, Int.reduceSub, Int.reduceNeg, Int.cast_ofNat_Int, Int.natCast_nonneg, Int.toNat_natCast, Int.reduceToNat, Int.toNat_zero, Nat.le_refl, Int.le_refl, List.take_length, Z_size, Z_known, Z_isA, Z_ref, Z_under, Z_solid, fz_Z, headSize_limbs, fz_limbs, refs_limbs, solids_limbs, List.length_map, List.contains_cons, List.contains_nil, Nat.reduceBEq, Bool.true_beq, Bool.false_beq, a2, a2r0_ev, a2r1_ev, a2r2_ev, a2r6_ev, refs_pA, e3, take_all, fz_fAs7, solids_fA, refs_fA, headSize_fA]
end Tor
/-
  The plain law of chains: lists of pairs as functions.
-/
namespace Tor

/-- Strictly rising IDs, no coefficient 0, all IDs above a bound. -/
def Canon : Option Int → List (Int × Int) → Prop
  | _, [] => True
  | b, (j, x) :: r => (∀ m, b = some m → m < j) ∧ x ≠ 0 ∧ Canon (some j) r

theorem canon_weak {r : List (Int × Int)} {b b' : Option Int} (h : Canon b r) (hb : ∀ m, b' = some m → ∃ k, b = some k ∧ m ≤ k) : Canon b' r := by
  cases r with
  | nil => trivial
  | cons p r =>
    obtain ⟨h1, h2, h3⟩ := h
    refine ⟨fun m hm => ?_, h2, h3⟩
    obtain ⟨k, hk, hle⟩ := hb m hm
    have := h1 k hk
    omega

theorem look_below {r : List (Int × Int)} {m k : Int} (h : Canon (some m) r) (hk : k ≤ m) : lookL k r = 0 := by
  induction r generalizing m with
  | nil => rfl
  | cons p r ih =>
    obtain ⟨j, x⟩ := p
    obtain ⟨h1, h2, h3⟩ := h
    have := h1 m rfl
    simp only [lookL]
    rw [if_neg (by omega)]
    exact ih h3 (by omega)

/-- Canonical lists are told apart by what they say of the IDs. -/
theorem canon_ext : ∀ (a b : List (Int × Int)) (m n : Option Int), Canon m a → Canon n b → (∀ k, lookL k a = lookL k b) → a = b
  | [], [], _, _, _, _, _ => rfl
  | [], (j, x) :: r, _, _, _, hb, h => by
    have := h j
    simp only [lookL, if_true] at this
    exact absurd this.symm hb.2.1
  | (j, x) :: r, [], _, _, ha, _, h => by
    have := h j
    simp only [lookL, if_true] at this
    exact absurd this ha.2.1
  | (j, x) :: r, (i, y) :: s, _, _, ha, hb, h => by
    obtain ⟨-, a2, a3⟩ := ha
    obtain ⟨-, b2, b3⟩ := hb
    have hij : i = j := by
      rcases Int.lt_trichotomy i j with c | c | c
      · exfalso
        have := h i
        simp only [lookL, if_true] at this
        rw [if_neg (by omega), look_below a3 (by omega)] at this
        exact b2 this.symm
      · exact c
      · exfalso
        have := h j
        simp only [lookL, if_true] at this
        rw [if_neg (by omega), look_below b3 (by omega)] at this
        exact a2 this
    subst hij
    have hxy : x = y := by have := h i; simpa only [lookL, if_true] using this
    subst hxy
    congr 1
    refine canon_ext r s _ _ a3 b3 fun k => ?_
    by_cases c : k = i
    · subst c; rw [look_below a3 (by omega), look_below b3 (by omega)]
    · have := h k
      simpa only [lookL, if_neg c] using this

theorem insR_true (f : Int × Int) : ∀ l, insR f true l = l
  | [] => rfl
  | x :: r => by
    rw [insR, if_neg (by simp), if_neg (by simp), insR_true f r]

/-- An insertion adds. -/
theorem insR_look (f : Int × Int) (k : Int) : ∀ (l : List (Int × Int)) (b : Option Int), Canon b l → lookL k (insR f false l) = lookL k l + (if k = f.1 then f.2 else 0)
  | [], _, _ => by
    obtain ⟨i, c⟩ := f
    simp only [insR, lookL, Bool.false_eq_true, if_false]
    split <;> simp
  | (j, x) :: r, b, h => by
    obtain ⟨i, c⟩ := f
    obtain ⟨h1, h2, h3⟩ := h
    have ih := insR_look (i, c) k r _ h3
    simp only [insR, insR_true, true_and]
    by_cases c1 : j > i
    · rw [if_pos c1]
      simp only [lookL]
      by_cases e : k = i
      · subst e; rw [if_pos rfl, if_pos rfl, if_neg (by omega), look_below h3 (by omega)]; omega
      · rw [if_neg e, if_neg e]; omega
    · rw [if_neg c1]
      by_cases c2 : j = i
      · subst c2
        rw [if_pos rfl]
        by_cases hz : x + c ≠ 0
        · rw [if_pos hz]
          simp only [lookL]
          split <;> omega
        · rw [if_neg hz]
          simp only [lookL]
          by_cases e : k = j
          · subst e; rw [if_pos rfl, if_pos rfl, look_below h3 (by omega)]; omega
          · rw [if_neg e, if_neg e]; omega
      · rw [if_neg c2]
        simp only [lookL]
        by_cases e : k = j
        · subst e; rw [if_pos rfl, if_pos rfl, if_neg (by omega)]; omega
        · rw [if_neg e, if_neg e, ih]
end Tor
/-
  The plain law of chains, second part: insertions and sums.
-/
namespace Tor

theorem insR_canon (f : Int × Int) (hf : f.2 ≠ 0) : ∀ (l : List (Int × Int)) (b : Option Int), (∀ m, b = some m → m < f.1) → Canon b l → Canon b (insR f false l)
  | [], b, hb, _ => by
    obtain ⟨i, c⟩ := f
    simp only [insR, Bool.false_eq_true, if_false]
    exact ⟨hb, hf, trivial⟩
  | (j, x) :: r, b, hb, h => by
    obtain ⟨i, c⟩ := f
    obtain ⟨h1, h2, h3⟩ := h
    simp only [insR, insR_true, true_and]
    by_cases c1 : j > i
    · rw [if_pos c1]
      exact ⟨hb, hf, fun m hm => by cases hm; exact c1, h2, h3⟩
    · rw [if_neg c1]
      by_cases c2 : j = i
      · subst c2
        rw [if_pos rfl]
        by_cases hz : x + c ≠ 0
        · rw [if_pos hz]; exact ⟨h1, hz, h3⟩
        · rw [if_neg hz]
          cases b with
          | none => exact canon_weak h3 (fun m hm => by cases hm)
          | some m => exact canon_weak h3 (fun m' hm => ⟨j, rfl, by cases hm; have := h1 m rfl; omega⟩)
      · rw [if_neg c2]
        exact ⟨h1, h2, insR_canon (i, c) hf r _ (fun m hm => by cases hm; simp only; omega) h3⟩

theorem insert_canon (l : List (Int × Int)) (f : Int × Int) (h : Canon none l) : Canon none (insert26 l f) := by
  unfold insert26
  by_cases hz : f.2 = 0
  · rw [show decide (f.2 = 0) = true by simpa using hz, insR_true]; exact h
  · rw [show decide (f.2 = 0) = false by simpa using hz]; exact insR_canon f hz l _ (fun m hm => by cases hm) h

theorem insert_look (l : List (Int × Int)) (f : Int × Int) (k : Int) (h : Canon none l) : lookL k (insert26 l f) = lookL k l + (if k = f.1 then f.2 else 0) := by
  unfold insert26
  by_cases hz : f.2 = 0
  · rw [show decide (f.2 = 0) = true by simpa using hz, insR_true, hz]; split <;> omega
  · rw [show decide (f.2 = 0) = false by simpa using hz]; exact insR_look f k l _ h

/-- What cells say of an ID, all together. -/
def tot (k : Int) : List (Int × Int) → Int
  | [] => 0
  | (j, x) :: r => (if k = j then x else 0) + tot k r

theorem make_law : ∀ (l a : List (Int × Int)), Canon none a → Canon none (l.foldl insert26 a) ∧ ∀ k, lookL k (l.foldl insert26 a) = lookL k a + tot k l
  | [], a, h => ⟨h, fun k => by simp [tot]⟩
  | (j, x) :: r, a, h => by
    obtain ⟨h1, h2⟩ := make_law r (insert26 a (j, x)) (insert_canon a _ h)
    refine ⟨h1, fun k => ?_⟩
    rw [List.foldl_cons, h2 k, insert_look a _ k h]
    simp only [tot]; omega

theorem add_law (c : Int) : ∀ (l a : List (Int × Int)), Canon none a → Canon none (add26 a l c) ∧ ∀ k, lookL k (add26 a l c) = lookL k a + c * tot k l
  | [], a, h => ⟨h, fun k => by simp [tot, add26]⟩
  | (j, x) :: r, a, h => by
    obtain ⟨h1, h2⟩ := add_law c r (insert26 a (j, c * x)) (insert_canon a _ h)
    have e : add26 a ((j, x) :: r) c = add26 (insert26 a (j, c * x)) r c := rfl
    rw [e]
    refine ⟨h1, fun k => ?_⟩
    rw [h2 k, insert_look a _ k h]
    simp only [tot, Int.mul_add]
    by_cases e : k = j
    · rw [if_pos e, if_pos e]; omega
    · rw [if_neg e, if_neg e, Int.mul_zero]; omega

/-- Keys that occur once. -/
def Once (l : List (Int × Int)) : Prop := (l.map (·.1)).Nodup

theorem look_set (k y i : Int) : ∀ l, lookL i (setL k y l) = if i = k then y else lookL i l
  | [] => by simp only [setL, lookL]
  | (j, x) :: r => by
    have ih := look_set k y i r
    simp only [setL]
    by_cases c : k = j
    · subst c; rw [if_pos rfl]; simp only [lookL]; split <;> rfl
    · rw [if_neg c]; simp only [lookL]
      by_cases e : i = j
      · subst e; rw [if_pos rfl, if_pos rfl, if_neg (fun h => c h.symm)]
      · rw [if_neg e, if_neg e, ih]
theorem look_out {i : Int} : ∀ {l : List (Int × Int)}, i ∉ l.map (·.1) → lookL i l = 0
  | [], _ => rfl
  | (j, x) :: r, h => by
    simp only [List.map_cons, List.mem_cons, not_or] at h
    simp only [lookL]; rw [if_neg h.1]; exact look_out h.2
theorem look_del (k i : Int) : ∀ l, Once l → lookL i (delL k l) = if i = k then 0 else lookL i l
  | [], _ => by simp [delL, lookL]
  | (j, x) :: r, h => by
    simp only [Once, List.map_cons, List.nodup_cons] at h
    have ih := look_del k i r h.2
    simp only [delL]
    by_cases c : k = j
    · subst c; rw [if_pos rfl]; simp only [lookL]
      by_cases e : i = k
      · subst e; rw [if_pos rfl, look_out h.1]
      · rw [if_neg e, if_neg e]
    · rw [if_neg c]; simp only [lookL]
      by_cases e : i = j
      · subst e; rw [if_pos rfl, if_pos rfl, if_neg (fun h => c h.symm)]
      · rw [if_neg e, if_neg e, ih]
theorem sadd_look (k c i : Int) (l : List (Int × Int)) (h : Once l) : lookL i (sadd l k c) = lookL i l + (if i = k then c else 0) := by
  unfold sadd
  split
  · rename_i hz
    rw [look_del k i l h]
    by_cases e : i = k
    · subst e; rw [if_pos rfl, if_pos rfl]; omega
    · rw [if_neg e, if_neg e]; omega
  · rw [look_set]
    by_cases e : i = k
    · subst e; rw [if_pos rfl, if_pos rfl]
    · rw [if_neg e, if_neg e]; omega
end Tor
/-
  The plain law of chains, third part: maps and their chains.
-/
namespace Tor

theorem mem_setL {k y : Int} {p : Int × Int} : ∀ {l : List (Int × Int)}, p ∈ setL k y l → p = (k, y) ∨ p ∈ l
  | [], h => by simp [setL] at h; exact Or.inl h
  | (j, x) :: r, h => by
    simp only [setL] at h
    split at h
    · cases h with
      | head => exact Or.inl rfl
      | tail _ h => exact Or.inr (.tail _ h)
    · cases h with
      | head => exact Or.inr (.head _)
      | tail _ h => rcases mem_setL h with h | h
                    · exact Or.inl h
                    · exact Or.inr (.tail _ h)
theorem mem_delL {k : Int} {p : Int × Int} : ∀ {l : List (Int × Int)}, p ∈ delL k l → p ∈ l
  | [], h => by simp [delL] at h
  | (j, x) :: r, h => by
    simp only [delL] at h
    split at h
    · exact .tail _ h
    · cases h with
      | head => exact .head _
      | tail _ h => exact .tail _ (mem_delL h)
theorem once_setL (k y : Int) : ∀ l : List (Int × Int), Once l → Once (setL k y l)
  | [], _ => by simp [setL, Once]
  | (j, x) :: r, h => by
    simp only [Once, List.map_cons, List.nodup_cons] at h
    simp only [setL]
    split
    · rename_i c; subst c
      simp only [Once, List.map_cons, List.nodup_cons]; exact h
    · rename_i c
      simp only [Once, List.map_cons, List.nodup_cons]
      refine ⟨fun hm => ?_, once_setL k y r h.2⟩
      obtain ⟨p, hp, e⟩ := List.mem_map.1 hm
      rcases mem_setL hp with e2 | hp
      · subst e2; exact c e
      · exact h.1 (List.mem_map.2 ⟨p, hp, e⟩)
theorem once_delL (k : Int) : ∀ l : List (Int × Int), Once l → Once (delL k l)
  | [], _ => by simp [delL, Once]
  | (j, x) :: r, h => by
    simp only [Once, List.map_cons, List.nodup_cons] at h
    simp only [delL]
    split
    · exact h.2
    · simp only [Once, List.map_cons, List.nodup_cons]
      refine ⟨fun hm => ?_, once_delL k r h.2⟩
      obtain ⟨p, hp, e⟩ := List.mem_map.1 hm
      exact h.1 (List.mem_map.2 ⟨p, mem_delL hp, e⟩)

/-- A map of sums: each ID once, none of them at 0. -/
def Sums (m : List (Int × Int)) : Prop := Once m ∧ ∀ p ∈ m, p.2 ≠ 0

theorem sadd_sums (m : List (Int × Int)) (k c : Int) (h : Sums m) : Sums (sadd m k c) := by
  unfold sadd
  split
  · exact ⟨once_delL k m h.1, fun p hp => h.2 p (mem_delL hp)⟩
  · rename_i hz
    refine ⟨once_setL k _ m h.1, fun p hp => ?_⟩
    rcases mem_setL hp with e | hp
    · subst e; exact hz
    · exact h.2 p hp

theorem sums_law : ∀ (l m : List (Int × Int)), Sums m → Sums (sums l m) ∧ ∀ k, lookL k (sums l m) = lookL k m + tot k l
  | [], m, h => ⟨h, fun k => by simp [tot, sums]⟩
  | (j, x) :: r, m, h => by
    obtain ⟨h1, h2⟩ := sums_law r (sadd m j x) (sadd_sums m j x h)
    have e : sums ((j, x) :: r) m = sums r (sadd m j x) := rfl
    rw [e]
    refine ⟨h1, fun k => ?_⟩
    rw [h2 k, sadd_look _ _ _ _ h.1]
    simp only [tot]; omega

theorem sumsK_law (c : Int) : ∀ (l m : List (Int × Int)), Sums m → Sums (sumsK c l m) ∧ ∀ k, lookL k (sumsK c l m) = lookL k m + c * tot k l
  | [], m, h => ⟨h, fun k => by simp [tot, sumsK]⟩
  | (j, x) :: r, m, h => by
    obtain ⟨h1, h2⟩ := sumsK_law c r (sadd m j (c * x)) (sadd_sums m j (c * x) h)
    have e : sumsK c ((j, x) :: r) m = sumsK c r (sadd m j (c * x)) := rfl
    rw [e]
    refine ⟨h1, fun k => ?_⟩
    rw [h2 k, sadd_look _ _ _ _ h.1]
    simp only [tot, Int.mul_add]
    by_cases e : k = j
    · rw [if_pos e, if_pos e]; omega
    · rw [if_neg e, if_neg e, Int.mul_zero]; omega

theorem look_in {k : Int} : ∀ {m : List (Int × Int)}, (∀ p ∈ m, p.2 ≠ 0) → k ∈ m.map (·.1) → lookL k m ≠ 0
  | [], _, h => by simp at h
  | (j, x) :: r, hn, h => by
    simp only [lookL]
    split
    · exact hn _ (.head _)
    · rename_i c
      simp only [List.map_cons, List.mem_cons] at h
      exact look_in (fun p hp => hn p (.tail _ hp)) (h.resolve_left c)

theorem chainOf_canon (m : List (Int × Int)) : ∀ (ks : List Int) (b : Option Int), ks.Pairwise (· < ·) → (∀ n, b = some n → ∀ k ∈ ks, n < k) → (∀ k ∈ ks, lookL k m ≠ 0) → Canon b (chainOf ks m)
  | [], _, _, _, _ => trivial
  | k :: r, b, hp, hb, hz => by
    rw [List.pairwise_cons] at hp
    exact ⟨fun n hn => hb n hn k (.head _), hz k (.head _), chainOf_canon m r (some k) hp.2 (fun n hn j hj => by cases hn; exact hp.1 j hj) (fun j hj => hz j (.tail _ hj))⟩

theorem chainOf_look (m : List (Int × Int)) (i : Int) : ∀ ks : List Int, lookL i (chainOf ks m) = if i ∈ ks then lookL i m else 0
  | [] => by simp [chainOf, lookL]
  | k :: r => by
    have ih := chainOf_look m i r
    have e : chainOf (k :: r) m = (k, lookL k m) :: chainOf r m := rfl
    rw [e]; simp only [lookL]
    by_cases c : i = k
    · subst c; simp
    · rw [if_neg c, ih]; simp [c]

/-- The chain of a map, by its sorted keys. -/
theorem chain_law (m : List (Int × Int)) (h : Sums m) (ks : List Int) (hp : ks.Pairwise (· < ·)) (hk : ∀ k, k ∈ ks ↔ k ∈ m.map (·.1)) :
    Canon none (chainOf ks m) ∧ ∀ k, lookL k (chainOf ks m) = lookL k m := by
  refine ⟨chainOf_canon m ks none hp (fun n hn => by cases hn) (fun k hk' => look_in h.2 ((hk k).1 hk')), fun k => ?_⟩
  rw [chainOf_look]
  by_cases c : k ∈ ks
  · rw [if_pos c]
  · rw [if_neg c, look_out (fun hh => c ((hk k).2 hh))]
end Tor
/-
  The plain law of chains, fourth part: the package makes what the reference makes.
-/
namespace Tor

theorem tot_below {k : Int} : ∀ {r : List (Int × Int)} {m : Int}, Canon (some m) r → k ≤ m → tot k r = 0
  | [], _, _, _ => rfl
  | (j, x) :: r, m, h, hk => by
    have := h.1 m rfl
    simp only [tot]
    rw [if_neg (by omega), tot_below h.2.2 (by omega)]; rfl

theorem tot_canon (k : Int) : ∀ (l : List (Int × Int)) (b : Option Int), Canon b l → tot k l = lookL k l
  | [], _, _ => rfl
  | (j, x) :: r, b, h => by
    simp only [tot, lookL]
    by_cases c : k = j
    · subst c; rw [if_pos rfl, if_pos rfl, tot_below h.2.2 (by omega)]; omega
    · rw [if_neg c, if_neg c, tot_canon k r _ h.2.2]; omega

theorem sums_nil : Sums [] := ⟨by simp [Once], fun p hp => by cases hp⟩

theorem make_eq (l : List (Int × Int)) (ks : List Int) (hp : ks.Pairwise (· < ·)) (hk : ∀ k, k ∈ ks ↔ k ∈ (sums l []).map (·.1)) :
    chainOf ks (sums l []) = l.foldl insert26 [] := by
  obtain ⟨s1, s2⟩ := sums_law l [] sums_nil
  obtain ⟨c1, c2⟩ := chain_law _ s1 ks hp hk
  obtain ⟨m1, m2⟩ := make_law l [] trivial
  exact canon_ext _ _ none none c1 m1 fun k => by rw [c2, s2, m2]

theorem add_eq (a l : List (Int × Int)) (c : Int) (ha : Canon none a) (ks : List Int) (hp : ks.Pairwise (· < ·)) (hk : ∀ k, k ∈ ks ↔ k ∈ (sumsK c l (sums a [])).map (·.1)) :
    chainOf ks (sumsK c l (sums a [])) = add26 a l c := by
  obtain ⟨s1, s2⟩ := sums_law a [] sums_nil
  obtain ⟨t1, t2⟩ := sumsK_law c l _ s1
  obtain ⟨c1, c2⟩ := chain_law _ t1 ks hp hk
  obtain ⟨m1, m2⟩ := add_law c l a ha
  refine canon_ext _ _ none none c1 m1 fun k => ?_
  rw [c2, t2, s2, m2, tot_canon k a _ ha]
  simp [lookL]
end Tor
