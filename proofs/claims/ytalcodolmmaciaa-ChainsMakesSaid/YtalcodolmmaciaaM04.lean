/-
  A part of the proof: an abstract machine for the program, its soundness, and what the functions compute (Int4, Int5, Int6, Int7, Int8, Int9, Int10, Int11, Int12, Int13).
  Conditions: none.
-/
import Derived.Test.YtalcodolmmaciaaM03
set_option linter.unusedSectionVars false
set_option linter.unusedVariables false
set_option linter.unusedSimpArgs false
/-
  The reference implementation of integers, fourth part: differences.
-/
namespace Tor
open Go
set_option linter.unusedSimpArgs false
set_option linter.unusedVariables false

def mst (a b out : List Nat) (i w : Nat) : St :=
  { vars := [.isl (a.map limbA), .isl (b.map limbA), .isl [], .sl 0 i 1 0 i, .int .i64 w, .int .i64 i, .u, .u, .u, .u], heap := [.arr i 1 (out.map limbA)], rs := false }

variable {E : CallF}

/-- One place: the digit and what is borrowed. -/
def mdig (x y w : Nat) : Nat := if x < y + w then x + B32 - (y + w) else x - (y + w)
def mbor (x y w : Nat) : Nat := if x < y + w then 1 else 0

theorem minus_round (a b : List Nat) (ha : ∀ d ∈ a, d < B32) (hb : ∀ d ∈ b, d < B32) (la : a.length < 2147483648) (i w : Nat) (out : List Nat) (ho : out.length = i) (hw : w ≤ 1) (h1 : i < a.length) :
    run E GP a64l0 (mst a b out i w) = run E GP a64l0 (mst a b (out ++ [mdig (dig a i) (dig b i) w]) (i + 1) (mbor (dig a i) (dig b i) w)) := by
  have da := dig_lt ha i
  have db := dig_lt hb i
  simp only [B32] at da db
  have w1 : IntKind.i64.wrap ((i : Int) + 1) = ((i + 1 : Nat) : Int) := i64a (by omega)
  have hm : i + 1 ≤ 4294967296 := by omega
  have g1 := limb_get h1
  have e1 : dig a i = a.getD i 0 := by unfold dig; rw [if_pos h1]
  rw [← e1] at g1
  have k1 : (i : Int) < (a.length : Int) := by omega
  have wa : IntKind.i64.wrap (dig a i : Int) = (dig a i : Int) := i64w (by omega)
  have wb : IntKind.i64.wrap ((dig a i : Int) - (w : Int)) = (dig a i : Int) - (w : Int) := i64w (by omega)
  conv => lhs; rw [a64l0_run]
  by_cases h2 : i < b.length
  · have g2 := limb_get h2
    have e2 : dig b i = b.getD i 0 := by unfold dig; rw [if_pos h2]
    rw [← e2] at g2
    have k2 : (i : Int) < (b.length : Int) := by omega
    have wc : IntKind.i64.wrap (dig b i : Int) = (dig b i : Int) := i64w (by omega)
    have wd : IntKind.i64.wrap ((dig a i : Int) - (w : Int) - (dig b i : Int)) = (dig a i : Int) - (w : Int) - (dig b i : Int) := i64w (by omega)
    by_cases h3 : dig a i < dig b i + w
    · have k3 : (dig a i : Int) - (w : Int) - (dig b i : Int) < 0 := by omega
      have we : IntKind.i64.wrap ((dig a i : Int) - (w : Int) - (dig b i : Int) + 4294967296) = ((mdig (dig a i) (dig b i) w : Nat) : Int) := by
        rw [i64w (by omega)]; unfold mdig; rw [if_pos h3]; simp only [B32]; omega
      have wr : IntKind.u32.wrap ((mdig (dig a i) (dig b i) w : Nat) : Int) = ((mdig (dig a i) (dig b i) w : Nat) : Int) := by
        rw [u32n, Nat.mod_eq_of_lt]; unfold mdig; rw [if_pos h3]; simp only [B32]; omega
      have hbo : mbor (dig a i) (dig b i) w = 1 := by unfold mbor; rw [if_pos h3]
      simp (config := {maxSteps := 1000000}) only [sim, sik, sil, reduceIte, reduceCtorEq, Nat.reduceAdd, Nat.reduceSub, Nat.reduceMul, Nat.reduceLT, Nat.reduceLeDiff, Int.reduceLT, Int.reduceLE, Int.reduceGT, Int.reduceGE, Int.reduceEq, Int.reduceNe, Int.reduceAdd, Int.reduceSub, Int.reduceNeg, Int.cast_ofNat_Int, Int.natCast_nonneg, Int.toNat_natCast, Int.reduceToNat, Int.toNat_zero, Nat.le_refl, Int.le_refl, List.take_length, Z_size, Z_known, Z_isA, Z_ref, Z_under, Z_solid, fz_Z, headSize_limbs, fz_limbs, refs_limbs, solids_limbs, List.length_map, List.contains_cons, List.contains_nil, Nat.reduceBEq, Bool.true_beq, Bool.false_beq, List.map_append, mst, a64b0, a64r3_ev, a64r5_ev, a64r6_ev, a64r7_ev, a64r8_ev, a64r9_ev, a64r10_ev, a64r11_ev, a64r12_ev, a64r4_ev, limbA, w1, hm, maxLenA, ho, g1, k1, wa, wb, g2, k2, wc, wd, k3, we, wr, hbo]
    · have k3 : ¬ (dig a i : Int) - (w : Int) - (dig b i : Int) < 0 := by omega
      have wr : IntKind.u32.wrap ((dig a i : Int) - (w : Int) - (dig b i : Int)) = ((mdig (dig a i) (dig b i) w : Nat) : Int) := by
        rw [show (dig a i : Int) - (w : Int) - (dig b i : Int) = ((dig a i - (dig b i + w) : Nat) : Int) by omega, u32n, Nat.mod_eq_of_lt (by simp only [B32]; omega)]
        unfold mdig; rw [if_neg h3]
      have hbo : mbor (dig a i) (dig b i) w = 0 := by unfold mbor; rw [if_neg h3]
      simp (config := {maxSteps := 1000000}) only [sim, sik, sil, reduceIte, reduceCtorEq, Nat.reduceAdd, Nat.reduceSub, Nat.reduceMul, Nat.reduceLT, Nat.reduceLeDiff, Int.reduceLT, Int.reduceLE, Int.reduceGT, Int.reduceGE, Int.reduceEq, Int.reduceNe, Int.reduceAdd, Int.reduceSub, Int.reduceNeg, Int.cast_ofNat_Int, Int.natCast_nonneg, Int.toNat_natCast, Int.reduceToNat, Int.toNat_zero, Nat.le_refl, Int.le_refl, List.take_length, Z_size, Z_known, Z_isA, Z_ref, Z_under, Z_solid, fz_Z, headSize_limbs, fz_limbs, refs_limbs, solids_limbs, List.length_map, List.contains_cons, List.contains_nil, Nat.reduceBEq, Bool.true_beq, Bool.false_beq, List.map_append, mst, a64b0, a64r3_ev, a64r5_ev, a64r6_ev, a64r7_ev, a64r8_ev, a64r9_ev, a64r10_ev, a64r11_ev, a64r12_ev, a64r4_ev, limbA, w1, hm, maxLenA, ho, g1, k1, wa, wb, g2, k2, wc, wd, k3, wr, hbo, Int.ofNat_zero]
  · have e2 : dig b i = 0 := by unfold dig; rw [if_neg h2]
    have k2 : ¬ (i : Int) < (b.length : Int) := by omega
    by_cases h3 : dig a i < dig b i + w
    · have k3 : (dig a i : Int) - (w : Int) < 0 := by omega
      have we : IntKind.i64.wrap ((dig a i : Int) - (w : Int) + 4294967296) = ((mdig (dig a i) (dig b i) w : Nat) : Int) := by
        rw [i64w (by omega)]; unfold mdig; rw [if_pos h3]; simp only [B32]; omega
      have wr : IntKind.u32.wrap ((mdig (dig a i) (dig b i) w : Nat) : Int) = ((mdig (dig a i) (dig b i) w : Nat) : Int) := by
        rw [u32n, Nat.mod_eq_of_lt]; unfold mdig; rw [if_pos h3]; simp only [B32]; omega
      have hbo : mbor (dig a i) (dig b i) w = 1 := by unfold mbor; rw [if_pos h3]
      simp (config := {maxSteps := 1000000}) only [sim, sik, sil, reduceIte, reduceCtorEq, Nat.reduceAdd, Nat.reduceSub, Nat.reduceMul, Nat.reduceLT, Nat.reduceLeDiff, Int.reduceLT, Int.reduceLE, Int.reduceGT, Int.reduceGE, Int.reduceEq, Int.reduceNe, Int.reduceAdd, Int.reduceSub, Int.reduceNeg, Int.cast_ofNat_Int, Int.natCast_nonneg, Int.toNat_natCast, Int.reduceToNat, Int.toNat_zero, Nat.le_refl, Int.le_refl, List.take_length, Z_size, Z_known, Z_isA, Z_ref, Z_under, Z_solid, fz_Z, headSize_limbs, fz_limbs, refs_limbs, solids_limbs, List.length_map, List.contains_cons, List.contains_nil, Nat.reduceBEq, Bool.true_beq, Bool.false_beq, List.map_append, mst, a64b0, a64r3_ev, a64r5_ev, a64r6_ev, a64r7_ev, a64r8_ev, a64r9_ev, a64r10_ev, a64r11_ev, a64r12_ev, a64r4_ev, limbA, w1, hm, maxLenA, ho, g1, k1, wa, wb, k2, k3, we, wr, hbo]
    · have k3 : ¬ (dig a i : Int) - (w : Int) < 0 := by omega
      have wr : IntKind.u32.wrap ((dig a i : Int) - (w : Int)) = ((mdig (dig a i) (dig b i) w : Nat) : Int) := by
        rw [show (dig a i : Int) - (w : Int) = ((dig a i - (dig b i + w) : Nat) : Int) by omega, u32n, Nat.mod_eq_of_lt (by simp only [B32]; omega)]
        unfold mdig; rw [if_neg h3]
      have hbo : mbor (dig a i) (dig b i) w = 0 := by unfold mbor; rw [if_neg h3]
      simp (config := {maxSteps := 1000000}) only [sim, sik, sil, reduceIte, reduceCtorEq, Nat.reduceAdd, Nat.reduceSub, Nat.reduceMul, Nat.reduceLT, Nat.reduceLeDiff, Int.reduceLT, Int.reduceLE, Int.reduceGT, Int.reduceGE, Int.reduceEq, Int.reduceNe, Int.reduceAdd, Int.reduceSub, Int.reduceNeg, Int.cast_ofNat_Int, Int.natCast_nonneg, Int.toNat_natCast, Int.reduceToNat, Int.toNat_zero, Nat.le_refl, Int.le_refl, List.take_length, Z_size, Z_known, Z_isA, Z_ref, Z_under, Z_solid, fz_Z, headSize_limbs, fz_limbs, refs_limbs, solids_limbs, List.length_map, List.contains_cons, List.contains_nil, Nat.reduceBEq, Bool.true_beq, Bool.false_beq, List.map_append, mst, a64b0, a64r3_ev, a64r5_ev, a64r6_ev, a64r7_ev, a64r8_ev, a64r9_ev, a64r10_ev, a64r11_ev, a64r12_ev, a64r4_ev, limbA, w1, hm, maxLenA, ho, g1, k1, wa, wb, k2, k3, wr, hbo, Int.ofNat_zero]

theorem minus_exit (a b out : List Nat) (i w : Nat) (h1 : ¬ i < a.length) :
    run E GP a64l0 (mst a b out i w) = some (.exit 0, { vars := [.isl (a.map limbA), .isl (b.map limbA), .isl [], .sl 0 i 1 0 i, .int .i64 w, .int .i64 i, .u, .bool false, .u, .u], heap := [.arr i 1 (out.map limbA)], rs := false }) := by
  have k1 : ¬ (i : Int) < (a.length : Int) := by omega
  rw [a64l0_run]
  simp (config := {maxSteps := 1000000}) only [sim, sik, sil, reduceIte, reduceCtorEq, Nat.reduceAdd, Nat.reduceSub, Nat.reduceMul, Nat.reduceLT, Nat.reduceLeDiff, Int.reduceLT, Int.reduceLE, Int.reduceGT, Int.reduceGE, Int.reduceEq, Int.reduceNe, Int.reduceAdd, Int.reduceSub, Int.reduceNeg, Int.cast_ofNat_Int, Int.natCast_nonneg, Int.toNat_natCast, Int.reduceToNat, Int.toNat_zero, Nat.le_refl, Int.le_refl, List.take_length, Z_size, Z_known, Z_isA, Z_ref, Z_under, Z_solid, fz_Z, headSize_limbs, fz_limbs, refs_limbs, solids_limbs, List.length_map, List.contains_cons, List.contains_nil, Nat.reduceBEq, Bool.true_beq, Bool.false_beq, mst, a64b0, a64r3_ev, k1]

theorem mdig_eq {x y w : Nat} (hx : x < B32) (hy : y < B32) (hw : w ≤ 1) : mdig x y w < B32 ∧ mbor x y w ≤ 1 ∧ x + B32 * mbor x y w = mdig x y w + (y + w) := by
  unfold mdig mbor
  simp only [B32] at *
  split <;> omega

theorem minus_loop (a b : List Nat) (ha : ∀ d ∈ a, d < B32) (hb : ∀ d ∈ b, d < B32) (la : a.length < 2147483648) : ∀ (k i w : Nat) (out : List Nat), a.length = i + k →
    out.length = i → w ≤ 1 → (∀ d ∈ out, d < B32) → val (a.take i) + B32 ^ i * w = val out + val (b.take i) →
    ∃ (r : List Nat) (w' : Nat), run E GP a64l0 (mst a b out i w) = some (.exit 0, { vars := [.isl (a.map limbA), .isl (b.map limbA), .isl [], .sl 0 r.length 1 0 r.length, .int .i64 w', .int .i64 r.length, .u, .bool false, .u, .u], heap := [.arr r.length 1 (r.map limbA)], rs := false }) ∧
      (∀ d ∈ r, d < B32) ∧ val a + B32 ^ a.length * w' = val r + val (b.take a.length) ∧ r.length = a.length := by
  intro k
  induction k with
  | zero =>
    intro i w out h1 h3 h4 h6 h7
    have hi : i = a.length := by omega
    subst hi
    rw [List.take_length] at h7
    exact ⟨out, w, by rw [minus_exit a b out a.length w (by omega), h3], h6, h7, h3⟩
  | succ k ih =>
    intro i w out h1 h3 h4 h6 h7
    have da := dig_lt ha i
    have db := dig_lt hb i
    obtain ⟨m1, m2, m3⟩ := mdig_eq da db h4
    rw [minus_round a b ha hb la i w out h3 h4 (by omega)]
    refine ih (i + 1) _ _ (by omega) (by simp [h3]) m2 (fun d hd => ?_) ?_
    · rcases List.mem_append.1 hd with hd | hd
      · exact h6 d hd
      · simp at hd; subst hd; exact m1
    · rw [val_append, h3, take_dig, take_dig]
      simp only [val, Nat.mul_zero, Nat.add_zero]
      generalize mdig (dig a i) (dig b i) w = m at *
      generalize mbor (dig a i) (dig b i) w = q at *
      have e : B32 ^ i * dig a i + B32 ^ (i + 1) * q = B32 ^ i * m + B32 ^ i * dig b i + B32 ^ i * w := by
        rw [Nat.pow_succ, Nat.mul_assoc, ← Nat.mul_add, m3, Nat.mul_add, Nat.mul_add]; omega
      omega

variable (hE : Free E)
include hE

theorem r1_minus (a b : List Nat) (ha : ∀ d ∈ a, d < B32) (hb : ∀ d ∈ b, d < B32) (la : a.length < 2147483648) (lb : b.length ≤ a.length) (hle : val b ≤ val a) : ∃ r : List Nat, (∀ d ∈ r, d < B32) ∧ val r = val a - val b ∧ r.length = a.length ∧
    ∀ H, call E GP 64 [.isl (a.map limbA), .isl (b.map limbA)] H = some (.isl (r.map limbA), H, false) := by
  obtain ⟨r, w', h1, h2, h3, h4⟩ := minus_loop (E := E) a b ha hb la a.length 0 0 [] (by omega) rfl (by omega) (fun d hd => (by cases hd)) (by simp [val])
  rw [List.take_of_length_le lb] at h3
  have hr := val_lt r h2
  rw [h4] at hr
  have hw : w' = 0 := by
    rcases Nat.eq_zero_or_pos w' with h | h
    · exact h
    · have : B32 ^ a.length * 1 ≤ B32 ^ a.length * w' := Nat.mul_le_mul_left _ h
      omega
  subst hw
  refine ⟨r, h2, by omega, h4, fun H => ?_⟩
  rw [call_fun (hE _ _ _ (by decide)) (f := a64) rfl rfl]
  simp only [mst, List.map_nil, Int.ofNat_zero] at h1
  simp (config := {maxSteps := 1000000}) only [sim, sik, sil, reduceIte, reduceCtorEq, Nat.reduceAdd, Nat.reduceSub, Nat.reduceMul, Nat.reduceLT, Nat.reduceLeDiff, Int.reduceLT, Int.reduceLE, Int.reduceGT, Int.reduceGE, Int.reduceEq, Int.reduceNe, Int.reduceAdd, Int.reduceSub, Int.reduceNeg, Int.cast_ofNat_Int, Int.natCast_nonneg, Int.toNat_natCast, Int.reduceToNat, Int.toNat_zero, Nat.le_refl, Int.le_refl, List.take_length, Z_size, Z_known, Z_isA, Z_ref, Z_under, Z_solid, fz_Z, headSize_limbs, fz_limbs, refs_limbs, solids_limbs, List.length_map, List.contains_cons, List.contains_nil, Nat.reduceBEq, Bool.true_beq, Bool.false_beq, a64, a64r0_ev, a64r1_ev, a64r2_ev, a64r13_ev, h1, ← List.map_take]

omit hE in
theorem limbs_len_le {m n : Nat} (h : m ≤ n) : (limbs m).length ≤ (limbs n).length := by
  rcases Nat.lt_or_ge (limbs n).length (limbs m).length with h' | h'
  · have := limbs_length_lt h'; omega
  · exact h'

theorem r1_add (m n : Int) (H : Heap) (hm : (limbs m.natAbs).length < 2147483647) (hn : (limbs n.natAbs).length < 2147483647) : call E GP 49 [Z m, Z n] H = some (Z (m + n), H, false) := by
  rw [call_fun (hE _ _ _ (by decide)) (f := a49) rfl rfl]
  have Lm := limbs_lt m.natAbs
  have Ln := limbs_lt n.natAbs
  have Vm := val_limbs m.natAbs
  have Vn := val_limbs n.natAbs
  have hl := fun H => r1_less hE m.natAbs n.natAbs H (by omega) (by omega)
  by_cases hs : decide (m < 0) = decide (n < 0)
  · obtain ⟨r, r1, r2, r3, r4⟩ := r1_plus hE _ _ Lm Ln (by omega) (by omega)
    have hmade := fun H => r1_made hE r (decide (n < 0)) H r1 (by omega)
    have he : ofL (decide (n < 0)) r = m + n := by
      unfold ofL; rw [r2, Vm, Vn]
      simp only [decide_eq_decide] at hs
      by_cases hn0 : n < 0
      · rw [if_pos (by simpa using hn0)]; have := hs.2 hn0; omega
      · rw [if_neg (by simpa using hn0)]; have : ¬ m < 0 := fun h => hn0 (hs.1 h); omega
    rw [he] at hmade
    rw [show Z m = .agg [.bool (decide (m < 0)), .isl ((limbs m.natAbs).map limbA)] from rfl, show Z n = .agg [.bool (decide (n < 0)), .isl ((limbs n.natAbs).map limbA)] from rfl]
    simp (config := {maxSteps := 1000000}) only [sim, sik, sil, reduceIte, reduceCtorEq, Nat.reduceAdd, Nat.reduceSub, Nat.reduceMul, Nat.reduceLT, Nat.reduceLeDiff, Int.reduceLT, Int.reduceLE, Int.reduceGT, Int.reduceGE, Int.reduceEq, Int.reduceNe, Int.reduceAdd, Int.reduceSub, Int.reduceNeg, Int.cast_ofNat_Int, Int.natCast_nonneg, Int.toNat_natCast, Int.reduceToNat, Int.toNat_zero, Nat.le_refl, Int.le_refl, List.take_length, Z_size, Z_known, Z_isA, Z_ref, Z_under, Z_solid, fz_Z, headSize_limbs, fz_limbs, refs_limbs, solids_limbs, List.length_map, List.contains_cons, List.contains_nil, Nat.reduceBEq, Bool.true_beq, Bool.false_beq, a49, a49r0_ev, a49r1_ev, a49r2_ev, a49r3_ev, a49r4_ev, a49r5_ev, hs, r4, hmade]
  · have hs2 : (decide (m < 0) == decide (n < 0)) = false := by simpa using hs
    by_cases hlt : m.natAbs < n.natAbs
    · obtain ⟨r, r1, r2, r3, r4⟩ := r1_minus hE _ _ Ln Lm (by omega) (limbs_len_le (by omega)) (by omega)
      have hmade := fun H => r1_made hE r (decide (n < 0)) H r1 (by omega)
      have he : ofL (decide (n < 0)) r = m + n := by
        unfold ofL; rw [r2, Vm, Vn]
        simp only [decide_eq_decide] at hs
        by_cases hn0 : n < 0
        · rw [if_pos (by simpa using hn0)]; have : ¬ m < 0 := fun h => hs ⟨fun _ => hn0, fun _ => h⟩; omega
        · rw [if_neg (by simpa using hn0)]; have : m < 0 := by
            by_cases hm0 : m < 0
            · exact hm0
            · exact absurd ⟨fun h => absurd h hm0, fun h => absurd h hn0⟩ hs
          omega
      rw [he] at hmade
      rw [show Z m = .agg [.bool (decide (m < 0)), .isl ((limbs m.natAbs).map limbA)] from rfl, show Z n = .agg [.bool (decide (n < 0)), .isl ((limbs n.natAbs).map limbA)] from rfl]
      simp (config := {maxSteps := 1000000}) only [sim, sik, sil, reduceIte, reduceCtorEq, Nat.reduceAdd, Nat.reduceSub, Nat.reduceMul, Nat.reduceLT, Nat.reduceLeDiff, Int.reduceLT, Int.reduceLE, Int.reduceGT, Int.reduceGE, Int.reduceEq, Int.reduceNe, Int.reduceAdd, Int.reduceSub, Int.reduceNeg, Int.cast_ofNat_Int, Int.natCast_nonneg, Int.toNat_natCast, Int.reduceToNat, Int.toNat_zero, Nat.le_refl, Int.le_refl, List.take_length, Z_size, Z_known, Z_isA, Z_ref, Z_under, Z_solid, fz_Z, headSize_limbs, fz_limbs, refs_limbs, solids_limbs, List.length_map, List.contains_cons, List.contains_nil, Nat.reduceBEq, Bool.true_beq, Bool.false_beq, a49, a49r0_ev, a49r1_ev, a49r2_ev, a49r3_ev, a49r4_ev, a49r5_ev, hs2, hl, hlt, r4, hmade]
    · obtain ⟨r, r1, r2, r3, r4⟩ := r1_minus hE _ _ Lm Ln (by omega) (limbs_len_le (by omega)) (by omega)
      have hmade := fun H => r1_made hE r (decide (m < 0)) H r1 (by omega)
      have he : ofL (decide (m < 0)) r = m + n := by
        unfold ofL; rw [r2, Vm, Vn]
        simp only [decide_eq_decide] at hs
        by_cases hm0 : m < 0
        · rw [if_pos (by simpa using hm0)]; have : ¬ n < 0 := fun h => hs ⟨fun _ => h, fun _ => hm0⟩; omega
        · rw [if_neg (by simpa using hm0)]; have : n < 0 := by
            by_cases hn0 : n < 0
            · exact hn0
            · exact absurd ⟨fun h => absurd h hm0, fun h => absurd h hn0⟩ hs
          omega
      rw [he] at hmade
      rw [show Z m = .agg [.bool (decide (m < 0)), .isl ((limbs m.natAbs).map limbA)] from rfl, show Z n = .agg [.bool (decide (n < 0)), .isl ((limbs n.natAbs).map limbA)] from rfl]
      simp (config := {maxSteps := 1000000}) only [sim, sik, sil, reduceIte, reduceCtorEq, Nat.reduceAdd, Nat.reduceSub, Nat.reduceMul, Nat.reduceLT, Nat.reduceLeDiff, Int.reduceLT, Int.reduceLE, Int.reduceGT, Int.reduceGE, Int.reduceEq, Int.reduceNe, Int.reduceAdd, Int.reduceSub, Int.reduceNeg, Int.cast_ofNat_Int, Int.natCast_nonneg, Int.toNat_natCast, Int.reduceToNat, Int.toNat_zero, Nat.le_refl, Int.le_refl, List.take_length, Z_size, Z_known, Z_isA, Z_ref, Z_under, Z_solid, fz_Z, headSize_limbs, fz_limbs, refs_limbs, solids_limbs, List.length_map, List.contains_cons, List.contains_nil, Nat.reduceBEq, Bool.true_beq, Bool.false_beq, a49, a49r0_ev, a49r1_ev, a49r2_ev, a49r3_ev, a49r4_ev, a49r5_ev, hs2, hl, hlt, r4, hmade]

/-- An integer of 64 bits. -/
theorem r1_of (n : Int) (H : Heap) (h1 : -9223372036854775808 ≤ n) (h2 : n ≤ 9223372036854775807) : call E GP 14 [.int .i64 n] H = some (Z n, H, false) := by
  rw [call_fun (hE _ _ _ (by decide)) (f := a14) rfl rfl]
  have key : ∀ m : Nat, m < 18446744073709551616 → ∀ H, call E GP 38 [.isl [.int .u32 ((m % B32 : Nat) : Int), .int .u32 ((m / B32 : Nat) : Int)], .bool (decide (n < 0))] H = some (Z (if n < 0 then -(m : Int) else m), H, false) := by
    intro m hm H
    have := r1_made hE [m % B32, m / B32] (decide (n < 0)) H (fun d hd => by
      simp only [B32] at hd ⊢
      simp only [List.mem_cons, List.not_mem_nil, or_false] at hd
      rcases hd with rfl | rfl <;> omega) (by simp)
    have hv : val [m % B32, m / B32] = m := by simp only [val, B32]; omega
    unfold ofL at this
    rw [hv] at this
    simpa [limbA] using this
  have ws : ∀ m : Nat, m < 18446744073709551616 → IntKind.u32.wrap (((m : Nat) : Int).fdiv (2 ^ (Nat.min 32 IntKind.u64.bits))) = ((m / B32 : Nat) : Int) := by
    intro m hm
    have e : (2 : Int) ^ (Nat.min 32 IntKind.u64.bits) = 4294967296 := by decide
    rw [e, Int.fdiv_eq_ediv_of_nonneg _ (by omega), IntKind.wrap_u32]
    simp only [B32]; omega
  by_cases hn : n < 0
  · have wu : IntKind.u64.wrap n = ((18446744073709551616 - n.natAbs : Nat) : Int) := by rw [IntKind.wrap_u64]; omega
    have wn : IntKind.u64.wrap (0 - ((18446744073709551616 - n.natAbs : Nat) : Int)) = ((n.natAbs : Nat) : Int) := by rw [IntKind.wrap_u64]; omega
    have hk := key n.natAbs (by omega)
    have hs := ws n.natAbs (by omega)
    have e : (if n < 0 then -(n.natAbs : Int) else (n.natAbs : Int)) = n := by rw [if_pos hn]; omega
    rw [e] at hk
    simp only [hn, decide_true, decide_false] at hk
    simp (config := {maxSteps := 1000000}) only [sim, sik, sil, reduceIte, reduceCtorEq, Nat.reduceAdd, Nat.reduceSub, Nat.reduceMul, Nat.reduceLT, Nat.reduceLeDiff, Int.reduceLT, Int.reduceLE, Int.reduceGT, Int.reduceGE, Int.reduceEq, Int.reduceNe, Int.reduceAdd, Int.reduceSub, Int.reduceNeg, Int.cast_ofNat_Int, Int.natCast_nonneg, Int.toNat_natCast, Int.reduceToNat, Int.toNat_zero, Nat.le_refl, Int.le_refl, List.take_length, Z_size, Z_known, Z_isA, Z_ref, Z_under, Z_solid, fz_Z, headSize_limbs, fz_limbs, refs_limbs, solids_limbs, List.length_map, List.contains_cons, List.contains_nil, Nat.reduceBEq, Bool.true_beq, Bool.false_beq, a14, a14r0_ev, a14r1_ev, a14r2_ev, a14r3_ev, a14r4_ev, hn, wu, wn, u32n, hs, hk]
  · have wu : IntKind.u64.wrap n = ((n.natAbs : Nat) : Int) := by rw [IntKind.wrap_u64]; omega
    have hk := key n.natAbs (by omega)
    have hs := ws n.natAbs (by omega)
    have e : (if n < 0 then -(n.natAbs : Int) else (n.natAbs : Int)) = n := by rw [if_neg hn]; omega
    rw [e] at hk
    simp only [hn, decide_true, decide_false] at hk
    simp (config := {maxSteps := 1000000}) only [sim, sik, sil, reduceIte, reduceCtorEq, Nat.reduceAdd, Nat.reduceSub, Nat.reduceMul, Nat.reduceLT, Nat.reduceLeDiff, Int.reduceLT, Int.reduceLE, Int.reduceGT, Int.reduceGE, Int.reduceEq, Int.reduceNe, Int.reduceAdd, Int.reduceSub, Int.reduceNeg, Int.cast_ofNat_Int, Int.natCast_nonneg, Int.toNat_natCast, Int.reduceToNat, Int.toNat_zero, Nat.le_refl, Int.le_refl, List.take_length, Z_size, Z_known, Z_isA, Z_ref, Z_under, Z_solid, fz_Z, headSize_limbs, fz_limbs, refs_limbs, solids_limbs, List.length_map, List.contains_cons, List.contains_nil, Nat.reduceBEq, Bool.true_beq, Bool.false_beq, a14, a14r0_ev, a14r1_ev, a14r2_ev, a14r3_ev, a14r4_ev, hn, wu, u32n, hs, hk]
end Tor
/-
  The reference implementation of integers, fifth part: products.
-/
namespace Tor
open Go
set_option linter.unusedSimpArgs false
set_option linter.unusedVariables false

/-- The state in a row: out has its limbs, place i of a, place k of b, the carry. -/
def xst (za zb : AV) (out : List Nat) (i k c : Nat) : St :=
  { vars := [za, zb, .sl 0 0 1 0 out.length, .int .i64 i, .int .u64 c, .int .i64 k, .bool true, .u, .u, za, zb, .agg [.bool false, .isl []]], heap := [.arr 0 1 (out.map limbA)], rs := false }

variable {E : CallF}

theorem set_limb (out : List Nat) (j d : Nat) : (out.map limbA).set j (limbA d) = (out.set j d).map limbA := by rw [List.map_set]

theorem mul_round (sa sb : Bool) (a b : List Nat) (ha : ∀ d ∈ a, d < B32) (hb : ∀ d ∈ b, d < B32) (out : List Nat) (ho : ∀ d ∈ out, d < B32) (la : a.length < 1073741824) (lb : b.length < 1073741824) (i k c : Nat) (hi : i < a.length) (hik : i + k < out.length) (hol : out.length < 2147483648)
    (hc : c < B32) (h : k < b.length ∨ 0 < c) :
    run E GP a41l1 (xst (.agg [.bool sa, .isl (a.map limbA)]) (.agg [.bool sb, .isl (b.map limbA)]) out i k c) =
      run E GP a41l1 (xst (.agg [.bool sa, .isl (a.map limbA)]) (.agg [.bool sb, .isl (b.map limbA)]) (out.set (i + k) ((c + out.getD (i + k) 0 + dig a i * dig b k) % B32)) i (k + 1) ((c + out.getD (i + k) 0 + dig a i * dig b k) / B32)) := by
  have da := dig_lt ha i
  have db := dig_lt hb k
  have dd := dig_lt ho (i + k)
  have ed : dig out (i + k) = out.getD (i + k) 0 := by unfold dig; rw [if_pos hik]
  rw [ed] at dd
  have hmul : dig a i * dig b k ≤ 4294967295 * 4294967295 := Nat.mul_le_mul (by simp only [B32] at da; omega) (by simp only [B32] at db; omega)
  simp only [B32] at da db dd hc
  have wk : IntKind.i64.wrap ((k : Int) + 1) = ((k + 1 : Nat) : Int) := i64a (by omega)
  have wik : IntKind.i64.wrap ((i : Int) + (k : Int)) = ((i + k : Nat) : Int) := by rw [i64w (by omega)]; omega
  have g1 := limb_get hi
  have e1 : dig a i = a.getD i 0 := by unfold dig; rw [if_pos hi]
  rw [← e1] at g1
  have g3 := limb_get hik
  have wo := u64n (n := out.getD (i + k) 0) (by omega)
  have w1 := u64a (x := c) (y := out.getD (i + k) 0) (by omega)
  have hlen : ((i + k : Nat) : Int) < ((out.length : Nat) : Int) := by omega
  have wq := u64q (n := c + out.getD (i + k) 0 + dig a i * dig b k) (by omega)
  have wr := u32n (c + out.getD (i + k) 0 + dig a i * dig b k)
  conv => lhs; rw [a41l1_run]
  by_cases h2 : k < b.length
  · have g2 := limb_get h2
    have e2 : dig b k = b.getD k 0 := by unfold dig; rw [if_pos h2]
    rw [← e2] at g2
    have k2 : (k : Int) < (b.length : Int) := by omega
    have wa := u64n (n := dig a i) (by omega)
    have wb := u64n (n := dig b k) (by omega)
    have wm : IntKind.u64.wrap ((dig a i : Int) * (dig b k : Int)) = ((dig a i * dig b k : Nat) : Int) := by
      rw [← Int.natCast_mul]; exact u64n (by omega)
    have ws := u64a (x := c + out.getD (i + k) 0) (y := dig a i * dig b k) (by omega)
    simp (config := {maxSteps := 1000000}) only [sim, sik, sil, reduceIte, reduceCtorEq, Nat.reduceAdd, Nat.reduceSub, Nat.reduceMul, Nat.reduceLT, Nat.reduceLeDiff, Int.reduceLT, Int.reduceLE, Int.reduceGT, Int.reduceGE, Int.reduceEq, Int.reduceNe, Int.reduceAdd, Int.reduceSub, Int.reduceNeg, Int.cast_ofNat_Int, Int.natCast_nonneg, Int.toNat_natCast, Int.reduceToNat, Int.toNat_zero, Nat.le_refl, Int.le_refl, List.take_length, Z_size, Z_known, Z_isA, Z_ref, Z_under, Z_solid, fz_Z, headSize_limbs, fz_limbs, refs_limbs, solids_limbs, List.length_map, List.contains_cons, List.contains_nil, Nat.reduceBEq, Bool.true_beq, Bool.false_beq, xst, a41b1, a41r7_ev, a41r9_ev, a41r10_ev, a41r11_ev, a41r12_ev, a41r13_ev, a41r8_ev, k2, wk, wik, g1, g2, g3, limbA, wo, w1, hlen, wa, wb, wm, ws, wq, wr, List.map_set, List.length_set]
  · have e2 : dig b k = 0 := by unfold dig; rw [if_neg h2]
    have k2 : ¬ (k : Int) < (b.length : Int) := by omega
    have k3 : (c : Int) > 0 := by omega
    rw [e2, Nat.mul_zero, Nat.add_zero] at wq wr
    rw [e2, Nat.mul_zero, Nat.add_zero]
    simp (config := {maxSteps := 1000000}) only [sim, sik, sil, reduceIte, reduceCtorEq, Nat.reduceAdd, Nat.reduceSub, Nat.reduceMul, Nat.reduceLT, Nat.reduceLeDiff, Int.reduceLT, Int.reduceLE, Int.reduceGT, Int.reduceGE, Int.reduceEq, Int.reduceNe, Int.reduceAdd, Int.reduceSub, Int.reduceNeg, Int.cast_ofNat_Int, Int.natCast_nonneg, Int.toNat_natCast, Int.reduceToNat, Int.toNat_zero, Nat.le_refl, Int.le_refl, List.take_length, Z_size, Z_known, Z_isA, Z_ref, Z_under, Z_solid, fz_Z, headSize_limbs, fz_limbs, refs_limbs, solids_limbs, List.length_map, List.contains_cons, List.contains_nil, Nat.reduceBEq, Bool.true_beq, Bool.false_beq, xst, a41b1, a41r7_ev, a41r9_ev, a41r10_ev, a41r11_ev, a41r12_ev, a41r13_ev, a41r8_ev, k2, k3, wk, wik, g3, limbA, wo, w1, hlen, wq, wr, List.map_set, List.length_set]

def xend (za zb : AV) (out : List Nat) (i k : Nat) : St :=
  { vars := [za, zb, .sl 0 0 1 0 out.length, .int .i64 i, .int .u64 0, .int .i64 k, .bool true, .bool false, .u, za, zb, .agg [.bool false, .isl []]], heap := [.arr 0 1 (out.map limbA)], rs := false }

theorem mul_exit (sa sb : Bool) (a b out : List Nat) (i k : Nat) (h : ¬ k < b.length) :
    run E GP a41l1 (xst (.agg [.bool sa, .isl (a.map limbA)]) (.agg [.bool sb, .isl (b.map limbA)]) out i k 0) = some (.exit 2, xend (.agg [.bool sa, .isl (a.map limbA)]) (.agg [.bool sb, .isl (b.map limbA)]) out i k) := by
  have k2 : ¬ (k : Int) < (b.length : Int) := by omega
  rw [a41l1_run]
  simp (config := {maxSteps := 1000000}) only [sim, sik, sil, reduceIte, reduceCtorEq, Nat.reduceAdd, Nat.reduceSub, Nat.reduceMul, Nat.reduceLT, Nat.reduceLeDiff, Int.reduceLT, Int.reduceLE, Int.reduceGT, Int.reduceGE, Int.reduceEq, Int.reduceNe, Int.reduceAdd, Int.reduceSub, Int.reduceNeg, Int.cast_ofNat_Int, Int.natCast_nonneg, Int.toNat_natCast, Int.reduceToNat, Int.toNat_zero, Nat.le_refl, Int.le_refl, List.take_length, Z_size, Z_known, Z_isA, Z_ref, Z_under, Z_solid, fz_Z, headSize_limbs, fz_limbs, refs_limbs, solids_limbs, List.length_map, List.contains_cons, List.contains_nil, Nat.reduceBEq, Bool.true_beq, Bool.false_beq, xst, xend, a41b1, a41r7_ev, k2, Int.ofNat_zero]

theorem val_set : ∀ (l : List Nat) (j x : Nat), j < l.length → val (l.set j x) + B32 ^ j * l.getD j 0 = val l + B32 ^ j * x
  | [], j, x, h => by simp at h
  | d :: r, 0, x, h => by simp only [List.set_cons_zero, val, Nat.pow_zero, Nat.one_mul, List.getD_cons_zero]; omega
  | d :: r, j + 1, x, h => by
    have ih := val_set r j x (by simpa using h)
    simp only [List.set_cons_succ, val, List.getD_cons_succ, Nat.pow_succ]
    have e1 : B32 ^ j * B32 * r.getD j 0 = B32 * (B32 ^ j * r.getD j 0) := by rw [Nat.mul_comm (B32 ^ j), Nat.mul_assoc]
    have e2 : B32 ^ j * B32 * x = B32 * (B32 ^ j * x) := by rw [Nat.mul_comm (B32 ^ j), Nat.mul_assoc]
    rw [e1, e2]
    have : B32 * (val (r.set j x) + B32 ^ j * r.getD j 0) = B32 * (val r + B32 ^ j * x) := by rw [ih]
    rw [Nat.mul_add, Nat.mul_add] at this
    omega

theorem mul_row (sa sb : Bool) (a b : List Nat) (ha : ∀ d ∈ a, d < B32) (hb : ∀ d ∈ b, d < B32) (la : a.length < 1073741824) (lb : b.length < 1073741824) (i : Nat) (hi : i < a.length) (out0 : List Nat)
    (h0 : val out0 = val (a.take i) * val b) : ∀ (n k c : Nat) (out : List Nat), b.length + 1 ≤ k + n → k ≤ b.length + 1 → out.length = a.length + b.length + 1 → (∀ d ∈ out, d < B32) → c < B32 → (k = b.length + 1 → c = 0) →
    val out + B32 ^ (i + k) * c = val out0 + B32 ^ i * (dig a i * val (b.take k)) →
    ∃ out' k', run E GP a41l1 (xst (.agg [.bool sa, .isl (a.map limbA)]) (.agg [.bool sb, .isl (b.map limbA)]) out i k c) = some (.exit 2, xend (.agg [.bool sa, .isl (a.map limbA)]) (.agg [.bool sb, .isl (b.map limbA)]) out' i k') ∧
      out'.length = a.length + b.length + 1 ∧ (∀ d ∈ out', d < B32) ∧ val out' = val (a.take (i + 1)) * val b := by
  have hfin : val out0 + B32 ^ i * (dig a i * val b) = val (a.take (i + 1)) * val b := by
    rw [take_dig, h0, Nat.add_mul, Nat.mul_assoc]
  intro n
  induction n with
  | zero =>
    intro k c out h1 h2 h3 h4 h5 h6 h7
    have hk : k = b.length + 1 := by omega
    have hc := h6 hk
    subst hc
    rw [List.take_of_length_le (by omega), Nat.mul_zero, Nat.add_zero] at h7
    exact ⟨out, k, mul_exit sa sb a b out i k (by omega), h3, h4, h7.trans hfin⟩
  | succ n ih =>
    intro k c out h1 h2 h3 h4 h5 h6 h7
    by_cases hgo : k < b.length ∨ 0 < c
    · have hk : k ≤ b.length := by
        by_cases hk : k = b.length + 1
        · have := h6 hk; omega
        · omega
      have hik : i + k < out.length := by omega
      have da := dig_lt ha i
      have db := dig_lt hb k
      have dd := dig_lt h4 (i + k)
      have ed : dig out (i + k) = out.getD (i + k) 0 := by unfold dig; rw [if_pos hik]
      rw [ed] at dd
      have hmul : dig a i * dig b k ≤ 4294967295 * 4294967295 := Nat.mul_le_mul (by simp only [B32] at da; omega) (by simp only [B32] at db; omega)
      rw [mul_round sa sb a b ha hb out h4 la lb i k c hi hik (by omega) h5 hgo]
      have hs := val_set out (i + k) ((c + out.getD (i + k) 0 + dig a i * dig b k) % B32) hik
      have hdm := Nat.div_add_mod (c + out.getD (i + k) 0 + dig a i * dig b k) B32
      have hq : (c + out.getD (i + k) 0 + dig a i * dig b k) / B32 < B32 := by simp only [B32] at *; omega
      have hm : (c + out.getD (i + k) 0 + dig a i * dig b k) % B32 < B32 := Nat.mod_lt _ (by decide)
      generalize (c + out.getD (i + k) 0 + dig a i * dig b k) / B32 = q at *
      generalize (c + out.getD (i + k) 0 + dig a i * dig b k) % B32 = m at *
      have hnew : val (out.set (i + k) m) + B32 ^ (i + (k + 1)) * q = val out0 + B32 ^ i * (dig a i * val (b.take (k + 1))) := by
        rw [take_dig, Nat.mul_add, Nat.mul_add, ← Nat.add_assoc (val out0), ← h7]
        have e1 : B32 ^ i * (dig a i * (B32 ^ k * dig b k)) = B32 ^ (i + k) * (dig a i * dig b k) := by
          rw [Nat.pow_add, Nat.mul_left_comm (dig a i), Nat.mul_assoc]
        have e2 : B32 ^ (i + (k + 1)) * q + B32 ^ (i + k) * m = B32 ^ (i + k) * c + B32 ^ (i + k) * out.getD (i + k) 0 + B32 ^ (i + k) * (dig a i * dig b k) := by
          rw [← Nat.add_assoc, Nat.pow_succ, Nat.mul_assoc, ← Nat.mul_add, hdm, Nat.mul_add, Nat.mul_add]
        rw [e1]
        omega
      refine ih (k + 1) q (out.set (i + k) m) (by omega) (by omega) (by simp [h3]) (fun d hd => ?_) hq (fun e => ?_) hnew
      · rcases List.mem_or_eq_of_mem_set hd with hd | rfl
        · exact h4 d hd
        · exact hm
      · have hkb : k = b.length := by omega
        subst hkb
        rw [List.take_of_length_le (by omega)] at hnew
        have hb1 := take_val_lt a ha (i + 1)
        have hb2 := take_val_lt b hb b.length
        rw [List.take_length] at hb2
        have hlt : val (a.take (i + 1)) * val b < B32 ^ (i + 1) * B32 ^ b.length := by
          rcases Nat.eq_zero_or_pos (val b) with h0 | h0
          · rw [h0, Nat.mul_zero]; exact Nat.mul_pos (Nat.pow_pos (by decide)) (Nat.pow_pos (by decide))
          · calc val (a.take (i + 1)) * val b < B32 ^ (i + 1) * val b := Nat.mul_lt_mul_of_pos_right hb1 h0
              _ ≤ B32 ^ (i + 1) * B32 ^ b.length := Nat.mul_le_mul_left _ (by omega)
        rw [hfin] at hnew
        rw [← Nat.pow_add, show i + 1 + b.length = i + (b.length + 1) by omega] at hlt
        rcases Nat.eq_zero_or_pos q with h | h
        · exact h
        · have : B32 ^ (i + (b.length + 1)) * 1 ≤ B32 ^ (i + (b.length + 1)) * q := Nat.mul_le_mul_left _ h
          omega
    · have hc : c = 0 := by omega
      subst hc
      rw [List.take_of_length_le (by omega), Nat.mul_zero, Nat.add_zero] at h7
      exact ⟨out, k, mul_exit sa sb a b out i k (by omega), h3, h4, h7.trans hfin⟩

def yst (za zb : AV) (out : List Nat) (i : Nat) : St :=
  { vars := [za, zb, .sl 0 0 1 0 out.length, .int .i64 i, .u, .u, .u, .u, .u, za, zb, .agg [.bool false, .isl []]], heap := [.arr 0 1 (out.map limbA)], rs := false }

theorem mul_rows (sa sb : Bool) (a b : List Nat) (ha : ∀ d ∈ a, d < B32) (hb : ∀ d ∈ b, d < B32) (la : a.length < 1073741824) (lb : b.length < 1073741824) : ∀ (n i : Nat) (out : List Nat), a.length = i + n → out.length = a.length + b.length + 1 → (∀ d ∈ out, d < B32) →
    val out = val (a.take i) * val b →
    ∃ out', run E GP a41l0 (yst (.agg [.bool sa, .isl (a.map limbA)]) (.agg [.bool sb, .isl (b.map limbA)]) out i) = some (.exit 0, { vars := [.agg [.bool sa, .isl (a.map limbA)], .agg [.bool sb, .isl (b.map limbA)], .sl 0 0 1 0 out'.length, .int .i64 a.length, .u, .u, .bool false, .u, .u, .agg [.bool sa, .isl (a.map limbA)], .agg [.bool sb, .isl (b.map limbA)], .agg [.bool false, .isl []]], heap := [.arr 0 1 (out'.map limbA)], rs := false }) ∧
      out'.length = a.length + b.length + 1 ∧ (∀ d ∈ out', d < B32) ∧ val out' = val a * val b := by
  intro n
  induction n with
  | zero =>
    intro i out h1 h2 h3 h4
    have hi : i = a.length := by omega
    subst hi
    rw [List.take_length] at h4
    refine ⟨out, ?_, h2, h3, h4⟩
    have k1 : ¬ (a.length : Int) < (a.length : Int) := by omega
    rw [a41l0_run]
    simp (config := {maxSteps := 1000000}) only [sim, sik, sil, reduceIte, reduceCtorEq, Nat.reduceAdd, Nat.reduceSub, Nat.reduceMul, Nat.reduceLT, Nat.reduceLeDiff, Int.reduceLT, Int.reduceLE, Int.reduceGT, Int.reduceGE, Int.reduceEq, Int.reduceNe, Int.reduceAdd, Int.reduceSub, Int.reduceNeg, Int.cast_ofNat_Int, Int.natCast_nonneg, Int.toNat_natCast, Int.reduceToNat, Int.toNat_zero, Nat.le_refl, Int.le_refl, List.take_length, Z_size, Z_known, Z_isA, Z_ref, Z_under, Z_solid, fz_Z, headSize_limbs, fz_limbs, refs_limbs, solids_limbs, List.length_map, List.contains_cons, List.contains_nil, Nat.reduceBEq, Bool.true_beq, Bool.false_beq, yst, a41b0, a41r3_ev, k1]
  | succ n ih =>
    intro i out h1 h2 h3 h4
    obtain ⟨out1, k1, e1, e2, e3, e4⟩ := mul_row (E := E) sa sb a b ha hb la lb i (by omega) out h4 (b.length + 1) 0 0 out (by omega) (by omega) h2 h3 (by decide) (by omega) (by simp [val])
    obtain ⟨out', f1, f2, f3, f4⟩ := ih (i + 1) out1 (by omega) e2 e3 e4
    refine ⟨out', ?_, f2, f3, f4⟩
    rw [← f1]
    have hlt : (i : Int) < (a.length : Int) := by omega
    have wi : IntKind.i64.wrap ((i : Int) + 1) = ((i + 1 : Nat) : Int) := i64a (by omega)
    conv => lhs; rw [a41l0_run]
    simp only [xst, xend, Int.ofNat_zero] at e1
    simp (config := {maxSteps := 1000000}) only [sim, sik, sil, reduceIte, reduceCtorEq, Nat.reduceAdd, Nat.reduceSub, Nat.reduceMul, Nat.reduceLT, Nat.reduceLeDiff, Int.reduceLT, Int.reduceLE, Int.reduceGT, Int.reduceGE, Int.reduceEq, Int.reduceNe, Int.reduceAdd, Int.reduceSub, Int.reduceNeg, Int.cast_ofNat_Int, Int.natCast_nonneg, Int.toNat_natCast, Int.reduceToNat, Int.toNat_zero, Nat.le_refl, Int.le_refl, List.take_length, Z_size, Z_known, Z_isA, Z_ref, Z_under, Z_solid, fz_Z, headSize_limbs, fz_limbs, refs_limbs, solids_limbs, List.length_map, List.contains_cons, List.contains_nil, Nat.reduceBEq, Bool.true_beq, Bool.false_beq, yst, a41b0, a41r3_ev, a41r5_ev, a41r6_ev, a41r4_ev, hlt, e1, wi]

end Tor
/-
  The reference implementation of integers, sixth part: products, joined.
-/
namespace Tor
open Go
set_option linter.unusedSimpArgs false
set_option linter.unusedVariables false
variable {E : CallF} (hE : Free E)
include hE

theorem r1_made_sl (l : List Nat) (neg : Bool) (H : Heap) (o g sz st n : Nat) (he : elems H (.sl o g sz st n) = some (l.map limbA)) (hl : ∀ d ∈ l, d < B32) (hlen : l.length < 2147483648) : call E GP 38 [.sl o g sz st n, .bool neg] H = some (Z (ofL neg l), H.set o .dead, false) := by
  rw [call_fun (hE _ _ _ (by decide)) (f := a38) rfl rfl]
  have hloop := made_loop (E := E) l (.bool neg) (.agg [.bool false, .isl []]) (by simp [AV.under, AV.unders]) (by simp [AV.under]) l.length (Nat.le_refl _) hlen
  have hs := stripN_le l l.length
  rw [Z_ofL neg l hl]
  have hs2 : ((stripN l l.length : Nat) : Int) ≤ (l.length : Int) := by omega
  have hs3 : decide (((stripN l l.length : Nat) : Int) > 0) = decide (0 < stripN l l.length) := by simp
  have hm : (l.take (stripN l l.length)).length ≤ 4294967296 := by simp; omega
  have hmode : a38.mode = .con := rfl
  cases neg <;>
  simp (config := {maxSteps := 1000000}) only [he, hmode, sim, sik, sil, reduceIte, reduceCtorEq, Nat.reduceAdd, Nat.reduceSub, Nat.reduceMul, Nat.reduceLT, Nat.reduceLeDiff, Int.reduceLT, Int.reduceLE, Int.reduceGT, Int.reduceGE, Int.reduceEq, Int.reduceNe, Int.reduceAdd, Int.reduceSub, Int.reduceNeg, Int.cast_ofNat_Int, Int.natCast_nonneg, Int.toNat_natCast, Int.reduceToNat, Int.toNat_zero, Nat.le_refl, Int.le_refl, List.take_length, Z_size, Z_known, Z_isA, Z_ref, Z_under, Z_solid, fz_Z, headSize_limbs, fz_limbs, refs_limbs, solids_limbs, List.length_map, List.contains_cons, List.contains_nil, Nat.reduceBEq, Bool.true_beq, Bool.false_beq, a38, a38r0_ev, a38r1_ev, a38r4_ev, hloop, hs2, hs3, maxLenA, List.drop_zero, ← List.map_take, hm]

omit hE in
theorem val_zeros : ∀ k, val (List.replicate k 0) = 0
  | 0 => rfl
  | k + 1 => by rw [List.replicate_succ, val, val_zeros k]; rfl

omit hE in
theorem ofL_mul (m n : Int) (out : List Nat) (h : val out = m.natAbs * n.natAbs) : ofL (decide (m < 0) != decide (n < 0)) out = m * n := by
  unfold ofL; rw [h]
  have hm : (m.natAbs : Int) = if m < 0 then -m else m := by split <;> omega
  have hn : (n.natAbs : Int) = if n < 0 then -n else n := by split <;> omega
  rw [Int.natCast_mul, hm, hn]
  by_cases hm0 : m < 0 <;> by_cases hn0 : n < 0 <;> simp only [hm0, hn0, if_true, if_false, decide_true, decide_false] <;> simp [Int.neg_mul, Int.mul_neg]

theorem r1_mul (m n : Int) (H : Heap) (hm : (limbs m.natAbs).length < 1073741824) (hn : (limbs n.natAbs).length < 1073741824) (hsum : (limbs m.natAbs).length + (limbs n.natAbs).length < 2147483646) : call E GP 41 [Z m, Z n] H = some (Z (m * n), H, false) := by
  rw [call_fun (hE _ _ _ (by decide)) (f := a41) rfl rfl]
  have Lm := limbs_lt m.natAbs
  have Ln := limbs_lt n.natAbs
  have Vm := val_limbs m.natAbs
  have Vn := val_limbs n.natAbs
  obtain ⟨out, f1, f2, f3, f4⟩ := mul_rows (E := E) (decide (m < 0)) (decide (n < 0)) _ _ Lm Ln hm hn (limbs m.natAbs).length 0 (List.replicate ((limbs m.natAbs).length + (limbs n.natAbs).length + 1) 0) (by omega) (by simp) (fun d hd => by rw [List.eq_of_mem_replicate hd]; decide) (by rw [val_zeros]; simp [val])
  have hmade := r1_made_sl hE out (decide (m < 0) != decide (n < 0)) [.arr 0 1 (out.map limbA)] 0 0 1 0 out.length (by simp [sil, sim, List.take_of_length_le]) f3 (by omega)
  rw [ofL_mul m n out (by rw [f4, Vm, Vn])] at hmade
  have w1 : IntKind.i64.wrap (((limbs m.natAbs).length : Int) + ((limbs n.natAbs).length : Int)) = (((limbs m.natAbs).length + (limbs n.natAbs).length : Nat) : Int) := by rw [i64w (by omega)]; omega
  have w2 : IntKind.i64.wrap ((((limbs m.natAbs).length + (limbs n.natAbs).length : Nat) : Int) + 1) = (((limbs m.natAbs).length + (limbs n.natAbs).length + 1 : Nat) : Int) := i64a (by omega)
  have w3 : (((limbs m.natAbs).length + (limbs n.natAbs).length + 1 : Nat) : Int) ≤ maxLenA := by unfold maxLenA; omega
  have w4 : ((((limbs m.natAbs).length + (limbs n.natAbs).length + 1 : Nat) : Int)).toNat = (limbs m.natAbs).length + (limbs n.natAbs).length + 1 := by omega
  have w5 : (0:Int) ≤ (((limbs m.natAbs).length + (limbs n.natAbs).length + 1 : Nat) : Int) := by omega
  rw [show Z m = .agg [.bool (decide (m < 0)), .isl ((limbs m.natAbs).map limbA)] from rfl, show Z n = .agg [.bool (decide (n < 0)), .isl ((limbs n.natAbs).map limbA)] from rfl]
  simp only [yst, List.length_replicate, Int.ofNat_zero, List.map_replicate, limbA] at f1
  generalize (limbs m.natAbs).length + (limbs n.natAbs).length + 1 = K at *
  simp (config := {maxSteps := 1000000}) only [sim, sik, sil, reduceIte, reduceCtorEq, Nat.reduceAdd, Nat.reduceSub, Nat.reduceMul, Nat.reduceLT, Nat.reduceLeDiff, Int.reduceLT, Int.reduceLE, Int.reduceGT, Int.reduceGE, Int.reduceEq, Int.reduceNe, Int.reduceAdd, Int.reduceSub, Int.reduceNeg, Int.cast_ofNat_Int, Int.natCast_nonneg, Int.toNat_natCast, Int.reduceToNat, Int.toNat_zero, Nat.le_refl, Int.le_refl, List.take_length, Z_size, Z_known, Z_isA, Z_ref, Z_under, Z_solid, fz_Z, headSize_limbs, fz_limbs, refs_limbs, solids_limbs, List.length_map, List.contains_cons, List.contains_nil, Nat.reduceBEq, Bool.true_beq, Bool.false_beq, a41, a41r0_ev, a41r1_ev, a41r2_ev, a41r14_ev, w1, w2, w3, w4, w5]
  simp (config := {maxSteps := 1000000}) only [sim, sik, sil, reduceIte, reduceCtorEq, Nat.reduceAdd, Nat.reduceSub, Nat.reduceMul, Nat.reduceLT, Nat.reduceLeDiff, Int.reduceLT, Int.reduceLE, Int.reduceGT, Int.reduceGE, Int.reduceEq, Int.reduceNe, Int.reduceAdd, Int.reduceSub, Int.reduceNeg, Int.cast_ofNat_Int, Int.natCast_nonneg, Int.toNat_natCast, Int.reduceToNat, Int.toNat_zero, Nat.le_refl, Int.le_refl, List.take_length, Z_size, Z_known, Z_isA, Z_ref, Z_under, Z_solid, fz_Z, headSize_limbs, fz_limbs, refs_limbs, solids_limbs, List.length_map, List.contains_cons, List.contains_nil, Nat.reduceBEq, Bool.true_beq, Bool.false_beq, f1, hmade, a41r14_ev]
end Tor
/-
  Integers, first part: sign, validity, normal form.
-/
namespace Tor
open Go
set_option linter.unusedSimpArgs false
set_option linter.unusedVariables false
variable {E : CallF} (hE : Free E)
include hE

theorem i_valid (n : Int) (H : Heap) (hs : (limbs n.natAbs).length < 2147483648) : call E GP 47 [Z n] H = some (.bool true, H, false) := by
  rw [call_fun (hE _ _ _ (by decide)) (f := a47) rfl rfl]
  by_cases h0 : limbs n.natAbs = []
  · have hn : n = 0 := by have := limbs_nil.1 h0; omega
    subst hn
    simp (config := {maxSteps := 1000000}) only [sim, sik, sil, reduceIte, reduceCtorEq, Nat.reduceAdd, Nat.reduceSub, Nat.reduceMul, Nat.reduceLT, Nat.reduceLeDiff, Int.reduceLT, Int.reduceLE, Int.reduceGT, Int.reduceGE, Int.reduceEq, Int.reduceNe, Int.reduceAdd, Int.reduceSub, Int.reduceNeg, Int.cast_ofNat_Int, Int.natCast_nonneg, Int.toNat_natCast, Int.reduceToNat, Int.toNat_zero, Nat.le_refl, Int.le_refl, List.take_length, Z_size, Z_known, Z_isA, Z_ref, Z_under, Z_solid, fz_Z, headSize_limbs, fz_limbs, refs_limbs, solids_limbs, List.length_map, List.contains_cons, List.contains_nil, Nat.reduceBEq, Bool.true_beq, Bool.false_beq, Z, h0, a47, a47r0_ev, a47r1_ev, a47r2_ev]
  · have hlast := limbs_last _ h0
    generalize hl : limbs n.natAbs = l at *
    obtain ⟨m, d, rfl⟩ : ∃ m d, l = m ++ [d] := ⟨l.dropLast, l.getLast h0, (List.dropLast_concat_getLast h0).symm⟩
    have hd0 : d ≠ 0 := by simpa using hlast
    have hd : (d : Int) ≠ 0 := by omega
    have hlen : ((m ++ [d]).length : Int) ≠ 0 := by
      have : (m ++ [d]).length = m.length + 1 := by simp
      omega
    have hgt : ((m ++ [d]).length : Int) > 0 := by omega
    have hget : ((m ++ [d]).map limbA)[m.length]? = some (limbA d) := by simp
    have hw : IntKind.i64.wrap ((m ++ [d]).length - 1) = (m.length : Int) := by
      simp at hs ⊢
      exact i64w (by omega)
    simp (config := {maxSteps := 1000000}) only [sim, sik, sil, reduceIte, reduceCtorEq, Nat.reduceAdd, Nat.reduceSub, Nat.reduceMul, Nat.reduceLT, Nat.reduceLeDiff, Int.reduceLT, Int.reduceLE, Int.reduceGT, Int.reduceGE, Int.reduceEq, Int.reduceNe, Int.reduceAdd, Int.reduceSub, Int.reduceNeg, Int.cast_ofNat_Int, Int.natCast_nonneg, Int.toNat_natCast, Int.reduceToNat, Int.toNat_zero, Nat.le_refl, Int.le_refl, List.take_length, Z_size, Z_known, Z_isA, Z_ref, Z_under, Z_solid, fz_Z, headSize_limbs, fz_limbs, refs_limbs, solids_limbs, List.length_map, List.contains_cons, List.contains_nil, Nat.reduceBEq, Bool.true_beq, Bool.false_beq, Z, hl, a47, a47r0_ev, a47r1_ev, a47r2_ev, hgt, decide_true, refs_limbs, hlen, hw, hget, limbA, hd]

theorem i_sign (n : Int) (H : Heap) : call E GP 48 [Z n] H = some (.int .i64 n.sign, H, false) := by
  rw [call_fun (hE _ _ _ (by decide)) (f := a48) rfl rfl]
  by_cases h0 : limbs n.natAbs = []
  · have hn : n = 0 := by have := limbs_nil.1 h0; omega
    subst hn
    simp (config := {maxSteps := 1000000}) only [sim, sik, sil, reduceIte, reduceCtorEq, Nat.reduceAdd, Nat.reduceSub, Nat.reduceMul, Nat.reduceLT, Nat.reduceLeDiff, Int.reduceLT, Int.reduceLE, Int.reduceGT, Int.reduceGE, Int.reduceEq, Int.reduceNe, Int.reduceAdd, Int.reduceSub, Int.reduceNeg, Int.cast_ofNat_Int, Int.natCast_nonneg, Int.toNat_natCast, Int.reduceToNat, Int.toNat_zero, Nat.le_refl, Int.le_refl, List.take_length, Z_size, Z_known, Z_isA, Z_ref, Z_under, Z_solid, fz_Z, headSize_limbs, fz_limbs, refs_limbs, solids_limbs, List.length_map, List.contains_cons, List.contains_nil, Nat.reduceBEq, Bool.true_beq, Bool.false_beq, Z, h0, a48, a48r0_ev, a48r1_ev, a48r2_ev, a48r3_ev, a48r4_ev, a48r5_ev, Int.sign_zero]
  · have hn : n ≠ 0 := fun e => h0 (by subst e; rfl)
    have hlen : ((limbs n.natAbs).length : Int) ≠ 0 := by simp; exact h0
    by_cases hneg : n < 0
    · simp (config := {maxSteps := 1000000}) only [sim, sik, sil, reduceIte, reduceCtorEq, Nat.reduceAdd, Nat.reduceSub, Nat.reduceMul, Nat.reduceLT, Nat.reduceLeDiff, Int.reduceLT, Int.reduceLE, Int.reduceGT, Int.reduceGE, Int.reduceEq, Int.reduceNe, Int.reduceAdd, Int.reduceSub, Int.reduceNeg, Int.cast_ofNat_Int, Int.natCast_nonneg, Int.toNat_natCast, Int.reduceToNat, Int.toNat_zero, Nat.le_refl, Int.le_refl, List.take_length, Z_size, Z_known, Z_isA, Z_ref, Z_under, Z_solid, fz_Z, headSize_limbs, fz_limbs, refs_limbs, solids_limbs, List.length_map, List.contains_cons, List.contains_nil, Nat.reduceBEq, Bool.true_beq, Bool.false_beq, Z, a48, a48r0_ev, a48r1_ev, a48r2_ev, a48r3_ev, a48r4_ev, a48r5_ev, refs_limbs, hlen, hneg, Int.sign_eq_neg_one_of_neg hneg]
    · simp (config := {maxSteps := 1000000}) only [sim, sik, sil, reduceIte, reduceCtorEq, Nat.reduceAdd, Nat.reduceSub, Nat.reduceMul, Nat.reduceLT, Nat.reduceLeDiff, Int.reduceLT, Int.reduceLE, Int.reduceGT, Int.reduceGE, Int.reduceEq, Int.reduceNe, Int.reduceAdd, Int.reduceSub, Int.reduceNeg, Int.cast_ofNat_Int, Int.natCast_nonneg, Int.toNat_natCast, Int.reduceToNat, Int.toNat_zero, Nat.le_refl, Int.le_refl, List.take_length, Z_size, Z_known, Z_isA, Z_ref, Z_under, Z_solid, fz_Z, headSize_limbs, fz_limbs, refs_limbs, solids_limbs, List.length_map, List.contains_cons, List.contains_nil, Nat.reduceBEq, Bool.true_beq, Bool.false_beq, Z, a48, a48r0_ev, a48r1_ev, a48r2_ev, a48r3_ev, a48r4_ev, a48r5_ev, refs_limbs, hlen, hneg, Int.sign_eq_one_of_pos (show 0 < n by omega)]

omit hE in
theorem norm_loop (l : List Nat) (b : Bool) (c : AV) (hc : c.under 0 = true) : ∀ (n : Nat) (x : AV), x.under 0 = true → n ≤ l.length → l.length < 2147483648 →
    ∃ x y, run E GP a54l0 { vars := [.isl (l.map limbA), .bool b, .int .i64 n, .u, .u, c], heap := [], rs := false } = some (.exit 0, { vars := [.isl (l.map limbA), .bool b, .int .i64 (stripN l n : Nat), x, y, c], heap := [], rs := false }) := by
  intro n
  induction n with
  | zero =>
    intro x hx _ _
    refine ⟨.bool false, .u, ?_⟩
    rw [a54l0_run]
    simp (config := {maxSteps := 1000000}) only [sim, sik, sil, reduceIte, reduceCtorEq, Nat.reduceAdd, Nat.reduceSub, Nat.reduceMul, Nat.reduceLT, Nat.reduceLeDiff, Int.reduceLT, Int.reduceLE, Int.reduceGT, Int.reduceGE, Int.reduceEq, Int.reduceNe, Int.reduceAdd, Int.reduceSub, Int.reduceNeg, Int.cast_ofNat_Int, Int.natCast_nonneg, Int.toNat_natCast, Int.reduceToNat, Int.toNat_zero, Nat.le_refl, Int.le_refl, List.take_length, Z_size, Z_known, Z_isA, Z_ref, Z_under, Z_solid, fz_Z, headSize_limbs, fz_limbs, refs_limbs, solids_limbs, List.length_map, List.contains_cons, List.contains_nil, Nat.reduceBEq, Bool.true_beq, Bool.false_beq, stripN, a54b0, a54r2_ev, a54r3_ev, a54r4_ev, Int.ofNat_zero]
  | succ n ih =>
    intro x hx hn hl
    have hget : (l.map limbA)[n]? = some (limbA (l.getD n 0)) := by
      rw [List.getElem?_map, List.getElem?_eq_getElem (by omega)]; simp [List.getD, List.getElem?_eq_getElem (show n < l.length by omega)]
    have hw : IntKind.i64.wrap (((n + 1 : Nat) : Int) - 1) = (n : Int) := by rw [i64w (by omega)]; omega
    have hpos : ((n + 1 : Nat) : Int) > 0 := by omega
    by_cases hz : l.getD n 0 = 0
    · have hz' : ((l.getD n 0 : Nat) : Int) = 0 := by omega
      obtain ⟨x', y', e⟩ := ih .u (by simp [AV.under]) (by omega) hl
      refine ⟨x', y', ?_⟩
      rw [a54l0_run]
      simp (config := {maxSteps := 1000000}) only [sim, sik, sil, reduceIte, reduceCtorEq, Nat.reduceAdd, Nat.reduceSub, Nat.reduceMul, Nat.reduceLT, Nat.reduceLeDiff, Int.reduceLT, Int.reduceLE, Int.reduceGT, Int.reduceGE, Int.reduceEq, Int.reduceNe, Int.reduceAdd, Int.reduceSub, Int.reduceNeg, Int.cast_ofNat_Int, Int.natCast_nonneg, Int.toNat_natCast, Int.reduceToNat, Int.toNat_zero, Nat.le_refl, Int.le_refl, List.take_length, Z_size, Z_known, Z_isA, Z_ref, Z_under, Z_solid, fz_Z, headSize_limbs, fz_limbs, refs_limbs, solids_limbs, List.length_map, List.contains_cons, List.contains_nil, Nat.reduceBEq, Bool.true_beq, Bool.false_beq, stripN, a54b0, a54r2_ev, a54r3_ev, a54r4_ev, hw, hpos, hget, limbA, hz', hz, hc]
      first | exact e | skip
    · have hz' : ((l.getD n 0 : Nat) : Int) ≠ 0 := by omega
      refine ⟨.bool true, .bool true, ?_⟩
      rw [a54l0_run]
      simp (config := {maxSteps := 1000000}) only [sim, sik, sil, reduceIte, reduceCtorEq, Nat.reduceAdd, Nat.reduceSub, Nat.reduceMul, Nat.reduceLT, Nat.reduceLeDiff, Int.reduceLT, Int.reduceLE, Int.reduceGT, Int.reduceGE, Int.reduceEq, Int.reduceNe, Int.reduceAdd, Int.reduceSub, Int.reduceNeg, Int.cast_ofNat_Int, Int.natCast_nonneg, Int.toNat_natCast, Int.reduceToNat, Int.toNat_zero, Nat.le_refl, Int.le_refl, List.take_length, Z_size, Z_known, Z_isA, Z_ref, Z_under, Z_solid, fz_Z, headSize_limbs, fz_limbs, refs_limbs, solids_limbs, List.length_map, List.contains_cons, List.contains_nil, Nat.reduceBEq, Bool.true_beq, Bool.false_beq, stripN, a54b0, a54r2_ev, a54r3_ev, a54r4_ev, hw, hpos, hget, limbA, hz', hz, hc]

theorem i_norm (l : List Nat) (neg : Bool) (H : Heap) (o g sz st n : Nat) (he : elems H (.sl o g sz st n) = some (l.map limbA)) (hl : ∀ d ∈ l, d < B32) (hlen : l.length < 2147483648) : call E GP 54 [.sl o g sz st n, .bool neg] H = some (Z (ofL neg l), H.set o .dead, false) := by
  rw [call_fun (hE _ _ _ (by decide)) (f := a54) rfl rfl]
  obtain ⟨x, y, hloop⟩ := norm_loop (E := E) l neg (.agg [.bool false, .isl []]) (by simp [AV.under, AV.unders]) l.length .u (by simp [AV.under]) (Nat.le_refl _) hlen
  have hs := stripN_le l l.length
  rw [Z_ofL neg l hl]
  have hs2 : ((stripN l l.length : Nat) : Int) ≤ (l.length : Int) := by omega
  have hs3 : decide (((stripN l l.length : Nat) : Int) > 0) = decide (0 < stripN l l.length) := by simp
  have hm : (l.take (stripN l l.length)).length ≤ 4294967296 := by simp; omega
  have hmode : a54.mode = .con := rfl
  cases neg <;>
  simp (config := {maxSteps := 1000000}) only [he, hmode, sim, sik, sil, reduceIte, reduceCtorEq, Nat.reduceAdd, Nat.reduceSub, Nat.reduceMul, Nat.reduceLT, Nat.reduceLeDiff, Int.reduceLT, Int.reduceLE, Int.reduceGT, Int.reduceGE, Int.reduceEq, Int.reduceNe, Int.reduceAdd, Int.reduceSub, Int.reduceNeg, Int.cast_ofNat_Int, Int.natCast_nonneg, Int.toNat_natCast, Int.reduceToNat, Int.toNat_zero, Nat.le_refl, Int.le_refl, List.take_length, Z_size, Z_known, Z_isA, Z_ref, Z_under, Z_solid, fz_Z, headSize_limbs, fz_limbs, refs_limbs, solids_limbs, List.length_map, List.contains_cons, List.contains_nil, Nat.reduceBEq, Bool.true_beq, Bool.false_beq, a54, a54r0_ev, a54r1_ev, a54r5_ev, hloop, hs2, hs3, maxLenA, List.drop_zero, ← List.map_take, hm]

end Tor
/-
  Integers, second part: comparisons.
-/
namespace Tor
open Go
set_option linter.unusedSimpArgs false
set_option linter.unusedVariables false
variable {E : CallF}

def cmp3 (x y : Int) : Int := if x < y then -1 else if x > y then 1 else 0

theorem cmp3_ne {x y : Int} (h : x ≠ y) : cmp3 x y ≠ 0 := by
  unfold cmp3; split
  · decide
  · split
    · decide
    · omega

theorem diffAt_ne (a b : List Nat) : ∀ n j, diffAt a b n = some j → a.getD j 0 ≠ b.getD j 0
  | 0, j, h => by simp [diffAt] at h
  | n + 1, j, h => by
    simp only [diffAt] at h
    by_cases hz : a.getD n 0 = b.getD n 0
    · rw [if_pos hz] at h; exact diffAt_ne a b n j h
    · rw [if_neg hz] at h; cases h; exact hz

section
variable (hE : Free E)
include hE

theorem c_nan64 (x : Int) (H : Heap) : call E GP 95 [.int .i64 x] H = some (.bool false, H, false) := by
  rw [call_fun (hE _ _ _ (by decide)) (f := a95) rfl rfl]
  simp (config := {maxSteps := 1000000}) only [sim, sik, sil, reduceIte, reduceCtorEq, Nat.reduceAdd, Nat.reduceSub, Nat.reduceMul, Nat.reduceLT, Nat.reduceLeDiff, Int.reduceLT, Int.reduceLE, Int.reduceGT, Int.reduceGE, Int.reduceEq, Int.reduceNe, Int.reduceAdd, Int.reduceSub, Int.reduceNeg, Int.cast_ofNat_Int, Int.natCast_nonneg, Int.toNat_natCast, Int.reduceToNat, Int.toNat_zero, Nat.le_refl, Int.le_refl, List.take_length, Z_size, Z_known, Z_isA, Z_ref, Z_under, Z_solid, fz_Z, headSize_limbs, fz_limbs, refs_limbs, solids_limbs, List.length_map, List.contains_cons, List.contains_nil, Nat.reduceBEq, Bool.true_beq, Bool.false_beq, a95, a95r0_ev, a95r1_ev, ne_eq, not_true_eq_false, decide_false]
theorem c_nan32 (x : Int) (H : Heap) : call E GP 96 [.int .u32 x] H = some (.bool false, H, false) := by
  rw [call_fun (hE _ _ _ (by decide)) (f := a96) rfl rfl]
  simp (config := {maxSteps := 1000000}) only [sim, sik, sil, reduceIte, reduceCtorEq, Nat.reduceAdd, Nat.reduceSub, Nat.reduceMul, Nat.reduceLT, Nat.reduceLeDiff, Int.reduceLT, Int.reduceLE, Int.reduceGT, Int.reduceGE, Int.reduceEq, Int.reduceNe, Int.reduceAdd, Int.reduceSub, Int.reduceNeg, Int.cast_ofNat_Int, Int.natCast_nonneg, Int.toNat_natCast, Int.reduceToNat, Int.toNat_zero, Nat.le_refl, Int.le_refl, List.take_length, Z_size, Z_known, Z_isA, Z_ref, Z_under, Z_solid, fz_Z, headSize_limbs, fz_limbs, refs_limbs, solids_limbs, List.length_map, List.contains_cons, List.contains_nil, Nat.reduceBEq, Bool.true_beq, Bool.false_beq, a96, a96r0_ev, a96r1_ev, ne_eq, not_true_eq_false, decide_false]

theorem c_cmp64 (x y : Int) (H : Heap) : call E GP 80 [.int .i64 x, .int .i64 y] H = some (.int .i64 (cmp3 x y), H, false) := by
  rw [call_fun (hE _ _ _ (by decide)) (f := a80) rfl rfl]
  have n1 := c_nan64 hE x
  have n2 := c_nan64 hE y
  unfold cmp3
  by_cases h1 : x < y
  · simp (config := {maxSteps := 1000000}) only [sim, sik, sil, reduceIte, reduceCtorEq, Nat.reduceAdd, Nat.reduceSub, Nat.reduceMul, Nat.reduceLT, Nat.reduceLeDiff, Int.reduceLT, Int.reduceLE, Int.reduceGT, Int.reduceGE, Int.reduceEq, Int.reduceNe, Int.reduceAdd, Int.reduceSub, Int.reduceNeg, Int.cast_ofNat_Int, Int.natCast_nonneg, Int.toNat_natCast, Int.reduceToNat, Int.toNat_zero, Nat.le_refl, Int.le_refl, List.take_length, Z_size, Z_known, Z_isA, Z_ref, Z_under, Z_solid, fz_Z, headSize_limbs, fz_limbs, refs_limbs, solids_limbs, List.length_map, List.contains_cons, List.contains_nil, Nat.reduceBEq, Bool.true_beq, Bool.false_beq, a80, a80r0_ev, a80r1_ev, a80r2_ev, a80r3_ev, a80r4_ev, a80r5_ev, a80r6_ev, a80r7_ev, a80r8_ev, a80r9_ev, a80r10_ev, a80r11_ev, a80r12_ev, a80r13_ev, n1, n2, h1]
  · by_cases h2 : x > y
    · simp (config := {maxSteps := 1000000}) only [sim, sik, sil, reduceIte, reduceCtorEq, Nat.reduceAdd, Nat.reduceSub, Nat.reduceMul, Nat.reduceLT, Nat.reduceLeDiff, Int.reduceLT, Int.reduceLE, Int.reduceGT, Int.reduceGE, Int.reduceEq, Int.reduceNe, Int.reduceAdd, Int.reduceSub, Int.reduceNeg, Int.cast_ofNat_Int, Int.natCast_nonneg, Int.toNat_natCast, Int.reduceToNat, Int.toNat_zero, Nat.le_refl, Int.le_refl, List.take_length, Z_size, Z_known, Z_isA, Z_ref, Z_under, Z_solid, fz_Z, headSize_limbs, fz_limbs, refs_limbs, solids_limbs, List.length_map, List.contains_cons, List.contains_nil, Nat.reduceBEq, Bool.true_beq, Bool.false_beq, a80, a80r0_ev, a80r1_ev, a80r2_ev, a80r3_ev, a80r4_ev, a80r5_ev, a80r6_ev, a80r7_ev, a80r8_ev, a80r9_ev, a80r10_ev, a80r11_ev, a80r12_ev, a80r13_ev, n1, n2, h1, h2]
    · simp (config := {maxSteps := 1000000}) only [sim, sik, sil, reduceIte, reduceCtorEq, Nat.reduceAdd, Nat.reduceSub, Nat.reduceMul, Nat.reduceLT, Nat.reduceLeDiff, Int.reduceLT, Int.reduceLE, Int.reduceGT, Int.reduceGE, Int.reduceEq, Int.reduceNe, Int.reduceAdd, Int.reduceSub, Int.reduceNeg, Int.cast_ofNat_Int, Int.natCast_nonneg, Int.toNat_natCast, Int.reduceToNat, Int.toNat_zero, Nat.le_refl, Int.le_refl, List.take_length, Z_size, Z_known, Z_isA, Z_ref, Z_under, Z_solid, fz_Z, headSize_limbs, fz_limbs, refs_limbs, solids_limbs, List.length_map, List.contains_cons, List.contains_nil, Nat.reduceBEq, Bool.true_beq, Bool.false_beq, a80, a80r0_ev, a80r1_ev, a80r2_ev, a80r3_ev, a80r4_ev, a80r5_ev, a80r6_ev, a80r7_ev, a80r8_ev, a80r9_ev, a80r10_ev, a80r11_ev, a80r12_ev, a80r13_ev, n1, n2, h1, h2]

theorem c_cmp32 (x y : Int) (H : Heap) : call E GP 81 [.int .u32 x, .int .u32 y] H = some (.int .i64 (cmp3 x y), H, false) := by
  rw [call_fun (hE _ _ _ (by decide)) (f := a81) rfl rfl]
  have n1 := c_nan32 hE x
  have n2 := c_nan32 hE y
  unfold cmp3
  by_cases h1 : x < y
  · simp (config := {maxSteps := 1000000}) only [sim, sik, sil, reduceIte, reduceCtorEq, Nat.reduceAdd, Nat.reduceSub, Nat.reduceMul, Nat.reduceLT, Nat.reduceLeDiff, Int.reduceLT, Int.reduceLE, Int.reduceGT, Int.reduceGE, Int.reduceEq, Int.reduceNe, Int.reduceAdd, Int.reduceSub, Int.reduceNeg, Int.cast_ofNat_Int, Int.natCast_nonneg, Int.toNat_natCast, Int.reduceToNat, Int.toNat_zero, Nat.le_refl, Int.le_refl, List.take_length, Z_size, Z_known, Z_isA, Z_ref, Z_under, Z_solid, fz_Z, headSize_limbs, fz_limbs, refs_limbs, solids_limbs, List.length_map, List.contains_cons, List.contains_nil, Nat.reduceBEq, Bool.true_beq, Bool.false_beq, a81, a81r0_ev, a81r1_ev, a81r2_ev, a81r3_ev, a81r4_ev, a81r5_ev, a81r6_ev, a81r7_ev, a81r8_ev, a81r9_ev, a81r10_ev, a81r11_ev, a81r12_ev, a81r13_ev, n1, n2, h1]
  · by_cases h2 : x > y
    · simp (config := {maxSteps := 1000000}) only [sim, sik, sil, reduceIte, reduceCtorEq, Nat.reduceAdd, Nat.reduceSub, Nat.reduceMul, Nat.reduceLT, Nat.reduceLeDiff, Int.reduceLT, Int.reduceLE, Int.reduceGT, Int.reduceGE, Int.reduceEq, Int.reduceNe, Int.reduceAdd, Int.reduceSub, Int.reduceNeg, Int.cast_ofNat_Int, Int.natCast_nonneg, Int.toNat_natCast, Int.reduceToNat, Int.toNat_zero, Nat.le_refl, Int.le_refl, List.take_length, Z_size, Z_known, Z_isA, Z_ref, Z_under, Z_solid, fz_Z, headSize_limbs, fz_limbs, refs_limbs, solids_limbs, List.length_map, List.contains_cons, List.contains_nil, Nat.reduceBEq, Bool.true_beq, Bool.false_beq, a81, a81r0_ev, a81r1_ev, a81r2_ev, a81r3_ev, a81r4_ev, a81r5_ev, a81r6_ev, a81r7_ev, a81r8_ev, a81r9_ev, a81r10_ev, a81r11_ev, a81r12_ev, a81r13_ev, n1, n2, h1, h2]
    · simp (config := {maxSteps := 1000000}) only [sim, sik, sil, reduceIte, reduceCtorEq, Nat.reduceAdd, Nat.reduceSub, Nat.reduceMul, Nat.reduceLT, Nat.reduceLeDiff, Int.reduceLT, Int.reduceLE, Int.reduceGT, Int.reduceGE, Int.reduceEq, Int.reduceNe, Int.reduceAdd, Int.reduceSub, Int.reduceNeg, Int.cast_ofNat_Int, Int.natCast_nonneg, Int.toNat_natCast, Int.reduceToNat, Int.toNat_zero, Nat.le_refl, Int.le_refl, List.take_length, Z_size, Z_known, Z_isA, Z_ref, Z_under, Z_solid, fz_Z, headSize_limbs, fz_limbs, refs_limbs, solids_limbs, List.length_map, List.contains_cons, List.contains_nil, Nat.reduceBEq, Bool.true_beq, Bool.false_beq, a81, a81r0_ev, a81r1_ev, a81r2_ev, a81r3_ev, a81r4_ev, a81r5_ev, a81r6_ev, a81r7_ev, a81r8_ev, a81r9_ev, a81r10_ev, a81r11_ev, a81r12_ev, a81r13_ev, n1, n2, h1, h2]

theorem comp_loop (a b : List Nat) (hl : a.length < 2147483648) : ∀ n, n ≤ a.length → n ≤ b.length → ∀ (i : Int), i = (n : Int) - 1 →
    run E GP a68l0 { vars := [.isl (a.map limbA), .isl (b.map limbA), .int .i64 0, .int .i64 0, .int .i64 i, .u, .bool false, .u, .u], heap := [], rs := false } =
      match diffAt a b n with
      | none => some (.exit 0, { vars := [.isl (a.map limbA), .isl (b.map limbA), .int .i64 0, .int .i64 0, .int .i64 (-1), .u, .bool false, .bool false, .u], heap := [], rs := false })
      | some j => some (.ret, { vars := [.isl (a.map limbA), .isl (b.map limbA), .int .i64 (cmp3 (a.getD j 0 : Nat) (b.getD j 0 : Nat)), .int .i64 0, .int .i64 j, .int .i64 (cmp3 (a.getD j 0 : Nat) (b.getD j 0 : Nat)), .bool false, .bool true, .bool true], heap := [], rs := false }) := by
  intro n
  induction n with
  | zero =>
    intro _ _ i hi
    have : i = -1 := by omega
    subst this
    rw [a68l0_run]
    simp (config := {maxSteps := 1000000}) only [sim, sik, sil, reduceIte, reduceCtorEq, Nat.reduceAdd, Nat.reduceSub, Nat.reduceMul, Nat.reduceLT, Nat.reduceLeDiff, Int.reduceLT, Int.reduceLE, Int.reduceGT, Int.reduceGE, Int.reduceEq, Int.reduceNe, Int.reduceAdd, Int.reduceSub, Int.reduceNeg, Int.cast_ofNat_Int, Int.natCast_nonneg, Int.toNat_natCast, Int.reduceToNat, Int.toNat_zero, Nat.le_refl, Int.le_refl, List.take_length, Z_size, Z_known, Z_isA, Z_ref, Z_under, Z_solid, fz_Z, headSize_limbs, fz_limbs, refs_limbs, solids_limbs, List.length_map, List.contains_cons, List.contains_nil, Nat.reduceBEq, Bool.true_beq, Bool.false_beq, diffAt, a68b0, a68r5_ev]
  | succ n ih =>
    intro ha hb i hi
    have : i = (n : Int) := by omega
    subst this
    have hw : IntKind.i64.wrap ((n : Int) - 1) = (n : Int) - 1 := i64w (by omega)
    have h0 : (n : Int) ≥ 0 := by omega
    have g1 := limb_get (show n < a.length by omega)
    have g2 := limb_get (show n < b.length by omega)
    have hc := c_cmp32 hE (a.getD n 0 : Nat) (b.getD n 0 : Nat)
    rw [a68l0_run]
    by_cases hz : a.getD n 0 = b.getD n 0
    · have hc0 : cmp3 (a.getD n 0 : Nat) (b.getD n 0 : Nat) = 0 := by unfold cmp3; rw [if_neg (by omega), if_neg (by omega)]
      rw [hc0] at hc
      simp only [hz] at hc
      simp (config := {maxSteps := 1000000}) only [sim, sik, sil, reduceIte, reduceCtorEq, Nat.reduceAdd, Nat.reduceSub, Nat.reduceMul, Nat.reduceLT, Nat.reduceLeDiff, Int.reduceLT, Int.reduceLE, Int.reduceGT, Int.reduceGE, Int.reduceEq, Int.reduceNe, Int.reduceAdd, Int.reduceSub, Int.reduceNeg, Int.cast_ofNat_Int, Int.natCast_nonneg, Int.toNat_natCast, Int.reduceToNat, Int.toNat_zero, Nat.le_refl, Int.le_refl, List.take_length, Z_size, Z_known, Z_isA, Z_ref, Z_under, Z_solid, fz_Z, headSize_limbs, fz_limbs, refs_limbs, solids_limbs, List.length_map, List.contains_cons, List.contains_nil, Nat.reduceBEq, Bool.true_beq, Bool.false_beq, diffAt, a68b0, a68r5_ev, a68r6_ev, a68r7_ev, a68r8_ev, a68r9_ev, hw, h0, g1, g2, limbA, hz, hc]
      exact ih (by omega) (by omega) _ rfl
    · have hc0 : cmp3 (a.getD n 0 : Nat) (b.getD n 0 : Nat) ≠ 0 := cmp3_ne (by omega)
      simp (config := {maxSteps := 1000000}) only [sim, sik, sil, reduceIte, reduceCtorEq, Nat.reduceAdd, Nat.reduceSub, Nat.reduceMul, Nat.reduceLT, Nat.reduceLeDiff, Int.reduceLT, Int.reduceLE, Int.reduceGT, Int.reduceGE, Int.reduceEq, Int.reduceNe, Int.reduceAdd, Int.reduceSub, Int.reduceNeg, Int.cast_ofNat_Int, Int.natCast_nonneg, Int.toNat_natCast, Int.reduceToNat, Int.toNat_zero, Nat.le_refl, Int.le_refl, List.take_length, Z_size, Z_known, Z_isA, Z_ref, Z_under, Z_solid, fz_Z, headSize_limbs, fz_limbs, refs_limbs, solids_limbs, List.length_map, List.contains_cons, List.contains_nil, Nat.reduceBEq, Bool.true_beq, Bool.false_beq, diffAt, a68b0, a68r5_ev, a68r6_ev, a68r7_ev, a68r8_ev, a68r9_ev, hw, h0, g1, g2, limbA, hz, hc, hc0]

/-- Comparing limbs without zeros at the end compares the values. -/
theorem i_compare (m n : Nat) (H : Heap) (hm : (limbs m).length < 2147483648) (hn : (limbs n).length < 2147483648) :
    call E GP 68 [.isl ((limbs m).map limbA), .isl ((limbs n).map limbA)] H = some (.int .i64 (cmp3 m n), H, false) := by
  rw [call_fun (hE _ _ _ (by decide)) (f := a68) rfl rfl]
  have hc := c_cmp64 hE ((limbs m).length : Nat) ((limbs n).length : Nat)
  by_cases hlen : (limbs m).length = (limbs n).length
  · have hc0 : cmp3 ((limbs m).length : Nat) ((limbs n).length : Nat) = 0 := by unfold cmp3; rw [if_neg (by omega), if_neg (by omega)]
    rw [hc0] at hc
    simp only [hlen] at hc
    have hloop := comp_loop hE (limbs m) (limbs n) hm (limbs m).length (Nat.le_refl _) (by omega) _ rfl
    have hd := diffAt_val (limbs m) (limbs n) (limbs_lt m) (limbs_lt n) (limbs m).length (Nat.le_refl _) (by omega)
    have hw : IntKind.i64.wrap (((limbs m).length : Int) - 1) = ((limbs m).length : Int) - 1 := i64w (by omega)
    rw [hlen] at hw
    have e1 : (limbs m).take (limbs m).length = limbs m := List.take_length
    have e2 : (limbs n).take (limbs m).length = limbs n := by rw [hlen]; exact List.take_length
    rw [e1, e2, val_limbs, val_limbs] at hd
    cases hdd : diffAt (limbs m) (limbs n) (limbs m).length with
    | none =>
      rw [hdd] at hd hloop
      simp only at hd hloop
      have hcm : cmp3 (m : Int) (n : Int) = 0 := by unfold cmp3; rw [if_neg (by omega), if_neg (by omega)]
      rw [hlen] at hloop
      simp (config := {maxSteps := 1000000}) only [sim, sik, sil, reduceIte, reduceCtorEq, Nat.reduceAdd, Nat.reduceSub, Nat.reduceMul, Nat.reduceLT, Nat.reduceLeDiff, Int.reduceLT, Int.reduceLE, Int.reduceGT, Int.reduceGE, Int.reduceEq, Int.reduceNe, Int.reduceAdd, Int.reduceSub, Int.reduceNeg, Int.cast_ofNat_Int, Int.natCast_nonneg, Int.toNat_natCast, Int.reduceToNat, Int.toNat_zero, Nat.le_refl, Int.le_refl, List.take_length, Z_size, Z_known, Z_isA, Z_ref, Z_under, Z_solid, fz_Z, headSize_limbs, fz_limbs, refs_limbs, solids_limbs, List.length_map, List.contains_cons, List.contains_nil, Nat.reduceBEq, Bool.true_beq, Bool.false_beq, a68, a68r0_ev, a68r1_ev, a68r2_ev, a68r3_ev, a68r4_ev, a68r10_ev, hlen, hc, hw, hloop, hcm]
    | some j =>
      rw [hdd] at hd hloop
      simp only at hd hloop
      have hcm : cmp3 ((limbs m).getD j 0 : Nat) ((limbs n).getD j 0 : Nat) = cmp3 (m : Int) (n : Int) := by
        have hne := diffAt_ne _ _ _ _ hdd
        obtain ⟨h1, h2⟩ := hd
        unfold cmp3
        by_cases hlt : m < n
        · have := h2.2 hlt
          rw [if_pos (by omega), if_pos (by omega)]
        · have : ¬ (limbs m).getD j 0 < (limbs n).getD j 0 := fun h => hlt (h2.1 h)
          rw [if_neg (by omega), if_pos (by omega), if_neg (by omega), if_pos (by omega)]
      rw [hlen] at hloop
      rw [hcm] at hloop
      simp (config := {maxSteps := 1000000}) only [sim, sik, sil, reduceIte, reduceCtorEq, Nat.reduceAdd, Nat.reduceSub, Nat.reduceMul, Nat.reduceLT, Nat.reduceLeDiff, Int.reduceLT, Int.reduceLE, Int.reduceGT, Int.reduceGE, Int.reduceEq, Int.reduceNe, Int.reduceAdd, Int.reduceSub, Int.reduceNeg, Int.cast_ofNat_Int, Int.natCast_nonneg, Int.toNat_natCast, Int.reduceToNat, Int.toNat_zero, Nat.le_refl, Int.le_refl, List.take_length, Z_size, Z_known, Z_isA, Z_ref, Z_under, Z_solid, fz_Z, headSize_limbs, fz_limbs, refs_limbs, solids_limbs, List.length_map, List.contains_cons, List.contains_nil, Nat.reduceBEq, Bool.true_beq, Bool.false_beq, a68, a68r0_ev, a68r1_ev, a68r2_ev, a68r3_ev, a68r4_ev, a68r10_ev, hlen, hc, hw, hloop]
  · have hcm : cmp3 ((limbs m).length : Nat) ((limbs n).length : Nat) = cmp3 (m : Int) (n : Int) := by
      rcases Nat.lt_or_gt_of_ne hlen with h | h
      · have := limbs_length_lt h
        unfold cmp3; rw [if_pos (by omega), if_pos (by omega)]
      · have := limbs_length_lt h
        unfold cmp3; rw [if_neg (by omega), if_pos (by omega), if_neg (by omega), if_pos (by omega)]
    have hc0 : cmp3 (m : Int) (n : Int) ≠ 0 := by
      rw [← hcm]; exact cmp3_ne (by omega)
    rw [hcm] at hc
    simp (config := {maxSteps := 1000000}) only [sim, sik, sil, reduceIte, reduceCtorEq, Nat.reduceAdd, Nat.reduceSub, Nat.reduceMul, Nat.reduceLT, Nat.reduceLeDiff, Int.reduceLT, Int.reduceLE, Int.reduceGT, Int.reduceGE, Int.reduceEq, Int.reduceNe, Int.reduceAdd, Int.reduceSub, Int.reduceNeg, Int.cast_ofNat_Int, Int.natCast_nonneg, Int.toNat_natCast, Int.reduceToNat, Int.toNat_zero, Nat.le_refl, Int.le_refl, List.take_length, Z_size, Z_known, Z_isA, Z_ref, Z_under, Z_solid, fz_Z, headSize_limbs, fz_limbs, refs_limbs, solids_limbs, List.length_map, List.contains_cons, List.contains_nil, Nat.reduceBEq, Bool.true_beq, Bool.false_beq, a68, a68r0_ev, a68r1_ev, a68r2_ev, a68r3_ev, a68r4_ev, a68r10_ev, hc, hc0]
end
end Tor
/-
  Integers, third part: sums and differences of limbs.
-/
namespace Tor
open Go
set_option linter.unusedSimpArgs false
set_option linter.unusedVariables false
variable {E : CallF}

theorem u32v (v : BitVec 32) : IntKind.u32.wrap (v.toNat : Int) = (v.toNat : Int) := by
  have := v.isLt
  rw [u32n, Nat.mod_eq_of_lt (by simp only [B32]; omega)]
theorem ofv (v : BitVec 32) : BitVec.ofInt 32 (v.toNat : Int) = v := by
  rw [BitVec.ofInt_natCast]; simp
theorem not32 (v : BitVec 32) : unAV .xor (.int .u32 v.toNat) = some (.int .u32 (~~~v).toNat) := by
  have e : unAV .xor (.int .u32 v.toNat) = some (.int .u32 (IntKind.u32.wrap ((BitVec.allOnes 32 ^^^ BitVec.ofInt 32 v.toNat).toNat : Nat))) := rfl
  rw [e, ofv, u32v, BitVec.allOnes_xor]
theorem and32 (u v : BitVec 32) : IntKind.u32.wrap ((BitVec.ofInt IntKind.u32.bits (u.toNat : Int) &&& BitVec.ofInt IntKind.u32.bits (v.toNat : Int)).toNat : Nat) = ((u &&& v).toNat : Int) := by
  have e : (BitVec.ofInt IntKind.u32.bits (u.toNat : Int) &&& BitVec.ofInt IntKind.u32.bits (v.toNat : Int)).toNat = (BitVec.ofInt 32 u.toNat &&& BitVec.ofInt 32 v.toNat).toNat := rfl
  rw [e, ofv, ofv, u32v]
theorem or32 (u v : BitVec 32) : binInt .or .u32 u.toNat v.toNat = some (.int .u32 (u ||| v).toNat) := by
  have e : binInt .or .u32 u.toNat v.toNat = some (.int .u32 (IntKind.u32.wrap ((BitVec.ofInt 32 u.toNat ||| BitVec.ofInt 32 v.toNat).toNat : Nat))) := rfl
  rw [e, ofv, ofv, u32v]
theorem xor32 (u v : BitVec 32) : binInt .xor .u32 u.toNat v.toNat = some (.int .u32 (u ^^^ v).toNat) := by
  have e : binInt .xor .u32 u.toNat v.toNat = some (.int .u32 (IntKind.u32.wrap ((BitVec.ofInt 32 u.toNat ^^^ BitVec.ofInt 32 v.toNat).toNat : Nat))) := rfl
  rw [e, ofv, ofv, u32v]
theorem top32 (v : BitVec 32) : (v.toNat : Int).fdiv (2 ^ Nat.min 31 IntKind.u32.bits) = ((if v.msb then 1 else 0 : Nat) : Int) := by
  rw [show (2 : Int) ^ Nat.min 31 IntKind.u32.bits = 2147483648 from rfl, Int.fdiv_eq_ediv_of_nonneg _ (by decide)]
  have h := BitVec.msb_eq_decide v
  have hl := v.isLt
  rw [h]
  simp only [decide_eq_true_eq]
  split <;> omega

section
variable (hE : Free E)
include hE

theorem c_add32 (x y c : Nat) (hx : x < B32) (hy : y < B32) (hc : c ≤ 1) (H : Heap) : call E GP 79 [.int .u32 x, .int .u32 y, .int .u32 c] H = some (.tup [.int .u32 ((c + x + y) % B32 : Nat), .int .u32 ((c + x + y) / B32 : Nat)], H, false) := by
  rw [call_fun (hE _ _ _ (by decide)) (f := a79) rfl rfl]
  simp only [B32] at hx hy
  have w1 := u64n (n := x) (by omega)
  have w2 := u64n (n := y) (by omega)
  have w3 := u64n (n := c) (by omega)
  have w4 := u64a (x := x) (y := y) (by omega)
  have w5 := u64a (x := x + y) (y := c) (by omega)
  have w6 := u32n (x + y + c)
  have w7 := u32n ((x + y + c) / B32)
  rw [show c + x + y = x + y + c by omega]
  rw [Nat.mod_eq_of_lt (show (x + y + c) / B32 < B32 by simp only [B32]; omega)] at w7
  have w8 : ((x + y + c : Nat) : Int).fdiv (2 ^ Nat.min 32 IntKind.u64.bits) = (((x + y + c) / B32 : Nat) : Int) := by
    rw [show (2 : Int) ^ Nat.min 32 IntKind.u64.bits = 4294967296 from rfl, Int.fdiv_eq_ediv_of_nonneg _ (by decide)]; rfl
  simp (config := {maxSteps := 1000000}) only [sim, sik, sil, reduceIte, reduceCtorEq, Nat.reduceAdd, Nat.reduceSub, Nat.reduceMul, Nat.reduceLT, Nat.reduceLeDiff, Int.reduceLT, Int.reduceLE, Int.reduceGT, Int.reduceGE, Int.reduceEq, Int.reduceNe, Int.reduceAdd, Int.reduceSub, Int.reduceNeg, Int.cast_ofNat_Int, Int.natCast_nonneg, Int.toNat_natCast, Int.reduceToNat, Int.toNat_zero, Nat.le_refl, Int.le_refl, List.take_length, Z_size, Z_known, Z_isA, Z_ref, Z_under, Z_solid, fz_Z, headSize_limbs, fz_limbs, refs_limbs, solids_limbs, List.length_map, List.contains_cons, List.contains_nil, Nat.reduceBEq, Bool.true_beq, Bool.false_beq, a79, a79r0_ev, a79r1_ev, a79r2_ev, a79r3_ev, w1, w2, w3, w4, w5, w6, w7, w8]

theorem c_sub32 (x y w : Nat) (hx : x < B32) (hy : y < B32) (hw : w ≤ 1) (H : Heap) : call E GP 82 [.int .u32 x, .int .u32 y, .int .u32 w] H = some (.tup [.int .u32 (mdig x y w : Nat), .int .u32 (mbor x y w : Nat)], H, false) := by
  rw [call_fun (hE _ _ _ (by decide)) (f := a82) rfl rfl]
  obtain ⟨X, rfl⟩ : ∃ X : BitVec 32, x = X.toNat := ⟨BitVec.ofNat 32 x, by simp only [B32] at hx; simp; omega⟩
  obtain ⟨Y, rfl⟩ : ∃ Y : BitVec 32, y = Y.toNat := ⟨BitVec.ofNat 32 y, by simp only [B32] at hy; simp; omega⟩
  obtain ⟨D, hD⟩ : ∃ D : BitVec 32, mdig X.toNat Y.toNat w = D.toNat := ⟨BitVec.ofNat 32 (mdig X.toNat Y.toNat w), by
    have := (mdig_eq hx hy hw).1; simp only [B32] at this; simp; omega⟩
  have hd : IntKind.u32.wrap (IntKind.u32.wrap ((X.toNat : Int) - (Y.toNat : Int)) - (w : Int)) = (D.toNat : Int) := by
    rw [← hD, IntKind.wrap_u32, IntKind.wrap_u32]
    simp only [B32] at hx hy
    unfold mdig B32
    split <;> omega
  have hb : ((if ((~~~X &&& Y) ||| (~~~(X ^^^ Y) &&& D)).msb then 1 else 0 : Nat) : Int) = (mbor X.toNat Y.toNat w : Nat) := by
    rw [BitVec.msb_or, BitVec.msb_and, BitVec.msb_and, BitVec.msb_not, BitVec.msb_not, BitVec.msb_xor]
    rw [BitVec.msb_eq_decide X, BitVec.msb_eq_decide Y, BitVec.msb_eq_decide D, ← hD]
    simp only [B32] at hx hy
    unfold mdig mbor B32
    simp only [Nat.reduceSub, Nat.reducePow, Nat.reduceLT, decide_true, Bool.true_and]
    clear hd hD
    generalize X.toNat = x at *
    generalize Y.toNat = y at *
    by_cases h1 : 2147483648 ≤ x <;> by_cases h2 : 2147483648 ≤ y <;> by_cases h3 : x < y + w <;>
      by_cases h4 : 2147483648 ≤ (if x < y + w then x + 4294967296 - (y + w) else x - (y + w)) <;>
      first
      | (exfalso; split at h4 <;> omega)
      | (simp only [h1, h2, h4, decide_true, decide_false]; simp only [h3, if_true, if_false]; rfl)
      | (simp [h1, h2, h3, h4])
  rw [hD]
  simp (config := {maxSteps := 1000000}) only [sim, sik, sil, reduceIte, reduceCtorEq, Nat.reduceAdd, Nat.reduceSub, Nat.reduceMul, Nat.reduceLT, Nat.reduceLeDiff, Int.reduceLT, Int.reduceLE, Int.reduceGT, Int.reduceGE, Int.reduceEq, Int.reduceNe, Int.reduceAdd, Int.reduceSub, Int.reduceNeg, Int.cast_ofNat_Int, Int.natCast_nonneg, Int.toNat_natCast, Int.reduceToNat, Int.toNat_zero, Nat.le_refl, Int.le_refl, List.take_length, Z_size, Z_known, Z_isA, Z_ref, Z_under, Z_solid, fz_Z, headSize_limbs, fz_limbs, refs_limbs, solids_limbs, List.length_map, List.contains_cons, List.contains_nil, Nat.reduceBEq, Bool.true_beq, Bool.false_beq, a82, a82r0_ev, a82r1_ev, a82r2_ev, hd, not32, and32, or32, xor32, top32, hb]
end
end Tor
/-
  Integers, fourth part: the loops of sums and differences.
-/
namespace Tor
open Go
set_option linter.unusedSimpArgs false
set_option linter.unusedVariables false
variable {E : CallF}

theorem take_set (l : List Nat) (i d : Nat) (h : i < l.length) : (l.set i d).take (i + 1) = l.take i ++ [d] := by
  rw [List.take_add_one, List.take_set_of_le (Nat.le_refl _)]
  simp [h]

def p2 (a b out : List Nat) (i c : Nat) (sw : Bool) : St :=
  { vars := [.isl (a.map limbA), .isl (b.map limbA), .isl [], .sl 0 0 1 0 (a.length + 1), .int .u32 c, .u, .u, .bool sw, .int .i64 a.length, .int .i64 i, .u, .u], heap := [.arr 0 1 (out.map limbA)], rs := false }

section
variable (hE : Free E)
include hE

theorem p2_round (a b : List Nat) (ha : ∀ d ∈ a, d < B32) (hb : ∀ d ∈ b, d < B32) (la : a.length < 2147483648) (lb : b.length ≤ a.length) (i c : Nat) (sw : Bool) (out : List Nat) (ho : out.length = a.length + 1) (hc : c ≤ 1) (h1 : i < a.length) :
    run E GP a67l0 (p2 a b out i c sw) = run E GP a67l0 (p2 a b (out.set i ((c + dig a i + dig b i) % B32)) (i + 1) ((c + dig a i + dig b i) / B32) sw) := by
  have da := dig_lt ha i
  have db := dig_lt hb i
  have w1 : IntKind.i64.wrap ((i : Int) + 1) = ((i + 1 : Nat) : Int) := i64a (by omega)
  have g1 := limb_get h1
  have e1 : dig a i = a.getD i 0 := by unfold dig; rw [if_pos h1]
  rw [← e1] at g1
  have k1 : (i : Int) < (a.length : Int) := by omega
  have k0 : (i : Int) < ((a.length + 1 : Nat) : Int) := by omega
  have k3 : i < out.length := by omega
  have g3 := limb_get k3
  have ca := c_add32 hE (dig a i) (dig b i) c da db hc
  conv => lhs; rw [a67l0_run]
  by_cases h2 : i < b.length
  · have g2 := limb_get h2
    have e2 : dig b i = b.getD i 0 := by unfold dig; rw [if_pos h2]
    rw [← e2] at g2
    have k2 : (i : Int) < (b.length : Int) := by omega
    simp (config := {maxSteps := 1000000}) only [sim, sik, sil, reduceIte, reduceCtorEq, Nat.reduceAdd, Nat.reduceSub, Nat.reduceMul, Nat.reduceLT, Nat.reduceLeDiff, Int.reduceLT, Int.reduceLE, Int.reduceGT, Int.reduceGE, Int.reduceEq, Int.reduceNe, Int.reduceAdd, Int.reduceSub, Int.reduceNeg, Int.cast_ofNat_Int, Int.natCast_nonneg, Int.toNat_natCast, Int.reduceToNat, Int.toNat_zero, Nat.le_refl, Int.le_refl, List.take_length, Z_size, Z_known, Z_isA, Z_ref, Z_under, Z_solid, fz_Z, headSize_limbs, fz_limbs, refs_limbs, solids_limbs, List.length_map, List.contains_cons, List.contains_nil, Nat.reduceBEq, Bool.true_beq, Bool.false_beq, p2, a67b0, a67r7_ev, a67r8_ev, a67r9_ev, a67r10_ev, a67r11_ev, a67r12_ev, a67r13_ev, limbA, w1, g1, g3, k1, k0, k3, g2, k2, ca, List.map_set, List.length_set, ho]
  · have e2 : dig b i = 0 := by unfold dig; rw [if_neg h2]
    have k2 : ¬ (i : Int) < (b.length : Int) := by omega
    rw [e2] at ca
    rw [e2]
    simp only [Int.ofNat_zero] at ca
    simp (config := {maxSteps := 1000000}) only [sim, sik, sil, reduceIte, reduceCtorEq, Nat.reduceAdd, Nat.reduceSub, Nat.reduceMul, Nat.reduceLT, Nat.reduceLeDiff, Int.reduceLT, Int.reduceLE, Int.reduceGT, Int.reduceGE, Int.reduceEq, Int.reduceNe, Int.reduceAdd, Int.reduceSub, Int.reduceNeg, Int.cast_ofNat_Int, Int.natCast_nonneg, Int.toNat_natCast, Int.reduceToNat, Int.toNat_zero, Nat.le_refl, Int.le_refl, List.take_length, Z_size, Z_known, Z_isA, Z_ref, Z_under, Z_solid, fz_Z, headSize_limbs, fz_limbs, refs_limbs, solids_limbs, List.length_map, List.contains_cons, List.contains_nil, Nat.reduceBEq, Bool.true_beq, Bool.false_beq, p2, a67b0, a67r7_ev, a67r8_ev, a67r9_ev, a67r10_ev, a67r11_ev, a67r12_ev, a67r13_ev, limbA, w1, g1, g3, k1, k0, k3, k2, ca, List.map_set, List.length_set, ho]

def m2 (a b out : List Nat) (i w : Nat) : St :=
  { vars := [.isl (a.map limbA), .isl (b.map limbA), .isl [], .sl 0 0 1 0 a.length, .int .u32 w, .u, .u, .int .i64 a.length, .int .i64 i, .u, .u], heap := [.arr 0 1 (out.map limbA)], rs := false }

theorem m2_round (a b : List Nat) (ha : ∀ d ∈ a, d < B32) (hb : ∀ d ∈ b, d < B32) (la : a.length < 2147483648) (lb : b.length ≤ a.length) (i w : Nat) (out : List Nat) (ho : out.length = a.length) (hw : w ≤ 1) (h1 : i < a.length) :
    run E GP a69l0 (m2 a b out i w) = run E GP a69l0 (m2 a b (out.set i (mdig (dig a i) (dig b i) w)) (i + 1) (mbor (dig a i) (dig b i) w)) := by
  have da := dig_lt ha i
  have db := dig_lt hb i
  have w1 : IntKind.i64.wrap ((i : Int) + 1) = ((i + 1 : Nat) : Int) := i64a (by omega)
  have g1 := limb_get h1
  have e1 : dig a i = a.getD i 0 := by unfold dig; rw [if_pos h1]
  rw [← e1] at g1
  have k1 : (i : Int) < (a.length : Int) := by omega
  have k3 : i < out.length := by omega
  have g3 := limb_get k3
  have ca := c_sub32 hE (dig a i) (dig b i) w da db hw
  conv => lhs; rw [a69l0_run]
  by_cases h2 : i < b.length
  · have g2 := limb_get h2
    have e2 : dig b i = b.getD i 0 := by unfold dig; rw [if_pos h2]
    rw [← e2] at g2
    have k2 : (i : Int) < (b.length : Int) := by omega
    simp (config := {maxSteps := 1000000}) only [sim, sik, sil, reduceIte, reduceCtorEq, Nat.reduceAdd, Nat.reduceSub, Nat.reduceMul, Nat.reduceLT, Nat.reduceLeDiff, Int.reduceLT, Int.reduceLE, Int.reduceGT, Int.reduceGE, Int.reduceEq, Int.reduceNe, Int.reduceAdd, Int.reduceSub, Int.reduceNeg, Int.cast_ofNat_Int, Int.natCast_nonneg, Int.toNat_natCast, Int.reduceToNat, Int.toNat_zero, Nat.le_refl, Int.le_refl, List.take_length, Z_size, Z_known, Z_isA, Z_ref, Z_under, Z_solid, fz_Z, headSize_limbs, fz_limbs, refs_limbs, solids_limbs, List.length_map, List.contains_cons, List.contains_nil, Nat.reduceBEq, Bool.true_beq, Bool.false_beq, m2, a69b0, a69r4_ev, a69r5_ev, a69r6_ev, a69r7_ev, a69r8_ev, a69r9_ev, a69r10_ev, limbA, w1, g1, g3, k1, k3, g2, k2, ca, List.map_set, List.length_set, ho]
  · have e2 : dig b i = 0 := by unfold dig; rw [if_neg h2]
    have k2 : ¬ (i : Int) < (b.length : Int) := by omega
    rw [e2] at ca
    rw [e2]
    simp only [Int.ofNat_zero] at ca
    simp (config := {maxSteps := 1000000}) only [sim, sik, sil, reduceIte, reduceCtorEq, Nat.reduceAdd, Nat.reduceSub, Nat.reduceMul, Nat.reduceLT, Nat.reduceLeDiff, Int.reduceLT, Int.reduceLE, Int.reduceGT, Int.reduceGE, Int.reduceEq, Int.reduceNe, Int.reduceAdd, Int.reduceSub, Int.reduceNeg, Int.cast_ofNat_Int, Int.natCast_nonneg, Int.toNat_natCast, Int.reduceToNat, Int.toNat_zero, Nat.le_refl, Int.le_refl, List.take_length, Z_size, Z_known, Z_isA, Z_ref, Z_under, Z_solid, fz_Z, headSize_limbs, fz_limbs, refs_limbs, solids_limbs, List.length_map, List.contains_cons, List.contains_nil, Nat.reduceBEq, Bool.true_beq, Bool.false_beq, m2, a69b0, a69r4_ev, a69r5_ev, a69r6_ev, a69r7_ev, a69r8_ev, a69r9_ev, a69r10_ev, limbA, w1, g1, g3, k1, k3, k2, ca, List.map_set, List.length_set, ho]
end
end Tor
/-
  Integers, fifth part: sums and differences of limbs, joined.
-/
namespace Tor
open Go
set_option linter.unusedSimpArgs false
set_option linter.unusedVariables false
variable {E : CallF}

section
variable (hE : Free E)
include hE

theorem p2_loop (a b : List Nat) (ha : ∀ d ∈ a, d < B32) (hb : ∀ d ∈ b, d < B32) (la : a.length < 2147483648) (lb : b.length ≤ a.length) (sw : Bool) : ∀ (k i c : Nat) (out : List Nat), a.length = i + k → out.length = a.length + 1 → c ≤ 1 →
    (∀ d ∈ out.take i, d < B32) → val (out.take i) + B32 ^ i * c = val (a.take i) + val (b.take i) →
    ∃ (r : List Nat) (c' : Nat), run E GP a67l0 (p2 a b out i c sw) = some (.exit 0, { vars := [.isl (a.map limbA), .isl (b.map limbA), .isl [], .sl 0 0 1 0 (a.length + 1), .int .u32 c', .u, .u, .bool sw, .int .i64 a.length, .int .i64 a.length, .bool false, .u], heap := [.arr 0 1 (r.map limbA)], rs := false }) ∧
      r.length = a.length + 1 ∧ c' ≤ 1 ∧ (∀ d ∈ r.take a.length, d < B32) ∧ val (r.take a.length) + B32 ^ a.length * c' = val a + val b := by
  intro k
  induction k with
  | zero =>
    intro i c out h1 h2 h3 h4 h5
    have hi : i = a.length := by omega
    subst hi
    rw [List.take_length, List.take_of_length_le lb] at h5
    have k1 : ¬ (a.length : Int) < (a.length : Int) := by omega
    refine ⟨out, c, ?_, h2, h3, h4, h5⟩
    rw [a67l0_run]
    simp (config := {maxSteps := 1000000}) only [sim, sik, sil, reduceIte, reduceCtorEq, Nat.reduceAdd, Nat.reduceSub, Nat.reduceMul, Nat.reduceLT, Nat.reduceLeDiff, Int.reduceLT, Int.reduceLE, Int.reduceGT, Int.reduceGE, Int.reduceEq, Int.reduceNe, Int.reduceAdd, Int.reduceSub, Int.reduceNeg, Int.cast_ofNat_Int, Int.natCast_nonneg, Int.toNat_natCast, Int.reduceToNat, Int.toNat_zero, Nat.le_refl, Int.le_refl, List.take_length, Z_size, Z_known, Z_isA, Z_ref, Z_under, Z_solid, fz_Z, headSize_limbs, fz_limbs, refs_limbs, solids_limbs, List.length_map, List.contains_cons, List.contains_nil, Nat.reduceBEq, Bool.true_beq, Bool.false_beq, p2, a67b0, a67r7_ev, k1]
  | succ k ih =>
    intro i c out h1 h2 h3 h4 h5
    have da := dig_lt ha i
    have db := dig_lt hb i
    rw [p2_round hE a b ha hb la lb i c sw out h2 h3 (by omega)]
    have hm : (c + dig a i + dig b i) % B32 < B32 := Nat.mod_lt _ (by decide)
    refine ih (i + 1) _ _ (by omega) (by simp [h2]) (by simp only [B32] at da db ⊢; omega) (fun d hd => ?_) ?_
    · rw [take_set _ _ _ (by omega)] at hd
      rcases List.mem_append.1 hd with hd | hd
      · exact h4 d hd
      · simp at hd; subst hd; exact hm
    · have hlt : (out.take i).length = i := by rw [List.length_take]; omega
      rw [take_set _ _ _ (by omega), val_append, hlt, take_dig, take_dig]
      simp only [val, Nat.mul_zero, Nat.add_zero]
      have hdm := Nat.div_add_mod (c + dig a i + dig b i) B32
      generalize (c + dig a i + dig b i) / B32 = q at *
      generalize (c + dig a i + dig b i) % B32 = m at *
      have e : B32 ^ i * m + B32 ^ (i + 1) * q = B32 ^ i * c + B32 ^ i * dig a i + B32 ^ i * dig b i := by
        rw [Nat.pow_succ, Nat.mul_assoc, ← Nat.mul_add, ← Nat.mul_add, ← Nat.mul_add, Nat.add_comm m, hdm]
      omega

theorem m2_loop (a b : List Nat) (ha : ∀ d ∈ a, d < B32) (hb : ∀ d ∈ b, d < B32) (la : a.length < 2147483648) (lb : b.length ≤ a.length) : ∀ (k i w : Nat) (out : List Nat), a.length = i + k → out.length = a.length → w ≤ 1 →
    (∀ d ∈ out.take i, d < B32) → val (out.take i) + val (b.take i) = val (a.take i) + B32 ^ i * w →
    ∃ (r : List Nat) (w' : Nat), run E GP a69l0 (m2 a b out i w) = some (.exit 0, { vars := [.isl (a.map limbA), .isl (b.map limbA), .isl [], .sl 0 0 1 0 a.length, .int .u32 w', .u, .u, .int .i64 a.length, .int .i64 a.length, .bool false, .u], heap := [.arr 0 1 (r.map limbA)], rs := false }) ∧
      r.length = a.length ∧ w' ≤ 1 ∧ (∀ d ∈ r, d < B32) ∧ val r + val b = val a + B32 ^ a.length * w' := by
  intro k
  induction k with
  | zero =>
    intro i w out h1 h2 h3 h4 h5
    have hi : i = a.length := by omega
    subst hi
    have e0 : out.take a.length = out := List.take_of_length_le (by omega)
    rw [List.take_length, List.take_of_length_le lb, e0] at h5
    rw [e0] at h4
    have k1 : ¬ (a.length : Int) < (a.length : Int) := by omega
    refine ⟨out, w, ?_, h2, h3, h4, h5⟩
    rw [a69l0_run]
    simp (config := {maxSteps := 1000000}) only [sim, sik, sil, reduceIte, reduceCtorEq, Nat.reduceAdd, Nat.reduceSub, Nat.reduceMul, Nat.reduceLT, Nat.reduceLeDiff, Int.reduceLT, Int.reduceLE, Int.reduceGT, Int.reduceGE, Int.reduceEq, Int.reduceNe, Int.reduceAdd, Int.reduceSub, Int.reduceNeg, Int.cast_ofNat_Int, Int.natCast_nonneg, Int.toNat_natCast, Int.reduceToNat, Int.toNat_zero, Nat.le_refl, Int.le_refl, List.take_length, Z_size, Z_known, Z_isA, Z_ref, Z_under, Z_solid, fz_Z, headSize_limbs, fz_limbs, refs_limbs, solids_limbs, List.length_map, List.contains_cons, List.contains_nil, Nat.reduceBEq, Bool.true_beq, Bool.false_beq, m2, a69b0, a69r4_ev, k1]
  | succ k ih =>
    intro i w out h1 h2 h3 h4 h5
    have da := dig_lt ha i
    have db := dig_lt hb i
    rw [m2_round hE a b ha hb la lb i w out h2 h3 (by omega)]
    obtain ⟨m1, m2, m3⟩ := mdig_eq da db h3
    refine ih (i + 1) _ _ (by omega) (by simp [h2]) m2 (fun d hd => ?_) ?_
    · rw [take_set _ _ _ (by omega)] at hd
      rcases List.mem_append.1 hd with hd | hd
      · exact h4 d hd
      · simp at hd; subst hd; exact m1
    · have hlt : (out.take i).length = i := by rw [List.length_take]; omega
      rw [take_set _ _ _ (by omega), val_append, hlt, take_dig, take_dig]
      simp only [val, Nat.mul_zero, Nat.add_zero]
      generalize mdig (dig a i) (dig b i) w = m at *
      generalize mbor (dig a i) (dig b i) w = q at *
      have e : B32 ^ i * dig a i + B32 ^ (i + 1) * q = B32 ^ i * m + B32 ^ i * dig b i + B32 ^ i * w := by
        rw [Nat.pow_succ, Nat.mul_assoc, ← Nat.mul_add, ← Nat.mul_add, ← Nat.mul_add, m3, Nat.add_assoc]
      omega

theorem i_minus (a b : List Nat) (ha : ∀ d ∈ a, d < B32) (hb : ∀ d ∈ b, d < B32) (la : a.length < 2147483648) (lb : b.length ≤ a.length) (hle : val b ≤ val a) : ∃ r : List Nat, (∀ d ∈ r, d < B32) ∧ val r = val a - val b ∧ r.length = a.length ∧
    ∀ H, call E GP 69 [.isl (a.map limbA), .isl (b.map limbA)] H = some (.isl (r.map limbA), H, false) := by
  obtain ⟨r, w', h1, h2, h3, h4, h5⟩ := m2_loop hE a b ha hb la lb a.length 0 0 (List.replicate a.length 0) (by omega) (by simp) (by omega) (fun d hd => by simp at hd) (by simp [val])
  have hw : w' = 0 := by
    have := val_lt r h4
    rw [h2] at this
    rcases Nat.eq_zero_or_pos w' with h | h
    · exact h
    · have : B32 ^ a.length * 1 ≤ B32 ^ a.length * w' := Nat.mul_le_mul_left _ h
      omega
  subst hw
  refine ⟨r, h4, by omega, h2, fun H => ?_⟩
  rw [call_fun (hE _ _ _ (by decide)) (f := a69) rfl rfl]
  simp only [m2, Int.ofNat_zero, List.map_replicate, limbA] at h1
  have w3 : ((a.length : Nat) : Int) ≤ maxLenA := by unfold maxLenA; omega
  have w6 : (r.map limbA).take a.length = r.map limbA := List.take_of_length_le (by simp; omega)
  have hKr : a.length ≤ r.length := by omega
  generalize hal : a.length = K at *
  simp (config := {maxSteps := 1000000}) only [sim, sik, sil, reduceIte, reduceCtorEq, Nat.reduceAdd, Nat.reduceSub, Nat.reduceMul, Nat.reduceLT, Nat.reduceLeDiff, Int.reduceLT, Int.reduceLE, Int.reduceGT, Int.reduceGE, Int.reduceEq, Int.reduceNe, Int.reduceAdd, Int.reduceSub, Int.reduceNeg, Int.cast_ofNat_Int, Int.natCast_nonneg, Int.toNat_natCast, Int.reduceToNat, Int.toNat_zero, Nat.le_refl, Int.le_refl, List.take_length, Z_size, Z_known, Z_isA, Z_ref, Z_under, Z_solid, fz_Z, headSize_limbs, fz_limbs, refs_limbs, solids_limbs, List.length_map, List.contains_cons, List.contains_nil, Nat.reduceBEq, Bool.true_beq, Bool.false_beq, a69, a69r0_ev, a69r1_ev, a69r2_ev, a69r3_ev, a69r11_ev, hal, w3, h1, w6, hKr]

omit hE in
theorem set_last (r : List Nat) (n c : Nat) (h : r.length = n + 1) : r.set n c = r.take n ++ [c] := by
  have := take_set r n c (by omega)
  rwa [List.take_of_length_le (by simp; omega)] at this

omit hE in
theorem copied (b : List Nat) : List.take (b.length + 1) (List.map limbA b) ++ List.drop (b.length.min (b.length + 1)) (AV.int IntKind.u32 0 :: List.replicate b.length (AV.int IntKind.u32 0)) = List.map limbA b ++ [AV.int IntKind.u32 0] := by
  rw [List.take_of_length_le (by simp), show b.length.min (b.length + 1) = b.length from by simp [Nat.min_def], ← List.replicate_succ, List.drop_replicate, show b.length + 1 - b.length = 1 by omega]
  rfl

theorem i_plus (a b : List Nat) (ha : ∀ d ∈ a, d < B32) (hb : ∀ d ∈ b, d < B32) (la : a.length < 2147483647) (lb : b.length < 2147483647) : ∃ r : List Nat, (∀ d ∈ r, d < B32) ∧ val r = val a + val b ∧ r.length = max a.length b.length + 1 ∧
    ∀ (H : Heap), call E GP 67 [.isl (a.map limbA), .isl (b.map limbA)] H = some (.isl (r.map limbA), H, false) := by
  by_cases hlt : a.length < b.length
  · obtain ⟨r, c, h1, h2, h3, h4, h5⟩ := p2_loop hE b a hb ha (by omega) (by omega) true b.length 0 0 (b ++ [0]) (by omega) (by simp) (by omega) (fun d hd => by simp at hd) (by simp [val])
    refine ⟨r.set b.length c, ?_, ?_, by simp; omega, fun H => ?_⟩
    · intro d hd
      rw [set_last _ _ _ h2] at hd
      rcases List.mem_append.1 hd with hd | hd
      · exact h4 d hd
      · simp at hd; subst hd; simp only [B32]; omega
    · rw [set_last _ _ _ h2, val_append, List.length_take, Nat.min_eq_left (by omega), val, val, Nat.mul_zero, Nat.add_zero, h5, Nat.add_comm]
    rw [call_fun (hE _ _ _ (by decide)) (f := a67) rfl rfl]
    simp only [p2, Int.ofNat_zero, List.map_append, List.map_cons, List.map_nil, limbA] at h1
    have k1 : (a.length : Int) < (b.length : Int) := by omega
    have w3 : ((b.length + 1 : Nat) : Int) ≤ maxLenA := by unfold maxLenA; omega
    have w4 : IntKind.i64.wrap ((b.length : Int) + 1) = ((b.length + 1 : Nat) : Int) := i64a (by omega)
    have w6 : List.take (b.length + 1) (List.map limbA (r.set b.length c)) = List.map limbA (r.set b.length c) := List.take_of_length_le (by simp; omega)
    have hKr : b.length + 1 ≤ r.length := by omega
    have hKs : b.length < r.length := by omega
    have k2 : (b.length : Int) < ((b.length + 1 : Nat) : Int) := by omega
    have g3 := limb_get (l := r) (n := b.length) (by omega)
    have hcp := copied b
    have hf : (r.map limbA).set b.length (.int .u32 c) = (r.set b.length c).map limbA := set_limb r b.length c
    simp (config := {maxSteps := 1000000}) only [sim, sik, sil, reduceIte, reduceCtorEq, Nat.reduceAdd, Nat.reduceSub, Nat.reduceMul, Nat.reduceLT, Nat.reduceLeDiff, Int.reduceLT, Int.reduceLE, Int.reduceGT, Int.reduceGE, Int.reduceEq, Int.reduceNe, Int.reduceAdd, Int.reduceSub, Int.reduceNeg, Int.cast_ofNat_Int, Int.natCast_nonneg, Int.toNat_natCast, Int.reduceToNat, Int.toNat_zero, Nat.le_refl, Int.le_refl, List.take_length, Z_size, Z_known, Z_isA, Z_ref, Z_under, Z_solid, fz_Z, headSize_limbs, fz_limbs, refs_limbs, solids_limbs, List.length_map, List.contains_cons, List.contains_nil, Nat.reduceBEq, Bool.true_beq, Bool.false_beq, a67, a67r0_ev, a67r1_ev, a67r2_ev, a67r3_ev, a67r4_ev, a67r5_ev, a67r6_ev, a67r14_ev, a67r15_ev, k1, w3, w4, List.length_replicate, hcp, h1, g3, hKs, k2, limbA, List.length_set, w6, hKr, hf]
  · obtain ⟨r, c, h1, h2, h3, h4, h5⟩ := p2_loop hE a b ha hb (by omega) (by omega) false a.length 0 0 (a ++ [0]) (by omega) (by simp) (by omega) (fun d hd => by simp at hd) (by simp [val])
    refine ⟨r.set a.length c, ?_, ?_, by simp; omega, fun H => ?_⟩
    · intro d hd
      rw [set_last _ _ _ h2] at hd
      rcases List.mem_append.1 hd with hd | hd
      · exact h4 d hd
      · simp at hd; subst hd; simp only [B32]; omega
    · rw [set_last _ _ _ h2, val_append, List.length_take, Nat.min_eq_left (by omega), val, val, Nat.mul_zero, Nat.add_zero, h5]
    rw [call_fun (hE _ _ _ (by decide)) (f := a67) rfl rfl]
    simp only [p2, Int.ofNat_zero, List.map_append, List.map_cons, List.map_nil, limbA] at h1
    have k1 : ¬ (a.length : Int) < (b.length : Int) := by omega
    have w3 : ((a.length + 1 : Nat) : Int) ≤ maxLenA := by unfold maxLenA; omega
    have w4 : IntKind.i64.wrap ((a.length : Int) + 1) = ((a.length + 1 : Nat) : Int) := i64a (by omega)
    have w6 : List.take (a.length + 1) (List.map limbA (r.set a.length c)) = List.map limbA (r.set a.length c) := List.take_of_length_le (by simp; omega)
    have hKr : a.length + 1 ≤ r.length := by omega
    have hKs : a.length < r.length := by omega
    have k2 : (a.length : Int) < ((a.length + 1 : Nat) : Int) := by omega
    have g3 := limb_get (l := r) (n := a.length) (by omega)
    have hcp := copied a
    have hf : (r.map limbA).set a.length (.int .u32 c) = (r.set a.length c).map limbA := set_limb r a.length c
    simp (config := {maxSteps := 1000000}) only [sim, sik, sil, reduceIte, reduceCtorEq, Nat.reduceAdd, Nat.reduceSub, Nat.reduceMul, Nat.reduceLT, Nat.reduceLeDiff, Int.reduceLT, Int.reduceLE, Int.reduceGT, Int.reduceGE, Int.reduceEq, Int.reduceNe, Int.reduceAdd, Int.reduceSub, Int.reduceNeg, Int.cast_ofNat_Int, Int.natCast_nonneg, Int.toNat_natCast, Int.reduceToNat, Int.toNat_zero, Nat.le_refl, Int.le_refl, List.take_length, Z_size, Z_known, Z_isA, Z_ref, Z_under, Z_solid, fz_Z, headSize_limbs, fz_limbs, refs_limbs, solids_limbs, List.length_map, List.contains_cons, List.contains_nil, Nat.reduceBEq, Bool.true_beq, Bool.false_beq, a67, a67r0_ev, a67r1_ev, a67r2_ev, a67r3_ev, a67r4_ev, a67r5_ev, a67r6_ev, a67r14_ev, a67r15_ev, k1, w3, w4, List.length_replicate, hcp, h1, g3, hKs, k2, limbA, List.length_set, w6, hKr, hf]
end
end Tor
/-
  Integers, sixth part: sums.
-/
namespace Tor
open Go
set_option linter.unusedSimpArgs false
set_option linter.unusedVariables false
variable {E : CallF} (hE : Free E)
include hE

theorem i_norm_isl (l : List Nat) (neg : Bool) (H : Heap) (hl : ∀ d ∈ l, d < B32) (hlen : l.length < 2147483648) : call E GP 54 [.isl (l.map limbA), .bool neg] H = some (Z (ofL neg l), H, false) := by
  rw [call_fun (hE _ _ _ (by decide)) (f := a54) rfl rfl]
  obtain ⟨x, y, hloop⟩ := norm_loop (E := E) l neg (.agg [.bool false, .isl []]) (by simp [AV.under, AV.unders]) l.length .u (by simp [AV.under]) (Nat.le_refl _) hlen
  have hs := stripN_le l l.length
  rw [Z_ofL neg l hl]
  have hs2 : ((stripN l l.length : Nat) : Int) ≤ (l.length : Int) := by omega
  have hs3 : decide (((stripN l l.length : Nat) : Int) > 0) = decide (0 < stripN l l.length) := by simp
  have hm : (l.take (stripN l l.length)).length ≤ 4294967296 := by simp; omega
  have hmode : a54.mode = .con := rfl
  cases neg <;>
  simp (config := {maxSteps := 1000000}) only [hmode, sim, sik, sil, reduceIte, reduceCtorEq, Nat.reduceAdd, Nat.reduceSub, Nat.reduceMul, Nat.reduceLT, Nat.reduceLeDiff, Int.reduceLT, Int.reduceLE, Int.reduceGT, Int.reduceGE, Int.reduceEq, Int.reduceNe, Int.reduceAdd, Int.reduceSub, Int.reduceNeg, Int.cast_ofNat_Int, Int.natCast_nonneg, Int.toNat_natCast, Int.reduceToNat, Int.toNat_zero, Nat.le_refl, Int.le_refl, List.take_length, Z_size, Z_known, Z_isA, Z_ref, Z_under, Z_solid, fz_Z, headSize_limbs, fz_limbs, refs_limbs, solids_limbs, List.length_map, List.contains_cons, List.contains_nil, Nat.reduceBEq, Bool.true_beq, Bool.false_beq, a54, a54r0_ev, a54r1_ev, a54r5_ev, hloop, hs2, hs3, maxLenA, List.drop_zero, ← List.map_take, hm]

theorem i_add (m n : Int) (H : Heap) (hm : (limbs m.natAbs).length < 2147483647) (hn : (limbs n.natAbs).length < 2147483647) : call E GP 53 [Z m, Z n] H = some (Z (m + n), H, false) := by
  rw [call_fun (hE _ _ _ (by decide)) (f := a53) rfl rfl]
  have Lm := limbs_lt m.natAbs
  have Ln := limbs_lt n.natAbs
  have Vm := val_limbs m.natAbs
  have Vn := val_limbs n.natAbs
  have hl := fun H => i_compare hE m.natAbs n.natAbs H (by omega) (by omega)
  by_cases hs : decide (m < 0) = decide (n < 0)
  · obtain ⟨r, r1, r2, r3, r4⟩ := i_plus hE _ _ Lm Ln (by omega) (by omega)
    have hmade := fun H => i_norm_isl hE r (decide (m < 0)) H r1 (by omega)
    have he : ofL (decide (m < 0)) r = m + n := by
      unfold ofL; rw [r2, Vm, Vn]
      simp only [decide_eq_decide] at hs
      by_cases hm0 : m < 0
      · rw [if_pos (by simpa using hm0)]; have := hs.1 hm0; omega
      · rw [if_neg (by simpa using hm0)]; have : ¬ n < 0 := fun h => hm0 (hs.2 h); omega
    rw [he, hs] at hmade
    rw [show Z m = .agg [.bool (decide (m < 0)), .isl ((limbs m.natAbs).map limbA)] from rfl, show Z n = .agg [.bool (decide (n < 0)), .isl ((limbs n.natAbs).map limbA)] from rfl]
    simp (config := {maxSteps := 1000000}) only [sim, sik, sil, reduceIte, reduceCtorEq, Nat.reduceAdd, Nat.reduceSub, Nat.reduceMul, Nat.reduceLT, Nat.reduceLeDiff, Int.reduceLT, Int.reduceLE, Int.reduceGT, Int.reduceGE, Int.reduceEq, Int.reduceNe, Int.reduceAdd, Int.reduceSub, Int.reduceNeg, Int.cast_ofNat_Int, Int.natCast_nonneg, Int.toNat_natCast, Int.reduceToNat, Int.toNat_zero, Nat.le_refl, Int.le_refl, List.take_length, Z_size, Z_known, Z_isA, Z_ref, Z_under, Z_solid, fz_Z, headSize_limbs, fz_limbs, refs_limbs, solids_limbs, List.length_map, List.contains_cons, List.contains_nil, Nat.reduceBEq, Bool.true_beq, Bool.false_beq, a53, a53r0_ev, a53r1_ev, a53r2_ev, a53r3_ev, a53r4_ev, a53r5_ev, hs, hmade, r4]
  · have hs2 : (decide (m < 0) == decide (n < 0)) = false := by simpa using hs
    by_cases hlt : m.natAbs < n.natAbs
    · obtain ⟨r, r1, r2, r3, r4⟩ := i_minus hE _ _ Ln Lm (by omega) (limbs_len_le (by omega)) (by omega)
      have hmade := fun H => i_norm_isl hE r (decide (n < 0)) H r1 (by omega)
      have he : ofL (decide (n < 0)) r = m + n := by
        unfold ofL; rw [r2, Vm, Vn]
        simp only [decide_eq_decide] at hs
        by_cases hn0 : n < 0
        · rw [if_pos (by simpa using hn0)]; have : ¬ m < 0 := fun h => hs ⟨fun _ => hn0, fun _ => h⟩; omega
        · rw [if_neg (by simpa using hn0)]; have : m < 0 := by
            by_cases hm0 : m < 0
            · exact hm0
            · exact absurd ⟨fun h => absurd h hm0, fun h => absurd h hn0⟩ hs
          omega
      rw [he] at hmade
      have hlt' : cmp3 (m.natAbs : Int) (n.natAbs : Int) < 0 := by unfold cmp3; rw [if_pos (by omega)]; decide
      rw [show Z m = .agg [.bool (decide (m < 0)), .isl ((limbs m.natAbs).map limbA)] from rfl, show Z n = .agg [.bool (decide (n < 0)), .isl ((limbs n.natAbs).map limbA)] from rfl]
      simp (config := {maxSteps := 1000000}) only [sim, sik, sil, reduceIte, reduceCtorEq, Nat.reduceAdd, Nat.reduceSub, Nat.reduceMul, Nat.reduceLT, Nat.reduceLeDiff, Int.reduceLT, Int.reduceLE, Int.reduceGT, Int.reduceGE, Int.reduceEq, Int.reduceNe, Int.reduceAdd, Int.reduceSub, Int.reduceNeg, Int.cast_ofNat_Int, Int.natCast_nonneg, Int.toNat_natCast, Int.reduceToNat, Int.toNat_zero, Nat.le_refl, Int.le_refl, List.take_length, Z_size, Z_known, Z_isA, Z_ref, Z_under, Z_solid, fz_Z, headSize_limbs, fz_limbs, refs_limbs, solids_limbs, List.length_map, List.contains_cons, List.contains_nil, Nat.reduceBEq, Bool.true_beq, Bool.false_beq, a53, a53r0_ev, a53r1_ev, a53r2_ev, a53r3_ev, a53r4_ev, a53r5_ev, hs2, hl, hlt', r4, hmade]
    · obtain ⟨r, r1, r2, r3, r4⟩ := i_minus hE _ _ Lm Ln (by omega) (limbs_len_le (by omega)) (by omega)
      have hmade := fun H => i_norm_isl hE r (decide (m < 0)) H r1 (by omega)
      have he : ofL (decide (m < 0)) r = m + n := by
        unfold ofL; rw [r2, Vm, Vn]
        simp only [decide_eq_decide] at hs
        by_cases hm0 : m < 0
        · rw [if_pos (by simpa using hm0)]; have : ¬ n < 0 := fun h => hs ⟨fun _ => h, fun _ => hm0⟩; omega
        · rw [if_neg (by simpa using hm0)]; have : n < 0 := by
            by_cases hn0 : n < 0
            · exact hn0
            · exact absurd ⟨fun h => absurd h hm0, fun h => absurd h hn0⟩ hs
          omega
      rw [he] at hmade
      have hlt' : ¬ cmp3 (m.natAbs : Int) (n.natAbs : Int) < 0 := by unfold cmp3; rw [if_neg (by omega)]; split <;> decide
      rw [show Z m = .agg [.bool (decide (m < 0)), .isl ((limbs m.natAbs).map limbA)] from rfl, show Z n = .agg [.bool (decide (n < 0)), .isl ((limbs n.natAbs).map limbA)] from rfl]
      simp (config := {maxSteps := 1000000}) only [sim, sik, sil, reduceIte, reduceCtorEq, Nat.reduceAdd, Nat.reduceSub, Nat.reduceMul, Nat.reduceLT, Nat.reduceLeDiff, Int.reduceLT, Int.reduceLE, Int.reduceGT, Int.reduceGE, Int.reduceEq, Int.reduceNe, Int.reduceAdd, Int.reduceSub, Int.reduceNeg, Int.cast_ofNat_Int, Int.natCast_nonneg, Int.toNat_natCast, Int.reduceToNat, Int.toNat_zero, Nat.le_refl, Int.le_refl, List.take_length, Z_size, Z_known, Z_isA, Z_ref, Z_under, Z_solid, fz_Z, headSize_limbs, fz_limbs, refs_limbs, solids_limbs, List.length_map, List.contains_cons, List.contains_nil, Nat.reduceBEq, Bool.true_beq, Bool.false_beq, a53, a53r0_ev, a53r1_ev, a53r2_ev, a53r3_ev, a53r4_ev, a53r5_ev, hs2, hl, hlt', r4, hmade]

end Tor
/-
  Integers, seventh part: the rows of a product.
-/
namespace Tor
open Go
set_option linter.unusedSimpArgs false
set_option linter.unusedVariables false
variable {E : CallF}

def zl (s : Bool) (a : List Nat) : AV := .agg [.bool s, .isl (a.map limbA)]

def x2 (sa sb : Bool) (a b out : List Nat) (i k c : Nat) : St :=
  { vars := [zl sa a, zl sb b, .sl 0 0 1 0 out.length, .int .i64 i, .int .u32 (dig a i), .int .u64 c, .u, .u, .isl (a.map limbA), .int .i64 a.length, .int .i64 i, .bool true, .isl (b.map limbA), .int .i64 b.length, .int .i64 k, .u, zl sa a, zl sb b, .agg [.bool false, .isl []]], heap := [.arr 0 1 (out.map limbA)], rs := false }

theorem fdiv32 (n : Nat) : (n : Int).fdiv (2 ^ Nat.min 32 IntKind.u64.bits) = ((n / B32 : Nat) : Int) := by
  rw [show (2 : Int) ^ Nat.min 32 IntKind.u64.bits = 4294967296 from rfl, Int.fdiv_eq_ediv_of_nonneg _ (by decide)]; rfl

theorem x2_round (sa sb : Bool) (a b : List Nat) (ha : ∀ d ∈ a, d < B32) (hb : ∀ d ∈ b, d < B32) (out : List Nat) (ho : ∀ d ∈ out, d < B32) (la : a.length < 1073741824) (lb : b.length < 1073741824) (i k c : Nat) (hi : i < a.length) (hol : out.length = a.length + b.length)
    (hc : c < B32) (h : k < b.length) :
    run E GP a32l1 (x2 sa sb a b out i k c) = run E GP a32l1 (x2 sa sb a b (out.set (i + k) ((c + (dig a i * dig b k + out.getD (i + k) 0)) % B32)) i (k + 1) ((c + (dig a i * dig b k + out.getD (i + k) 0)) / B32)) := by
  have da := dig_lt ha i
  have db := dig_lt hb k
  have dd := dig_lt ho (i + k)
  have hik : i + k < out.length := by omega
  have ed : dig out (i + k) = out.getD (i + k) 0 := by unfold dig; rw [if_pos hik]
  rw [ed] at dd
  have hmul : dig a i * dig b k ≤ 4294967295 * 4294967295 := Nat.mul_le_mul (by simp only [B32] at da; omega) (by simp only [B32] at db; omega)
  simp only [B32] at da db dd hc
  have wk : IntKind.i64.wrap ((k : Int) + 1) = ((k + 1 : Nat) : Int) := i64a (by omega)
  have wik : IntKind.i64.wrap ((i : Int) + (k : Int)) = ((i + k : Nat) : Int) := by rw [i64w (by omega)]; omega
  have g3 := limb_get hik
  have wo := u64n (n := out.getD (i + k) 0) (by omega)
  have hlen : ((i + k : Nat) : Int) < ((out.length : Nat) : Int) := by omega
  have wq := fdiv32 (c + (dig a i * dig b k + out.getD (i + k) 0))
  have wr := u32n (c + (dig a i * dig b k + out.getD (i + k) 0))
  have g2 := limb_get h
  have e2 : dig b k = b.getD k 0 := by unfold dig; rw [if_pos h]
  rw [← e2] at g2
  have k2 : (k : Int) < (b.length : Int) := by omega
  have wa := u64n (n := dig a i) (by omega)
  have wb := u64n (n := dig b k) (by omega)
  have wm : IntKind.u64.wrap ((dig a i : Int) * (dig b k : Int)) = ((dig a i * dig b k : Nat) : Int) := by
    rw [← Int.natCast_mul]; exact u64n (by omega)
  have ws := u64a (x := dig a i * dig b k) (y := out.getD (i + k) 0) (by omega)
  have w1 := u64a (x := c) (y := dig a i * dig b k + out.getD (i + k) 0) (by omega)
  conv => lhs; rw [a32l1_run]
  simp (config := {maxSteps := 1000000}) only [sim, sik, sil, reduceIte, reduceCtorEq, Nat.reduceAdd, Nat.reduceSub, Nat.reduceMul, Nat.reduceLT, Nat.reduceLeDiff, Int.reduceLT, Int.reduceLE, Int.reduceGT, Int.reduceGE, Int.reduceEq, Int.reduceNe, Int.reduceAdd, Int.reduceSub, Int.reduceNeg, Int.cast_ofNat_Int, Int.natCast_nonneg, Int.toNat_natCast, Int.reduceToNat, Int.toNat_zero, Nat.le_refl, Int.le_refl, List.take_length, Z_size, Z_known, Z_isA, Z_ref, Z_under, Z_solid, fz_Z, headSize_limbs, fz_limbs, refs_limbs, solids_limbs, List.length_map, List.contains_cons, List.contains_nil, Nat.reduceBEq, Bool.true_beq, Bool.false_beq, x2, zl, a32b1, a32r7_ev, a32r8_ev, a32r9_ev, a32r10_ev, a32r11_ev, a32r12_ev, k2, wk, wik, g2, g3, limbA, wo, w1, hlen, wa, wb, wm, ws, wq, wr, List.map_set, List.length_set]

theorem x2_exit (sa sb : Bool) (a b out : List Nat) (i c : Nat) :
    run E GP a32l1 (x2 sa sb a b out i b.length c) = some (.exit 2, { vars := [zl sa a, zl sb b, .sl 0 0 1 0 out.length, .int .i64 i, .int .u32 (dig a i), .int .u64 c, .u, .u, .isl (a.map limbA), .int .i64 a.length, .int .i64 i, .bool true, .isl (b.map limbA), .int .i64 b.length, .int .i64 b.length, .bool false, zl sa a, zl sb b, .agg [.bool false, .isl []]], heap := [.arr 0 1 (out.map limbA)], rs := false }) := by
  have k2 : ¬ (b.length : Int) < (b.length : Int) := by omega
  rw [a32l1_run]
  simp (config := {maxSteps := 1000000}) only [sim, sik, sil, reduceIte, reduceCtorEq, Nat.reduceAdd, Nat.reduceSub, Nat.reduceMul, Nat.reduceLT, Nat.reduceLeDiff, Int.reduceLT, Int.reduceLE, Int.reduceGT, Int.reduceGE, Int.reduceEq, Int.reduceNe, Int.reduceAdd, Int.reduceSub, Int.reduceNeg, Int.cast_ofNat_Int, Int.natCast_nonneg, Int.toNat_natCast, Int.reduceToNat, Int.toNat_zero, Nat.le_refl, Int.le_refl, List.take_length, Z_size, Z_known, Z_isA, Z_ref, Z_under, Z_solid, fz_Z, headSize_limbs, fz_limbs, refs_limbs, solids_limbs, List.length_map, List.contains_cons, List.contains_nil, Nat.reduceBEq, Bool.true_beq, Bool.false_beq, x2, zl, a32b1, a32r7_ev, k2]

theorem take_getD (l : List Nat) (w j : Nat) (h : j < w) : (l.take w).getD j 0 = l.getD j 0 := by
  simp [List.getD, List.getElem?_take, h]

theorem x2_row (sa sb : Bool) (a b : List Nat) (ha : ∀ d ∈ a, d < B32) (hb : ∀ d ∈ b, d < B32) (la : a.length < 1073741824) (lb : b.length < 1073741824) (i : Nat) (hi : i < a.length) (out0 : List Nat) :
    ∀ (n k c : Nat) (out : List Nat), b.length = k + n → out.length = a.length + b.length → (∀ d ∈ out, d < B32) → c < B32 →
    val (out.take (i + b.length)) + B32 ^ (i + k) * c = val (out0.take (i + b.length)) + B32 ^ i * (dig a i * val (b.take k)) →
    ∃ (out' : List Nat) (c' : Nat), run E GP a32l1 (x2 sa sb a b out i k c) = some (.exit 2, { vars := [zl sa a, zl sb b, .sl 0 0 1 0 out'.length, .int .i64 i, .int .u32 (dig a i), .int .u64 (c' : Nat), .u, .u, .isl (a.map limbA), .int .i64 a.length, .int .i64 i, .bool true, .isl (b.map limbA), .int .i64 b.length, .int .i64 b.length, .bool false, zl sa a, zl sb b, .agg [.bool false, .isl []]], heap := [.arr 0 1 (out'.map limbA)], rs := false }) ∧
      out'.length = a.length + b.length ∧ (∀ d ∈ out', d < B32) ∧ c' < B32 ∧ val (out'.take (i + b.length)) + B32 ^ (i + b.length) * c' = val (out0.take (i + b.length)) + B32 ^ i * (dig a i * val b) := by
  intro n
  induction n with
  | zero =>
    intro k c out h1 h2 h3 h4 h5
    have hk : k = b.length := by omega
    subst hk
    rw [List.take_length] at h5
    exact ⟨out, c, x2_exit sa sb a b out i c, h2, h3, h4, h5⟩
  | succ n ih =>
    intro k c out h1 h2 h3 h4 h5
    have hk : k < b.length := by omega
    have da := dig_lt ha i
    have db := dig_lt hb k
    have dd := dig_lt h3 (i + k)
    have ed : dig out (i + k) = out.getD (i + k) 0 := by unfold dig; rw [if_pos (by omega)]
    rw [ed] at dd
    have hmul : dig a i * dig b k ≤ 4294967295 * 4294967295 := Nat.mul_le_mul (by simp only [B32] at da; omega) (by simp only [B32] at db; omega)
    rw [x2_round sa sb a b ha hb out h3 la lb i k c hi h2 h4 hk]
    have hs := val_set (out.take (i + b.length)) (i + k) ((c + (dig a i * dig b k + out.getD (i + k) 0)) % B32) (by rw [List.length_take]; omega)
    rw [take_getD _ _ _ (by omega), ← List.take_set] at hs
    have hdm := Nat.div_add_mod (c + (dig a i * dig b k + out.getD (i + k) 0)) B32
    have hq : (c + (dig a i * dig b k + out.getD (i + k) 0)) / B32 < B32 := by simp only [B32] at *; omega
    have hm : (c + (dig a i * dig b k + out.getD (i + k) 0)) % B32 < B32 := Nat.mod_lt _ (by decide)
    generalize (c + (dig a i * dig b k + out.getD (i + k) 0)) / B32 = q at *
    generalize (c + (dig a i * dig b k + out.getD (i + k) 0)) % B32 = m at *
    refine ih (k + 1) q (out.set (i + k) m) (by omega) (by simp [h2]) (fun d hd => ?_) hq ?_
    · rcases List.mem_or_eq_of_mem_set hd with hd | rfl
      · exact h3 d hd
      · exact hm
    · rw [take_dig, Nat.mul_add, Nat.mul_add, ← Nat.add_assoc (val _), ← h5]
      have e1 : B32 ^ i * (dig a i * (B32 ^ k * dig b k)) = B32 ^ (i + k) * (dig a i * dig b k) := by
        rw [Nat.pow_add, Nat.mul_left_comm (dig a i), Nat.mul_assoc]
      have e2 : B32 ^ (i + (k + 1)) * q + B32 ^ (i + k) * m = B32 ^ (i + k) * c + B32 ^ (i + k) * (dig a i * dig b k) + B32 ^ (i + k) * out.getD (i + k) 0 := by
        rw [← Nat.add_assoc, Nat.pow_succ, Nat.mul_assoc, ← Nat.mul_add, hdm, Nat.mul_add, Nat.mul_add, Nat.add_assoc]
      rw [e1]
      omega
end Tor
