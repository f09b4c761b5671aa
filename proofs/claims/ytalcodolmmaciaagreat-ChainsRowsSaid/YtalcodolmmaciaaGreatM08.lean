/-
  A part of the proof: an abstract machine for the program, its soundness, and what the functions compute (Fb3, Fb4, Fb5, Gd1, Gd2, Cx7, Gd3, Gd4, Gd5, Pk1, Pk2).
  Conditions: none.
-/
import Derived.Test.YtalcodolmmaciaaGreatM05
import Derived.Test.YtalcodolmmaciaaGreatM07
set_option linter.unusedSectionVars false
set_option linter.unusedVariables false
set_option linter.unusedSimpArgs false
set_option linter.defProp false
namespace Tor
open Go
def ek (b : Nat) : Nat → Nat
  | 0 => b
  | n + 1 => 2 * ek b n + 4
theorem ek_mono (b n : Nat) : ∀ k, ek b n ≤ ek b (n + k)
  | 0 => Nat.le_refl _
  | k + 1 => by have := ek_mono b n k; rw [← Nat.add_assoc]; simp only [ek]; omega
theorem ek_le (b : Nat) {n m : Nat} (h : n ≤ m) : ek b n ≤ ek b m := by
  have := ek_mono b n (m - n); rwa [Nat.add_sub_cancel' h] at this
def pk (b n : Nat) : Nat := 2 ^ ek b n
theorem pk_le (b : Nat) {n m : Nat} (h : n ≤ m) : pk b n ≤ pk b m := Nat.pow_le_pow_right (by decide) (ek_le b h)
theorem pk_pos (b n : Nat) : 1 ≤ pk b n := Nat.one_le_two_pow
theorem pk_step (b n : Nat) : 12 * pk b n * pk b n ≤ pk b (n + 1) := by
  unfold pk
  rw [show ek b (n + 1) = 4 + (ek b n + ek b n) by simp only [ek]; omega, Nat.pow_add, Nat.pow_add, Nat.mul_assoc]
  exact Nat.mul_le_mul_right _ (by decide)
def OO (R C : Nat) (Rl : MP) (b c top : Nat) : MP := fun M U V => (top ≤ c ∧ c ≤ C) ∧ Base R C Rl c top M U V ∧ B3 M U V (pk b (top * (R - 1)))
def PO (R C : Nat) (Rl : MP) (b c top i : Nat) : MP := fun M U V => Base R C Rl c top M U V ∧ (∀ a, top < a → a < i → at2 M a c = 0) ∧
  (B3 M U V (pk b (top * (R - 1))) ∨ (at2 M top c ≠ 0 ∧ B3 M U V (pk b (top * (R - 1) + (i - top - 1)))))
def QO (R C : Nat) (Rl : MP) (b c top i : Nat) : MP := fun M U V => Base R C Rl c top M U V ∧ (∀ a, top < a → at2 M a c = 0) ∧ at2 M top c ≠ 0 ∧
  B3 M U V (pk b (top * (R - 1) + (R - 1 - top) + i))
theorem po_b3 {R C Rl b c top i M U V} (h : PO R C Rl b c top i M U V) : B3 M U V (pk b (top * (R - 1) + (i - top - 1))) := by
  rcases h.2.2 with h | ⟨_, h⟩
  · exact b3_mono (pk_le b (Nat.le_add_right _ _)) h
  · exact h
theorem elim_ok {R C : Nat} {Rl : MP} (hR : RelOk R C Rl) {b c top : Nat} (ht : top < R) (hbig : pk b ((top + 1) * (R - 1)) < BIG) : ElimOk R top c (PO R C Rl b c top) := by
  intro i M U V hti hi hp
  have hn : top * (R - 1) + (i - top - 1) + 1 ≤ (top + 1) * (R - 1) := by rw [Nat.succ_mul]; omega
  have hs := pk_step b (top * (R - 1) + (i - top - 1))
  have hpos := pk_pos b (top * (R - 1) + (i - top - 1))
  have hle := pk_le b hn
  refine ⟨fun M U V => PO R C Rl b c top i M U V ∨ Mid R C Rl c top i (pk b (top * (R - 1) + (i - top - 1))) M U V, .inl hp, fun M U V h => ?_, fun M U V h hy => .inr ?_, fun M U V h hy => ?_⟩
  · rcases h with h | h
    · exact fits_b3 (Nat.lt_of_le_of_lt (pk_le b (by omega)) hbig) (po_b3 h)
    · exact fits_b3 (by omega) (mid_b3 hpos h)
  · rcases h with h | h
    · exact mid_first hR ht hi hti hpos h.1 h.2.1 (po_b3 h) hy
    · exact mid_next hR ht hi hti hpos h hy
  · have ez : ∀ M : List (List Int), at2 M i c = 0 → (∀ a, top < a → a < i → at2 M a c = 0) → ∀ a, top < a → a < i + 1 → at2 M a c = 0 := fun M h0 h a h1 h2 => by
      by_cases e : a = i
      · rw [e]; exact h0
      · exact h a h1 (by omega)
    have en : i + 1 - top - 1 = i - top - 1 + 1 := by omega
    rcases h with h | h
    · refine ⟨h.1, ez M hy h.2.1, ?_⟩
      rcases h.2.2 with g | ⟨g1, g2⟩
      · exact .inl g
      · exact .inr ⟨g1, b3_mono (pk_le b (by omega)) g2⟩
    · refine ⟨h.b, ez M hy h.zc, .inr ⟨h.t0, b3_mono ?_ (mid_b3 hpos h)⟩⟩
      rw [en, ← Nat.add_assoc]; exact hs
theorem ediv_abs (a b : Int) (hb : b ≠ 0) : (a / b).natAbs ≤ a.natAbs := by
  have e := Int.emod_add_mul_ediv a b
  have n0 := Int.emod_nonneg a hb
  have n1 := Int.emod_lt (a := a) hb
  rcases Int.lt_trichotomy a 0 with h | h | h
  · by_cases hb0 : 0 < b
    · have h1 : a ≤ a / b := by
        have := (Int.le_ediv_iff_mul_le (a := a) (b := a) hb0).2 (by
          have : a * b ≤ a * 1 := Int.mul_le_mul_of_nonpos_left (by omega) (by omega)
          omega)
        exact this
      have h2 : a / b ≤ 0 := by
        have := Int.ediv_le_ediv hb0 (show a ≤ 0 by omega)
        rwa [Int.zero_ediv] at this
      omega
    · have hb1 : 0 < -b := by omega
      rw [← Int.neg_neg b, Int.ediv_neg, Int.natAbs_neg]
      have h1 : a ≤ a / (-b) := by
        have := (Int.le_ediv_iff_mul_le (a := a) (b := a) hb1).2 (by
          have : a * (-b) ≤ a * 1 := Int.mul_le_mul_of_nonpos_left (by omega) (by omega)
          omega)
        exact this
      have h2 : a / (-b) ≤ 0 := by
        have := Int.ediv_le_ediv hb1 (show a ≤ 0 by omega)
        rwa [Int.zero_ediv] at this
      omega
  · subst h; simp
  · by_cases hb0 : 0 < b
    · have h1 := Int.ediv_nonneg (show 0 ≤ a by omega) (show 0 ≤ b by omega)
      have h2 := Int.ediv_le_self b (show 0 ≤ a by omega)
      omega
    · rw [← Int.neg_neg b, Int.ediv_neg, Int.natAbs_neg]
      have h1 := Int.ediv_nonneg (show 0 ≤ a by omega) (show 0 ≤ -b by omega)
      have h2 := Int.ediv_le_self (-b) (show 0 ≤ a by omega)
      omega
theorem red_le {x y f : Int} {m : Nat} (hx : x.natAbs ≤ m) (hy : y.natAbs ≤ m) (hf : f.natAbs ≤ m) (hm : 1 ≤ m) : (x + -f * y).natAbs ≤ 12 * m * m ∧ (x - -f * y).natAbs ≤ 12 * m * m := by
  have h1 : (f * y).natAbs ≤ m * m := by rw [Int.natAbs_mul]; exact Nat.mul_le_mul hf hy
  have h2 : m * 1 ≤ m * m := Nat.mul_le_mul_left _ hm
  have h3 : 12 * m * m = 12 * (m * m) := Nat.mul_assoc ..
  rw [Int.neg_mul]
  constructor <;> omega
theorem m_le {m : Nat} (hm : 1 ≤ m) : m ≤ 12 * m * m := by
  have h2 : m * 1 ≤ m * m := Nat.mul_le_mul_left _ hm
  have h3 : 12 * m * m = 12 * (m * m) := Nat.mul_assoc ..
  omega
theorem bm_add {R C : Nat} {M : List (List Int)} (h : Sha R C M) {i j : Nat} (hi : i < R) (hj : j < R) {f : Int} {m : Nat} (hb : Bm M m) (hf : f.natAbs ≤ m) (hm : 1 ≤ m) : Bm (addRow M i j (-f)) (12 * m * m) := by
  intro a t
  rw [at2_addRow h hi hj]
  split
  · exact (red_le (hb i t) (hb j t) hf hm).1
  · exact Nat.le_trans (hb a t) (m_le hm)
theorem bm_sub {R C : Nat} {M : List (List Int)} (h : Sha R C M) {i j : Nat} (hj : j < C) {f : Int} {m : Nat} (hb : Bm M m) (hf : f.natAbs ≤ m) (hm : 1 ≤ m) : Bm (subCol M i j (-f)) (12 * m * m) := by
  intro a t
  rw [at2_subCol h hj]
  split
  · exact (red_le (hb a j) (hb a i) hf hm).2
  · exact Nat.le_trans (hb a t) (m_le hm)
theorem reduce_ok {R C : Nat} {Rl : MP} (hR : RelOk R C Rl) {b c top : Nat} (ht : top < R) (hbig : pk b ((top + 1) * (R - 1)) < BIG) : ReduceOk top c (QO R C Rl b c top) := by
  intro i M U V hi ⟨hB, hz, h0, hb⟩
  have hiR : i < R := by omega
  have hne : i ≠ top := by omega
  have hn : top * (R - 1) + (R - 1 - top) + i + 1 ≤ (top + 1) * (R - 1) := by rw [Nat.succ_mul]; omega
  have hs := pk_step b (top * (R - 1) + (R - 1 - top) + i)
  have hpos := pk_pos b (top * (R - 1) + (R - 1 - top) + i)
  have hf : (at2 M i c / at2 M top c).natAbs ≤ pk b (top * (R - 1) + (R - 1 - top) + i) := Nat.le_trans (ediv_abs _ _ h0) (hb.1 i c)
  have he : ∀ a t, at2 (addRow M i top (-(at2 M i c / at2 M top c))) a t = if a = i then at2 M i t + -(at2 M i c / at2 M top c) * at2 M top t else at2 M a t := fun a t => at2_addRow hB.sM hiR ht _ a t
  refine ⟨fits_b3 (Nat.lt_of_le_of_lt (pk_le b (by omega)) hbig) hb, h0, ⟨shp_addRow hB.sM hiR ht _, shp_addRow hB.sU hiR ht _, shp_subCol hB.sV _ _ _, hR.add _ _ _ _ _ _ hB.sM hB.sU hB.sV hiR ht hne hB.rl, fun a t h1 h2 => ?_, fun j hj => ?_⟩, fun a ha => ?_, ?_, ?_⟩
  · rw [he, if_neg (by omega)]; exact hB.z a t h1 h2
  · obtain ⟨p, hp, hv⟩ := hB.nz j hj
    refine ⟨p, hp, ?_⟩
    rw [he]
    split
    · rename_i e
      subst e
      rw [hB.z top p (Nat.le_refl _) hp, Int.mul_zero, Int.add_zero]; exact hv
    · exact hv
  · rw [he, if_neg (by omega)]; exact hz a ha
  · rw [he, if_neg (by omega)]; exact h0
  · rw [← Nat.add_assoc]
    exact b3_mono hs ⟨bm_add hB.sM hiR ht hb.1 hf hpos, bm_add hB.sU hiR ht hb.2.1 hf hpos, bm_sub hB.sV ht hb.2.2 hf hpos⟩
theorem form_ok {R C : Nat} {Rl : MP} (hR : RelOk R C Rl) {b : Nat} (hbig : pk b (min R C * (R - 1)) < BIG) : FormOk R C (OO R C Rl b) := by
  intro c top M U V hc ht ⟨⟨htc, _⟩, hB, hb⟩
  have hbig2 : pk b ((top + 1) * (R - 1)) < BIG := Nat.lt_of_le_of_lt (pk_le b (Nat.mul_le_mul_right _ (by omega))) hbig
  have hsm : (top + 1) * (R - 1) = top * (R - 1) + (R - 1) := Nat.succ_mul _ _
  refine ⟨PO R C Rl b c top, ⟨hB, fun a h1 h2 => by omega, .inl hb⟩, elim_ok hR ht hbig2, fun M U V hp => ⟨fits_b3 (Nat.lt_of_le_of_lt (pk_le b (by omega)) hbig2) (po_b3 hp), fun h0 => ?_, fun h0 => ?_⟩⟩
  · obtain ⟨g1, g2, g3⟩ := hp
    refine ⟨⟨by omega, by omega⟩, ⟨g1.sM, g1.sU, g1.sV, g1.rl, fun a t h1 h2 => ?_, fun j hj => ?_⟩, ?_⟩
    · by_cases e : t = c
      · subst e
        by_cases e2 : a = top
        · rw [e2]; exact h0
        · rcases Nat.lt_or_ge a R with h3 | h3
          · exact g2 a (by omega) h3
          · exact at2_out g1.sM (.inl h3)
      · exact g1.z a t h1 (by omega)
    · obtain ⟨p, hp, hv⟩ := g1.nz j hj
      exact ⟨p, by omega, hv⟩
    · rcases g3 with g3 | ⟨g3, _⟩
      · exact g3
      · exact absurd h0 g3
  · have hpb := po_b3 hp
    obtain ⟨g1, g2, g3⟩ := hp
    have g2' : ∀ a, top < a → at2 M a c = 0 := fun a ha => by
      rcases Nat.lt_or_ge a R with h3 | h3
      · exact g2 a ha h3
      · exact at2_out g1.sM (.inl h3)
    refine ⟨QO R C Rl b c top, reduce_ok hR ht hbig2, ?_, fun M U V ⟨k1, k2, k3, k4⟩ => ⟨⟨by omega, by omega⟩, ⟨k1.sM, k1.sU, k1.sV, k1.rl, fun a t h1 h2 => ?_, fun j hj => ?_⟩, ?_⟩⟩
    · have hlev : B3 M U V (pk b (top * (R - 1) + (R - 1 - top) + 0)) := b3_mono (pk_le b (by omega)) hpb
      unfold sgnRow sgnCol
      by_cases hs : at2 M top c < 0
      · rw [if_pos hs, if_pos hs, if_pos hs]
        have e1 := fun a t => at2_neg g1.sM ht a t
        have e2 := fun a t => at2_neg g1.sU ht a t
        have e3 := fun a t => at2_negCol g1.sV ht a t
        refine ⟨⟨shp_neg g1.sM ht, shp_neg g1.sU ht, shp_negCol g1.sV _, hR.neg _ _ _ _ g1.sM g1.sU g1.sV ht g1.rl, fun a t h1 h2 => ?_, fun j hj => ?_⟩, fun a ha => ?_, ?_, fun a t => ?_, fun a t => ?_, fun a t => ?_⟩
        · rw [e1, g1.z top t (Nat.le_refl _) h2, g1.z a t h1 h2]; simp
        · obtain ⟨p, hp, hv⟩ := g1.nz j hj
          exact ⟨p, hp, by rw [e1, if_neg (by omega)]; exact hv⟩
        · rw [e1, if_neg (by omega)]; exact g2' a ha
        · rw [e1, if_pos rfl]; omega
        · rw [e1]; split
          · rw [Int.natAbs_neg]; exact hlev.1 top t
          · exact hlev.1 a t
        · rw [e2]; split
          · rw [Int.natAbs_neg]; exact hlev.2.1 top t
          · exact hlev.2.1 a t
        · rw [e3]; split
          · rw [Int.natAbs_neg]; exact hlev.2.2 a top
          · exact hlev.2.2 a t
      · rw [if_neg hs, if_neg hs, if_neg hs]
        exact ⟨g1, g2', h0, hlev⟩
    · by_cases e : t = c
      · subst e; exact k2 a (by omega)
      · exact k1.z a t (by omega) (by omega)
    · by_cases e : j = top
      · subst e; exact ⟨c, by omega, k3⟩
      · obtain ⟨p, hp, hv⟩ := k1.nz j (by omega)
        exact ⟨p, by omega, hv⟩
    · rw [hsm]
      exact b3_mono (pk_le b (by omega)) k4
end Tor
namespace Tor
open Go
def sumN : Nat → (Nat → Int) → Int
  | 0, _ => 0
  | n + 1, f => sumN n f + f n
theorem sumN_congr {n : Nat} {f g : Nat → Int} (h : ∀ k, k < n → f k = g k) : sumN n f = sumN n g := by
  induction n with
  | zero => rfl
  | succ n ih => rw [sumN, sumN, ih (fun k hk => h k (by omega)), h n (by omega)]
theorem sumN_zero {n : Nat} {f : Nat → Int} (h : ∀ k, k < n → f k = 0) : sumN n f = 0 := by
  induction n with
  | zero => rfl
  | succ n ih => rw [sumN, ih (fun k hk => h k (by omega)), h n (by omega)]; rfl
theorem sumN_add (n : Nat) (f g : Nat → Int) : sumN n (fun k => f k + g k) = sumN n f + sumN n g := by
  induction n with
  | zero => rfl
  | succ n ih => simp only [sumN, ih]; omega
theorem sumN_mul (n : Nat) (c : Int) (f : Nat → Int) : sumN n (fun k => c * f k) = c * sumN n f := by
  induction n with
  | zero => simp [sumN]
  | succ n ih => simp only [sumN, ih, Int.mul_add]
theorem sumN_mulr (n : Nat) (c : Int) (f : Nat → Int) : sumN n (fun k => f k * c) = sumN n f * c := by
  induction n with
  | zero => simp [sumN]
  | succ n ih => simp only [sumN, ih, Int.add_mul]
theorem sumN_neg (n : Nat) (f : Nat → Int) : sumN n (fun k => -f k) = -sumN n f := by
  induction n with
  | zero => rfl
  | succ n ih => simp only [sumN, ih]; omega
theorem sumN_one {n i : Nat} {f g : Nat → Int} (hi : i < n) (h : ∀ k, k < n → k ≠ i → g k = f k) : sumN n g = sumN n f + (g i - f i) := by
  induction n with
  | zero => omega
  | succ n ih =>
    rw [sumN, sumN]
    by_cases e : i = n
    · subst e
      rw [sumN_congr (fun k hk => h k (by omega) (by omega))]; omega
    · rw [ih (by omega) (fun k hk => h k (by omega)), h n (by omega) (fun e2 => e e2.symm)]; omega
theorem sumN_two {n i j : Nat} {f g : Nat → Int} (hi : i < n) (hj : j < n) (hij : i ≠ j) (h : ∀ k, k < n → k ≠ i → k ≠ j → g k = f k) : sumN n g = sumN n f + (g i - f i) + (g j - f j) := by
  have h1 := sumN_one (f := f) (g := fun k => if k = i then g i else f k) hi (fun k _ hk => if_neg hk)
  have h2 := sumN_one (f := fun k => if k = i then g i else f k) (g := g) hj (fun k hk hkj => by
    by_cases e : k = i
    · subst e; simp
    · simp only [if_neg e]; exact h k hk e hkj)
  rw [h2, h1]
  simp only [if_pos rfl, if_neg (fun e : j = i => hij e.symm), if_true]
theorem sumN_comm (m n : Nat) (f : Nat → Nat → Int) : sumN m (fun a => sumN n (f a)) = sumN n (fun b => sumN m (fun a => f a b)) := by
  induction m with
  | zero => simp only [sumN]; rw [sumN_zero (fun _ _ => rfl)]
  | succ m ih => simp only [sumN, ih, sumN_add]
def mulE (n : Nat) (X Y : List (List Int)) (i t : Nat) : Int := sumN n fun k => at2 X i k * at2 Y k t
def RlA (R : Nat) (A : List (List Int)) : MP := fun M U V => (∀ i t, at2 M i t = mulE R U A i t) ∧ (∀ i t, at2 A i t = mulE R V M i t)
theorem rlA_ok (R C : Nat) (A : List (List Int)) : RelOk R C (RlA R A) where
  add := fun M U V i j k sM sU sV hi hj hij h => by
    refine ⟨fun a t => ?_, fun a t => ?_⟩
    · rw [at2_addRow sM hi hj]
      by_cases e : a = i
      · subst e
        rw [if_pos rfl, h.1 a t, h.1 j t]
        unfold mulE
        rw [← sumN_mul, ← sumN_add]
        apply sumN_congr
        intro s _
        rw [at2_addRow sU hi hj, if_pos rfl, Int.add_mul, Int.mul_assoc]
      · rw [if_neg e, h.1 a t]
        apply sumN_congr
        intro s _
        rw [at2_addRow sU hi hj, if_neg e]
    · rw [h.2 a t]
      unfold mulE
      symm
      rw [sumN_two (f := fun s => at2 V a s * at2 M s t) hi hj hij (fun s _ h1 h2 => by rw [at2_subCol sV hj, if_neg h2, at2_addRow sM hi hj, if_neg h1])]
      rw [at2_subCol sV hj, if_neg hij, at2_addRow sM hi hj, if_pos rfl, at2_subCol sV hj, if_pos rfl, at2_addRow sM hi hj, if_neg (fun e => hij e.symm)]
      rw [Int.mul_add, Int.sub_mul]
      have : at2 V a i * (k * at2 M j t) = k * at2 V a i * at2 M j t := by rw [← Int.mul_assoc, Int.mul_comm (at2 V a i) k]
      omega
  swap := fun M U V i j sM sU sV hi hj hij h => by
    refine ⟨fun a t => ?_, fun a t => ?_⟩
    · rw [at2_swap sM hi hj, h.1]
      apply sumN_congr
      intro s _
      rw [at2_swap sU hi hj]
    · rw [h.2 a t]
      unfold mulE
      symm
      rw [sumN_two (f := fun s => at2 V a s * at2 M s t) hi hj hij (fun s _ h1 h2 => by
        rw [at2_swapCol sV hi hj, at2_swap sM hi hj]; unfold sw; rw [if_neg h2, if_neg h1])]
      rw [at2_swapCol sV hi hj, at2_swap sM hi hj, at2_swapCol sV hi hj, at2_swap sM hi hj]
      unfold sw
      rw [if_neg hij, if_pos rfl, if_pos rfl]
      omega
  neg := fun M U V i sM sU sV hi h => by
    refine ⟨fun a t => ?_, fun a t => ?_⟩
    · rw [at2_neg sM hi]
      by_cases e : a = i
      · subst e
        rw [if_pos rfl, h.1 a t]
        unfold mulE
        rw [← sumN_neg]
        apply sumN_congr
        intro s _
        rw [at2_neg sU hi, if_pos rfl, Int.neg_mul]
      · rw [if_neg e, h.1 a t]
        apply sumN_congr
        intro s _
        rw [at2_neg sU hi, if_neg e]
    · rw [h.2 a t]
      apply sumN_congr
      intro s _
      rw [at2_negCol sV hi, at2_neg sM hi]
      by_cases e : s = i
      · subst e; rw [if_pos rfl, if_pos rfl, Int.neg_mul_neg]
      · rw [if_neg e, if_neg e]
theorem at2_id (R : Nat) (i t : Nat) : at2 (idMat R) i t = if i = t ∧ i < R then 1 else 0 := by
  unfold at2 idMat
  rcases Nat.lt_or_ge i R with hi | hi
  · have e : ((List.range R).map (idRow R)).getD i [] = idRow R i := by simp [List.getD, hi]
    rw [e]; unfold idRow
    by_cases ht : i = t
    · subst ht; rw [if_pos ⟨rfl, hi⟩, gets_self _ _ _ _ (by simpa using hi)]
    · rw [if_neg (fun h => ht h.1), gets_ne _ _ _ _ _ ht]
      simp only [List.getD, List.getElem?_replicate]; split <;> rfl
  · have e : ((List.range R).map (idRow R)).getD i [] = [] := by rw [List.getD, List.getElem?_eq_none (by simpa using hi)]; rfl
    rw [e, if_neg (fun h => by omega)]; rfl
theorem shp_id (R : Nat) : Sha R R (idMat R) := by
  refine ⟨by simp [idMat], fun i hi => ?_⟩
  have e : (idMat R).getD i [] = idRow R i := by simp [idMat, List.getD, hi]
  rw [e]; simp [idRow]
theorem mulE_idl {R C : Nat} {A : List (List Int)} (h : Sha R C A) (i t : Nat) : mulE R (idMat R) A i t = at2 A i t := by
  unfold mulE
  rcases Nat.lt_or_ge i R with hi | hi
  · rw [sumN_one (f := fun _ => 0) hi (fun k _ hk => by rw [at2_id, if_neg (fun e => hk e.1.symm), Int.zero_mul])]
    rw [sumN_zero (fun _ _ => rfl), at2_id, if_pos ⟨rfl, hi⟩]; omega
  · rw [at2_out h (.inl hi), sumN_zero (fun k _ => by rw [at2_id, if_neg (fun e => by omega), Int.zero_mul])]
theorem rlA_id {R C : Nat} {A : List (List Int)} (h : Sha R C A) : RlA R A A (idMat R) (idMat R) :=
  ⟨fun i t => (mulE_idl h i t).symm, fun i t => (mulE_idl h i t).symm⟩
theorem bm_id (R : Nat) {m : Nat} (hm : 1 ≤ m) : Bm (idMat R) m := by
  intro i t; rw [at2_id]; split <;> simp; exact hm
theorem nz_row {R C : Nat} {M : List (List Int)} (h : Sha R C M) (i : Nat) : nz (M.getD i []) = true ↔ ∃ t, at2 M i t ≠ 0 := by
  unfold nz at2
  generalize M.getD i [] = x
  rw [List.any_eq_true]
  constructor
  · rintro ⟨y, hy, hv⟩
    obtain ⟨t, ht, rfl⟩ := List.mem_iff_getElem.1 hy
    exact ⟨t, by simp only [List.getD, List.getElem?_eq_getElem ht, Option.getD_some]; simpa using hv⟩
  · rintro ⟨t, ht⟩
    rcases Nat.lt_or_ge t x.length with h1 | h1
    · refine ⟨x[t], List.getElem_mem h1, ?_⟩
      simpa [List.getD, List.getElem?_eq_getElem h1] using ht
    · rw [List.getD, List.getElem?_eq_none h1] at ht; exact absurd rfl ht
theorem rank_is {R C : Nat} {M : List (List Int)} (h : Sha R C M) {r : Nat} (hr : r ≤ R) (h1 : ∀ a, a < r → ∃ t, at2 M a t ≠ 0) (h2 : ∀ a t, r ≤ a → at2 M a t = 0) : rankOf M = r := by
  unfold rankOf
  have e : M = M.take r ++ M.drop r := (List.take_append_drop r M).symm
  rw [e, List.filter_append]
  have a1 : (M.take r).filter nz = M.take r := by
    rw [List.filter_eq_self]
    intro x hx
    obtain ⟨i, hi, rfl⟩ := List.mem_iff_getElem.1 hx
    have hl : i < r ∧ i < M.length := by simpa [List.length_take, Nat.lt_min] using hi
    have := (nz_row h i).2 (h1 i hl.1)
    simpa [List.getD, List.getElem?_eq_getElem hl.2] using this
  have a2 : (M.drop r).filter nz = [] := by
    rw [List.filter_eq_nil_iff]
    intro x hx hn
    obtain ⟨i, hi, rfl⟩ := List.mem_iff_getElem.1 hx
    have hl : r + i < M.length := by rw [List.length_drop] at hi; omega
    rw [List.getElem_drop] at hn
    have : nz (M.getD (r + i) []) = true := by simpa [List.getD, List.getElem?_eq_getElem hl] using hn
    obtain ⟨t, ht⟩ := (nz_row h (r + i)).1 this
    exact ht (h2 (r + i) t (by omega))
  rw [a1, a2, List.append_nil, List.length_take, h.1]; omega
end Tor
namespace Tor
open Go
theorem bm_fit {R C : Nat} {A : List (List Int)} (h : Sha R C A) {m : Nat} (hm : m < BIG) (hb : Bm A m) : ∀ i, i < R → ∀ y ∈ A.getD i [], Fit y := by
  intro i hi y hy
  obtain ⟨t, ht, rfl⟩ := List.mem_iff_getElem.1 hy
  have := hb i t
  have e : at2 A i t = (A.getD i [])[t] := by
    unfold at2
    generalize A.getD i [] = x at *
    simp [List.getD, ht]
  rw [e] at this
  exact fit_big (Nat.lt_of_le_of_lt this hm)
variable {E : CallF} (hE : Free E)
include hE
theorem form_sized (R C b : Nat) (hR : R < 2147483648) (hC : C < 2147483648) {A : List (List Int)} (hA : Sha R C A) (hb : Bm A (2 ^ b)) (hbig : pk b (min R C * (R - 1)) < BIG) :
    ∃ M U V, rankOf M ≤ R ∧ rankOf M ≤ C ∧ Sha R C M ∧ Sha R R U ∧ Sha R R V ∧ B3 M U V (pk b (rankOf M * (R - 1))) ∧ RlA R A M U V ∧ (∀ a t, rankOf M ≤ a → at2 M a t = 0) ∧
      ∀ H, call E GP 74 [MI R C A] H = some (.agg [MI R C M, MI R R U, MI R R V], H, false) := by
  have h0 : OO R C (RlA R A) b 0 0 A (idMat R) (idMat R) := by
    refine ⟨⟨Nat.le_refl _, Nat.zero_le _⟩, ⟨hA, shp_id R, shp_id R, rlA_id hA, fun a t _ h => by omega, fun j h => by omega⟩, ?_⟩
    have e : pk b (0 * (R - 1)) = 2 ^ b := by rw [Nat.zero_mul]; rfl
    rw [e]
    exact ⟨hb, bm_id R Nat.one_le_two_pow, bm_id R Nat.one_le_two_pow⟩
  have hlt : 2 ^ b < BIG := Nat.lt_of_le_of_lt (pk_le b (Nat.zero_le _)) hbig
  obtain ⟨c, top, M, U, V, ⟨⟨o1, o1'⟩, o2, o3⟩, q1, q2, q3, q4, q5, q6, q7, q8⟩ := r12_form hE R C hR hC A hA.1 hA.2 (bm_fit hA hlt hb) (OO R C (RlA R A) b) (form_ok (rlA_ok R C A) hbig) h0
  have htop : top ≤ R := by
    rcases Nat.lt_or_ge R top with h | h
    · obtain ⟨p, _, hp⟩ := o2.nz R h
      exact absurd (at2_out o2.sM (.inl (Nat.le_refl _))) hp
    · exact h
  have hz : ∀ a t, top ≤ a → at2 M a t = 0 := by
    intro a t ha
    rcases q1 with q1 | q1
    · rcases Nat.lt_or_ge t c with h | h
      · exact o2.z a t ha h
      · exact at2_out o2.sM (.inr (by omega))
    · exact at2_out o2.sM (.inl (by omega))
  have hrk : rankOf M = top := rank_is o2.sM htop (fun a ha => by obtain ⟨p, _, hp⟩ := o2.nz a ha; exact ⟨p, hp⟩) hz
  exact ⟨M, U, V, by omega, by omega, o2.sM, o2.sU, o2.sV, by rw [hrk]; exact o3, o2.rl, by rw [hrk]; exact hz, q8⟩
omit hE in
theorem at2_zero_id {R : Nat} {V : List (List Int)} (h : Sha R R V) (i j : Nat) : subCol V i j 0 = V := by
  unfold subCol
  conv => rhs; rw [← List.map_id V]
  apply List.map_congr_left
  intro x hx
  rw [Int.zero_mul, Int.sub_zero]
  apply List.ext_getElem (by simp)
  intro n h1 h2
  by_cases e : j = n
  · subst e; simp [List.getD, show j < x.length by simpa using h2]
  · simp [List.getElem_set_ne e]
omit hE in
theorem addRow_zero {R C : Nat} {M : List (List Int)} (h : Sha R C M) {i j : Nat} (hi : i < R) (hj : j < R) : addRow M i j 0 = M := by
  unfold addRow
  have e : List.zipWith (fun a b => a + 0 * b) (M.getD i []) (M.getD j []) = M.getD i [] := by
    have l1 := h.2 i hi
    have l2 := h.2 j hj
    apply List.ext_getElem (by rw [List.length_zipWith, l1, l2, Nat.min_self])
    intro n h1 h2
    simp
  rw [e]
  apply List.ext_getElem (by simp)
  intro n h1 h2
  by_cases e : i = n
  · subst e; simp [List.getD, h2]
  · simp [List.getElem_set_ne e]
omit hE in
theorem fit_one : Fit 1 := by unfold Fit; decide
omit hE in
theorem fits_id (R : Nat) : AllFit (idMat R) := fun i t => by
  have : Fit (at2 (idMat R) i t) := by rw [at2_id]; split; exact fit_one; exact fit_zero
  exact this
theorem form_zero (R C : Nat) (hR : R < 2147483648) (hC : C < 2147483648) {A : List (List Int)} (hA : Sha R C A) (hz : ∀ i t, at2 A i t = 0) (H : Heap) :
    call E GP 74 [MI R C A] H = some (.agg [MI R C A, MI R R (idMat R), MI R R (idMat R)], H, false) := by
  have hfA : AllFit A := fun i t => by
    have : Fit (at2 A i t) := by rw [hz]; exact fit_zero
    exact this
  have hO : FormOk R C (fun c top M U V => M = A ∧ U = idMat R ∧ V = idMat R) := by
    intro c top M U V hc ht ⟨e1, e2, e3⟩
    subst e1 e2 e3
    refine ⟨fun _ M' U V => M' = M ∧ U = idMat R ∧ V = idMat R, ⟨rfl, rfl, rfl⟩, fun i M' U V h1 h2 h3 => ⟨fun M' U V => M' = M ∧ U = idMat R ∧ V = idMat R, h3, fun M' U V h => ?_, fun M' U V h hn => ?_, fun M' U V h _ => h⟩, fun M' U V h => ⟨?_, fun _ => h, fun hn => ?_⟩⟩
    · obtain ⟨e1, e2, e3⟩ := h; subst e1 e2 e3; exact ⟨hfA, fits_id R, fits_id R⟩
    · obtain ⟨e1, e2, e3⟩ := h; subst e1; exact absurd (hz _ _) hn
    · obtain ⟨e1, e2, e3⟩ := h; subst e1 e2 e3; exact ⟨hfA, fits_id R, fits_id R⟩
    · obtain ⟨e1, e2, e3⟩ := h; subst e1; exact absurd (hz _ _) hn
  obtain ⟨c, top, M, U, V, ⟨e1, e2, e3⟩, _, _, _, _, _, _, _, q⟩ := r12_form hE R C hR hC A hA.1 hA.2 (fun i hi y hy => by
    obtain ⟨t, ht, rfl⟩ := List.mem_iff_getElem.1 hy
    have := hz i t
    unfold at2 at this
    generalize A.getD i [] = x at *
    rw [List.getD, List.getElem?_eq_getElem ht, Option.getD_some] at this
    rw [this]; exact fit_zero) _ hO ⟨rfl, rfl, rfl⟩
  subst e1 e2 e3
  exact q H
theorem form_id (R : Nat) (hR : R < 2147483648) (H : Heap) :
    call E GP 74 [MI R R (idMat R)] H = some (.agg [MI R R (idMat R), MI R R (idMat R), MI R R (idMat R)], H, false) := by
  have hI := shp_id R
  have hO : FormOk R R (fun c top M U V => c = top ∧ M = idMat R ∧ U = idMat R ∧ V = idMat R) := by
    intro c top M U V hc ht ⟨e0, e1, e2, e3⟩
    subst e0 e1 e2 e3
    have hd : at2 (idMat R) c c = 1 := by rw [at2_id, if_pos ⟨rfl, ht⟩]
    refine ⟨fun _ M' U V => M' = idMat R ∧ U = idMat R ∧ V = idMat R, ⟨rfl, rfl, rfl⟩, fun i M' U V h1 h2 h3 => ⟨fun M' U V => M' = idMat R ∧ U = idMat R ∧ V = idMat R, h3, fun M' U V h => ?_, fun M' U V h hn => ?_, fun M' U V h _ => h⟩, fun M' U V h => ⟨?_, fun hn => ?_, fun hn => ?_⟩⟩
    · obtain ⟨e1, e2, e3⟩ := h; subst e1 e2 e3; exact ⟨fits_id R, fits_id R, fits_id R⟩
    · obtain ⟨e1, e2, e3⟩ := h; subst e1
      exact absurd (by rw [at2_id, if_neg (fun e => by omega)]) hn
    · obtain ⟨e1, e2, e3⟩ := h; subst e1 e2 e3; exact ⟨fits_id R, fits_id R, fits_id R⟩
    · obtain ⟨e1, e2, e3⟩ := h; subst e1; rw [hd] at hn; cases hn
    · obtain ⟨e1, e2, e3⟩ := h; subst e1 e2 e3
      refine ⟨fun _ M' U V => M' = idMat R ∧ U = idMat R ∧ V = idMat R, fun i M' U V hi h => ?_, ?_, fun M' U V h => ⟨rfl, h⟩⟩
      · obtain ⟨e1, e2, e3⟩ := h; subst e1 e2 e3
        have hq : -(at2 (idMat R) i c / at2 (idMat R) c c) = 0 := by rw [hd, at2_id, if_neg (fun e => by omega)]; rfl
        refine ⟨⟨fits_id R, fits_id R, fits_id R⟩, by rw [hd]; decide, ?_⟩
        rw [hq, addRow_zero hI (by omega) ht, at2_zero_id hI]
        exact ⟨rfl, rfl, rfl⟩
      · rw [hd]
        unfold sgnRow sgnCol
        rw [if_neg (by decide), if_neg (by decide)]
        exact ⟨rfl, rfl, rfl⟩
  obtain ⟨c, top, M, U, V, ⟨e0, e1, e2, e3⟩, _, _, _, _, _, _, _, q⟩ := r12_form hE R R hR hR (idMat R) hI.1 hI.2 (fun i hi y hy => by
    obtain ⟨t, ht, rfl⟩ := List.mem_iff_getElem.1 hy
    have := fits_id R i t
    generalize (idMat R).getD i [] = x at *
    rwa [List.getD, List.getElem?_eq_getElem ht, Option.getD_some] at this) _ hO ⟨rfl, rfl, rfl, rfl⟩
  subst e1 e2 e3
  exact q H
omit hE in
theorem shp_drop {R C : Nat} {M : List (List Int)} (h : Sha R C M) (r : Nat) : Sha (R - r) C (M.drop r) := by
  refine ⟨by rw [List.length_drop, h.1], fun i hi => ?_⟩
  have := h.2 (r + i) (by omega)
  simpa [List.getD, List.getElem?_drop] using this
omit hE in
theorem at2_drop (M : List (List Int)) (r i t : Nat) : at2 (M.drop r) i t = at2 M (r + i) t := by
  unfold at2; simp [List.getD, List.getElem?_drop]
omit hE in
theorem shp_take {R C : Nat} {M : List (List Int)} (h : Sha R C M) {r : Nat} (hr : r ≤ R) : Sha r C (M.take r) := by
  refine ⟨by rw [List.length_take, h.1]; omega, fun i hi => ?_⟩
  have := h.2 i (by omega)
  simpa [List.getD, List.getElem?_take, hi] using this
omit hE in
theorem at2_take (M : List (List Int)) (r i t : Nat) : at2 (M.take r) i t = if i < r then at2 M i t else 0 := by
  unfold at2
  split
  · rename_i h; simp [List.getD, List.getElem?_take, h]
  · rename_i h; simp [List.getD, List.getElem?_take, h]
def lbGo (R b : Nat) : Nat → Nat
  | 0 => 0
  | r + 1 => max (lbGo R b r) (ek (ek b ((r + 1) * (R - 1))) ((R - (r + 1)) * (R - (r + 1) - 1)))
omit hE in
theorem lbGo_le (R b : Nat) {r m : Nat} (h1 : 1 ≤ r) (h2 : r ≤ m) : ek (ek b (r * (R - 1))) ((R - r) * (R - r - 1)) ≤ lbGo R b m := by
  induction m with
  | zero => omega
  | succ m ih =>
    rw [lbGo]
    by_cases e : r = m + 1
    · subst e; exact Nat.le_max_right _ _
    · exact Nat.le_trans (ih (by omega)) (Nat.le_max_left _ _)
omit hE in
theorem mulE_zero_row {n : Nat} {X Y : List (List Int)} {i : Nat} (h : ∀ k, at2 X i k = 0) (t : Nat) : mulE n X Y i t = 0 :=
  sumN_zero fun k _ => by rw [h k, Int.zero_mul]
theorem left_sized (R C b : Nat) (hR : R < 2147483648) (hC : C < 2147483648) {A : List (List Int)} (hA : Sha R C A) (hb : Bm A (2 ^ b)) (hbig : 2 ^ lbGo R b (min R C) < BIG) :
    ∃ K B, K ≤ R ∧ Sha K R B ∧ Bm B (2 ^ lbGo R b (min R C)) ∧ (∀ i t, mulE R B A i t = 0) ∧ ∀ H, call E GP 62 [MI R C A] H = some (MI K R B, H, false) := by
  by_cases hz : ∀ i t, at2 A i t = 0
  · have hI := shp_id R
    have h1 := fun H => form_zero hE R C hR hC hA hz H
    have hr0 : rankOf A = 0 := rank_is hA (Nat.zero_le _) (fun a h => by omega) (fun a t _ => hz a t)
    have hrR : rankOf (idMat R) = R := rank_is hI (Nat.le_refl _) (fun a h => ⟨a, by rw [at2_id, if_pos ⟨rfl, h⟩]; decide⟩) (fun a t h => by rw [at2_id, if_neg (fun e => by omega)])
    have h2 := fun H => r12_basis hE R R hR hR (idMat R) (idMat R) (idMat R) (idMat R) hI.1 hI.2 (fun H => form_id hE R hR H) H
    rw [hrR, List.take_of_length_le (by rw [hI.1]; exact Nat.le_refl _)] at h2
    have h3 := fun H => r15_left hE R C hR hC A A (idMat R) (idMat R) (idMat R) R hA.1 hA.2 hI.1 h1 (by rw [hr0, List.drop_zero]; exact h2) H
    exact ⟨R, idMat R, Nat.le_refl _, hI, bm_id R Nat.one_le_two_pow, fun i t => by rw [mulE_idl hA, hz], h3⟩
  · have hmin : min R C ≠ 0 := by
      intro e
      apply hz
      intro i t
      exact at2_out hA (by omega)
    have hle := lbGo_le R b (r := min R C) (m := min R C) (by omega) (Nat.le_refl _)
    have hek : ek b (min R C * (R - 1)) ≤ lbGo R b (min R C) := Nat.le_trans (ek_mono _ 0 _ |> fun h => by rw [Nat.zero_add] at h; exact h) hle
    obtain ⟨M, U, V, f1, f2, f3, f4, f5, f6, f7, f8, f9⟩ := form_sized hE R C b hR hC hA hb (Nat.lt_of_le_of_lt (Nat.pow_le_pow_right (by decide) hek) hbig)
    have hr1 : 1 ≤ rankOf M := by
      rcases Nat.eq_zero_or_pos (rankOf M) with h | h
      · exfalso
        apply hz
        intro i t
        rw [f7.2 i t]
        exact sumN_zero fun k _ => by rw [f8 k t (by omega), Int.mul_zero]
      · exact h
    generalize hr : rankOf M = r at *
    have hle2 := lbGo_le R b (r := r) (m := min R C) hr1 (by omega)
    have hK := shp_drop f4 r
    have hKb : Bm (U.drop r) (2 ^ ek b (r * (R - 1))) := fun i t => by rw [at2_drop]; exact f6.2.1 _ _
    have hmn : min (R - r) R = R - r := by omega
    have hbig2 : pk (ek b (r * (R - 1))) (min (R - r) R * (R - r - 1)) < BIG := by
      rw [hmn]; exact Nat.lt_of_le_of_lt (Nat.pow_le_pow_right (by decide) hle2) hbig
    obtain ⟨M', U', V', g1, g2, g3, g4, g5, g6, g7, g8, g9⟩ := form_sized hE (R - r) R (ek b (r * (R - 1))) (by omega) hR hK hKb hbig2
    have hbas := fun H => r12_basis hE (R - r) R (by omega) hR (U.drop r) M' U' V' g3.1 g3.2 g9 H
    have hleft := fun H => r15_left hE R C hR hC A M U V (M'.take (rankOf M')) (rankOf M') f3.1 f3.2 f4.1 f9 (by rw [hr]; exact hbas) H
    refine ⟨rankOf M', M'.take (rankOf M'), by omega, shp_take g3 (by omega), fun i t => ?_, fun i t => ?_, hleft⟩
    · rw [at2_take]
      split
      · refine Nat.le_trans (g6.1 i t) (Nat.pow_le_pow_right (by decide) (Nat.le_trans (ek_le _ ?_) hle2))
        exact Nat.mul_le_mul_right _ g1
      · exact Nat.zero_le _
    · by_cases hi : i < rankOf M'
      · have e1 : mulE R (M'.take (rankOf M')) A i t = sumN R fun k => sumN (R - r) fun s => at2 U' i s * (at2 (U.drop r) s k * at2 A k t) := by
          apply sumN_congr
          intro k _
          rw [at2_take, if_pos hi, g7.1 i k]
          unfold mulE
          rw [← sumN_mulr]
          exact sumN_congr fun s _ => Int.mul_assoc _ _ _
        rw [e1, sumN_comm]
        apply sumN_zero
        intro s hs
        rw [sumN_mul]
        have : sumN R (fun k => at2 (U.drop r) s k * at2 A k t) = 0 := by
          have := f7.1 (r + s) t
          rw [f8 (r + s) t (by omega)] at this
          rw [this]
          exact sumN_congr fun k _ => by rw [at2_drop]
        rw [this, Int.mul_zero]
      · exact mulE_zero_row (fun k => by rw [at2_take, if_neg hi]) t
end Tor
namespace Tor
open Go
def lin (f : Int → Int) : List (Int × Int) → Int
  | [] => 0
  | p :: r => p.2 * f p.1 + lin f r
theorem lin_ins (f : Int → Int) (q : Int × Int) : ∀ (l : List (Int × Int)), lin f (insR q false l) = lin f l + q.2 * f q.1
  | [] => by simp [insR, lin]
  | x :: r => by
    simp only [insR, insR_true, true_and]
    by_cases c1 : x.1 > q.1
    · rw [if_pos c1]; simp only [lin]; omega
    · rw [if_neg c1]
      by_cases c2 : x.1 = q.1
      · rw [if_pos c2]
        have e : (x.2 + q.2) * f q.1 = x.2 * f q.1 + q.2 * f q.1 := Int.add_mul _ _ _
        split
        · simp only [lin]; rw [c2, e]; omega
        · rename_i h
          have h : x.2 + q.2 = 0 := by omega
          rw [h, Int.zero_mul] at e
          simp only [lin]; rw [c2]; omega
      · rw [if_neg c2]; simp only [lin]; rw [lin_ins f q r]; omega
theorem lin_insert (f : Int → Int) (q : Int × Int) (l : List (Int × Int)) : lin f (insert26 l q) = lin f l + q.2 * f q.1 := by
  unfold insert26
  by_cases h : q.2 = 0
  · rw [show decide (q.2 = 0) = true by simpa using h, insR_true, h]; simp
  · rw [show decide (q.2 = 0) = false by simpa using h]; exact lin_ins f q l
theorem lin_fold (f : Int → Int) : ∀ (l a : List (Int × Int)), lin f (l.foldl insert26 a) = lin f a + lin f l
  | [], a => by simp [lin]
  | p :: r, a => by rw [List.foldl_cons, lin_fold f r, lin_insert]; simp only [lin]; omega
theorem lin_add (f : Int → Int) (c : Int) : ∀ (l a : List (Int × Int)), lin f (add26 a l c) = lin f a + c * lin f l
  | [], a => by simp [lin, add26]
  | p :: r, a => by
    have := lin_add f c r (insert26 a (p.1, c * p.2))
    unfold add26 at this ⊢
    rw [List.foldl_cons, this, lin_insert]
    simp only [lin]
    rw [Int.mul_add, Int.mul_assoc]; omega
theorem insR_keys {P : Int → Prop} {q : Int × Int} (hq : P q.1) : ∀ (l : List (Int × Int)) (d : Bool), (∀ p ∈ l, P p.1) → ∀ p ∈ insR q d l, P p.1
  | [], d, _ => by
    cases d <;> intro p hp <;> simp [insR] at hp
    subst hp; exact hq
  | x :: r, d, h => by
    have hx : P x.1 := h x (.head _)
    have i := fun d => insR_keys hq r d (fun p hp => h p (.tail _ hp))
    rw [insR]
    split
    · intro p hp
      cases hp with
      | head => exact hq
      | tail _ hp => cases hp with
        | head => exact hx
        | tail _ hp => exact i _ p hp
    · split
      · split
        · intro p hp
          cases hp with
          | head => exact hq
          | tail _ hp => exact i _ p hp
        · exact i _
      · intro p hp
        cases hp with
        | head => exact hx
        | tail _ hp => exact i _ p hp
theorem fold_keys {P : Int → Prop} : ∀ (l a : List (Int × Int)), (∀ p ∈ l, P p.1) → (∀ p ∈ a, P p.1) → ∀ p ∈ l.foldl insert26 a, P p.1
  | [], a, _, ha => ha
  | q :: r, a, hl, ha => fold_keys r _ (fun p hp => hl p (.tail _ hp)) (insR_keys (hl q (.head _)) a _ ha)
theorem add_keys {P : Int → Prop} (c : Int) : ∀ (l a : List (Int × Int)), (∀ p ∈ l, P p.1) → (∀ p ∈ a, P p.1) → ∀ p ∈ add26 a l c, P p.1
  | [], a, _, ha => ha
  | q :: r, a, hl, ha => by
    unfold add26
    rw [List.foldl_cons]
    exact add_keys c r _ (fun p hp => hl p (.tail _ hp)) (insR_keys (q := (q.1, c * q.2)) (hl q (.head _)) a _ ha)
theorem look_mem {k : Int} : ∀ {l : List (Int × Int)}, lookL k l ≠ 0 → (k, lookL k l) ∈ l
  | [], h => absurd rfl h
  | (j, x) :: r, h => by
    simp only [lookL] at h ⊢
    by_cases e : k = j
    · subst e; rw [if_pos rfl]; exact .head _
    · rw [if_neg e] at h ⊢; exact .tail _ (look_mem h)
theorem canon_look {b : Option Int} : ∀ {l : List (Int × Int)} {p : Int × Int}, Canon b l → p ∈ l → lookL p.1 l = p.2
  | (j, x) :: r, p, h, hp => by
    simp only [lookL]
    cases hp with
    | head => rw [if_pos rfl]
    | tail _ hp =>
      have h1 := (canon_all r _ h.2.2).2.2 j rfl p hp
      rw [if_neg (by omega)]
      exact canon_look h.2.2 hp
theorem canon_bd {l : List (Int × Int)} (h : Canon none l) {N : Nat} (hb : ∀ k, (lookL k l).natAbs ≤ N) : Bd N l := fun p hp => by
  have := canon_look h hp
  have h2 := hb p.1
  rw [this] at h2; exact h2
theorem bd_look {l : List (Int × Int)} {N : Nat} (h : Bd N l) (k : Int) : (lookL k l).natAbs ≤ N := by
  by_cases e : lookL k l = 0
  · rw [e]; exact Nat.zero_le _
  · exact h _ (look_mem e)
theorem lin_look {l : List (Int × Int)} (h : Canon none l) (k : Int) : lin (fun i => if i = k then 1 else 0) l = lookL k l := by
  have : ∀ (l : List (Int × Int)) (b : Option Int), Canon b l → lin (fun i => if i = k then 1 else 0) l = lookL k l := by
    intro l
    induction l with
    | nil => intro b _; rfl
    | cons p r ih =>
      obtain ⟨j, x⟩ := p
      intro b h
      simp only [lin, lookL]
      rw [ih _ h.2.2]
      by_cases e : j = k
      · subst e
        rw [if_pos rfl, if_pos rfl, look_below h.2.2 (by omega)]; omega
      · rw [if_neg e, if_neg (fun e2 => e e2.symm)]; omega
  exact this l none h
theorem tot_zip_out {k : Int} : ∀ (ids r : List Int), k ∉ ids → tot k (ids.zip r) = 0
  | [], _, _ => rfl
  | i :: ids, [], _ => rfl
  | i :: ids, y :: r, h => by
    simp only [List.zip_cons_cons, tot]
    rw [if_neg (fun e => h (by rw [e]; exact .head _)), tot_zip_out ids r (fun e => h (.tail _ e))]; rfl
theorem tot_zip : ∀ (ids r : List Int), ids.Nodup → ∀ j, j < ids.length → tot (ids.getD j 0) (ids.zip r) = r.getD j 0
  | [], _, _, j, hj => by simp at hj
  | i :: ids, [], _, j, hj => by simp [tot]
  | i :: ids, y :: r, hn, j, hj => by
    obtain ⟨h1, h2⟩ := List.nodup_cons.1 hn
    simp only [List.zip_cons_cons, tot]
    cases j with
    | zero => simp only [List.getD_cons_zero, if_true]; rw [tot_zip_out ids r h1]; omega
    | succ j =>
      simp only [List.getD_cons_succ]
      have hj : j < ids.length := by simpa using hj
      rw [if_neg (fun e => h1 (by rw [← e]; simp [List.getD, hj])), tot_zip ids r h2 j hj]; omega
theorem chR_canon (ids r : List Int) : Canon none (chR ids r) := (make_law (ids.zip r) [] trivial).1
theorem chR_look {ids r : List Int} (hn : ids.Nodup) {j : Nat} (hj : j < ids.length) : lookL (ids.getD j 0) (chR ids r) = r.getD j 0 := by
  unfold chR
  rw [(make_law (ids.zip r) [] trivial).2, tot_zip ids r hn j hj]; simp [lookL]
theorem chR_out {ids r : List Int} {k : Int} (h : k ∉ ids) : lookL k (chR ids r) = 0 := by
  unfold chR
  rw [(make_law (ids.zip r) [] trivial).2, tot_zip_out ids r h]; simp [lookL]
theorem chR_bd {ids r : List Int} (hn : ids.Nodup) {N : Nat} (h : ∀ y ∈ r, y.natAbs ≤ N) : Bd N (chR ids r) := by
  refine canon_bd (chR_canon ids r) fun k => ?_
  by_cases hk : k ∈ ids
  · obtain ⟨j, hj, rfl⟩ := List.mem_iff_getElem.1 hk
    have := chR_look (r := r) hn hj
    rw [show ids.getD j 0 = ids[j] by simp [List.getD, hj]] at this
    rw [this]
    rcases Nat.lt_or_ge j r.length with h1 | h1
    · exact h _ (by simp [List.getD, h1])
    · rw [List.getD, List.getElem?_eq_none h1]; exact Nat.zero_le _
  · rw [chR_out hk]; exact Nat.zero_le _
theorem zip_keys {ids r : List Int} : ∀ p ∈ ids.zip r, p.1 ∈ ids := fun p hp => (List.of_mem_zip hp).1
theorem chR_keys (ids r : List Int) : ∀ p ∈ chR ids r, p.1 ∈ ids := fold_keys (P := (· ∈ ids)) _ _ zip_keys (fun p hp => by cases hp)
theorem chR_len (ids r : List Int) : (chR ids r).length ≤ ids.length := by
  have h1 : ∀ (l a : List (Int × Int)), (l.foldl insert26 a).length ≤ a.length + l.length := by
    intro l
    induction l with
    | nil => intro a; simp
    | cons p r ih =>
      intro a
      rw [List.foldl_cons]
      have := ih (insert26 a p)
      have h2 := insR_len p a (decide (p.2 = 0))
      rw [List.length_cons]
      unfold insert26 at this ⊢; omega
  have := h1 (ids.zip r) []
  unfold chR
  simp at this
  omega
theorem chR_lin (f : Int → Int) (ids r : List Int) : lin f (chR ids r) = lin f (ids.zip r) := by
  unfold chR; rw [lin_fold]; simp [lin]
theorem rowL_get (ids : List Int) : ∀ (x : List (Int × Int)) (out : List Int) (t : Nat), out.length = ids.length → t < ids.length →
    (x.foldl (fun out p => putL p ids out) out).getD t 0 = x.foldl (lastF (ids.getD t 0)) (out.getD t 0)
  | [], out, t, _, _ => rfl
  | p :: r, out, t, ho, ht => by
    rw [List.foldl_cons, rowL_get ids r _ t (putL_len p ids out ho) ht, List.foldl_cons]
    congr 1
    unfold putL lastF
    have h2 : t < out.length := by omega
    simp only [List.getD, List.getElem?_zipWith, List.getElem?_eq_getElem ht, List.getElem?_eq_getElem h2, Option.getD_some]
    by_cases e : ids[t] = p.1
    · rw [if_pos e, if_pos e.symm]
    · rw [if_neg e, if_neg (fun h => e h.symm)]
theorem last_canon {k : Int} : ∀ (l : List (Int × Int)) (b : Option Int) (v : Int), Canon b l → l.foldl (lastF k) v = if k ∈ l.map (·.1) then lookL k l else v
  | [], _, v, _ => by simp
  | (j, x) :: r, b, v, h => by
    rw [List.foldl_cons, last_canon r _ _ h.2.2]
    simp only [lastF, List.map_cons, List.mem_cons, lookL]
    by_cases e : k = j
    · subst e
      have hn : ¬ k ∈ r.map (·.1) := by
        intro hk
        obtain ⟨p, hp, e⟩ := List.mem_map.1 hk
        have := (canon_all r _ h.2.2).2.2 k rfl p hp
        omega
      rw [if_neg hn]; simp
    · by_cases hk : k ∈ r.map (·.1)
      · rw [if_pos hk, if_pos (.inr hk), if_neg e]
      · rw [if_neg hk, if_neg (fun e2 : j = k => e e2.symm), if_neg (fun h : k = j ∨ _ => h.elim e hk)]
theorem look_nomem {k : Int} : ∀ {l : List (Int × Int)}, k ∉ l.map (·.1) → lookL k l = 0 := look_out
theorem last_look {l : List (Int × Int)} (h : Canon none l) (k : Int) : lastL k l = lookL k l := by
  unfold lastL
  rw [last_canon l none 0 h]
  split
  · rfl
  · rename_i hk; exact (look_out hk).symm
theorem rowL_look {x : List (Int × Int)} (h : Canon none x) (ids : List Int) {t : Nat} (ht : t < ids.length) : (rowL x ids).getD t 0 = lookL (ids.getD t 0) x := by
  unfold rowL
  rw [rowL_get ids x _ t (by simp) ht]
  have : (List.replicate ids.length (0 : Int)).getD t 0 = 0 := by simp [List.getD, ht]
  rw [this]
  exact last_look h _
end Tor
namespace Tor
open Go
structure GS where
  n0 : Nat
  n1 : Nat
  n2 : Nat
  n3 : Nat
  b1 : Nat
  b2 : Nat
  b3 : Nat
def GS.n (s : GS) : Nat → Nat
  | 0 => s.n0
  | 1 => s.n1
  | 2 => s.n2
  | 3 => s.n3
  | _ => 0
def GS.b (s : GS) : Nat → Nat
  | 1 => s.b1
  | 2 => s.b2
  | 3 => s.b3
  | _ => 0
def GS.kb (s : GS) : Nat → Nat
  | 1 => lbGo s.n1 s.b1 (min s.n1 s.n0)
  | 2 => lbGo s.n2 s.b2 (min s.n2 s.n1)
  | _ => 0
def GS.grow (s : GS) : Nat → GS
  | 0 => { s with n0 := s.n0 + 1 }
  | 1 => { s with n1 := s.n1 + 1, b1 := max s.b1 (s.kb 0 + 8) }
  | 2 => { s with n2 := s.n2 + 1, b2 := max s.b2 (s.kb 1 + 8) }
  | 3 => { s with n3 := s.n3 + 1, b3 := max s.b3 (s.kb 2 + 8) }
  | _ => s
theorem two_big' (q e : Nat) (hq : q ≤ 500000000) (he : e ≤ 32 * q) : 2 ^ e ≤ BIG := by
  refine Nat.le_trans (Nat.pow_le_pow_right (by decide) he) ?_
  rw [Nat.pow_mul]
  exact big_pow hq
theorem two_big {e : Nat} (he : e ≤ 16000000000) : 2 ^ e ≤ BIG := two_big' 500000000 e (Nat.le_refl _) he
theorem mul_big {e N m j : Nat} (hN : N ≤ 2 ^ e) (hm : m < 2 ^ j) (he : e + j ≤ 16000000000) : N * m < BIG := by
  have h1 := two_big he
  rw [Nat.pow_add] at h1
  have h2 : N * m ≤ 2 ^ e * m := Nat.mul_le_mul_right _ hN
  have h3 : 2 ^ e * m < 2 ^ e * 2 ^ j := Nat.mul_lt_mul_of_pos_left hm (Nat.two_pow_pos e)
  omega
structure Good (c : List Cel) (s : GS) (m : Nat) : Prop where
  len : c.length ≤ m
  ids : c.Pairwise (fun x y => x.id < y.id)
  idr : ∀ x ∈ c, 1 ≤ x.id ∧ x.id ≤ 2 * m
  dims : ∀ x ∈ c, 0 ≤ x.dim ∧ x.dim ≤ 3
  cnt : ∀ k : Nat, k ≤ 3 → (cellsC c k).length = s.n k
  bd : ∀ x ∈ c, Bd (2 ^ s.b x.dim.toNat) x.b
  cn : ∀ x ∈ c, Canon none x.b
  key : ∀ x ∈ c, ∀ p ∈ x.b, p.1 ∈ cellsC c (x.dim - 1)
  bl : ∀ x ∈ c, x.b.length ≤ 150
  bb : ∀ x ∈ c, ∀ id, lin (fun i => lookL id (cellOf? c i).b) x.b = 0
theorem find_mem {c : List Cel} (h : c.Pairwise (fun x y => x.id < y.id)) {x : Cel} (hx : x ∈ c) : findC c x.id = some x := by
  induction c with
  | nil => cases hx
  | cons y r ih =>
    obtain ⟨h1, h2⟩ := List.pairwise_cons.1 h
    unfold findC
    rw [List.find?_cons]
    cases hx with
    | head => simp
    | tail _ hx =>
      have := h1 x hx
      rw [show decide (y.id = x.id) = false by simp; omega]
      exact ih h2 hx
theorem cellC_mem {c : List Cel} (h : c.Pairwise (fun x y => x.id < y.id)) {x : Cel} (hx : x ∈ c) : cellOf? c x.id = x := by unfold cellOf?; rw [find_mem h hx]; rfl
theorem cells_mem {c : List Cel} {k id : Int} : id ∈ cellsC c k ↔ ∃ x ∈ c, x.dim = k ∧ x.id = id := by
  unfold cellsC
  simp only [List.mem_map, List.mem_filter, decide_eq_true_eq]
  constructor
  · rintro ⟨x, ⟨h1, h2⟩, h3⟩; exact ⟨x, h1, h2, h3⟩
  · rintro ⟨x, h1, h2, h3⟩; exact ⟨x, ⟨h1, h2⟩, h3⟩
theorem cells_lt {c : List Cel} (h : c.Pairwise (fun x y => x.id < y.id)) (k : Int) : (cellsC c k).Pairwise (· < ·) := by
  unfold cellsC
  rw [List.pairwise_map]
  exact h.filter _
theorem cells_nodup {c : List Cel} (h : c.Pairwise (fun x y => x.id < y.id)) (k : Int) : (cellsC c k).Nodup :=
  (cells_lt h k).imp (fun h e => by omega)
theorem shp_bnd (c : List Cel) (k : Int) : Sha (cellsC c k).length (cellsC c (IntKind.i64.wrap (k - 1))).length (bndC c k) := by
  refine ⟨by simp [bndC], fun i hi => ?_⟩
  have e : (bndC c k).getD i [] = rowL ((findC c ((cellsC c k)[i])).getD zC).b (cellsC c (IntKind.i64.wrap (k - 1))) := by
    simp [bndC, List.getD, hi]
  rw [e]; exact rowL_len _ _
theorem bnd_at {c : List Cel} {s : GS} {m : Nat} (h : Good c s m) (k : Nat) (hk : k ≤ 3) {i t : Nat} (hi : i < (cellsC c k).length) (ht : t < (cellsC c ((k : Int) - 1)).length) :
    at2 (bndC c k) i t = lookL ((cellsC c ((k : Int) - 1)).getD t 0) (cellOf? c ((cellsC c k).getD i 0)).b := by
  have w : IntKind.i64.wrap ((k : Int) - 1) = (k : Int) - 1 := i64w (by omega)
  have e : (bndC c k).getD i [] = rowL (cellOf? c ((cellsC c k).getD i 0)).b (cellsC c ((k : Int) - 1)) := by
    simp [bndC, List.getD, hi, w, cellOf?]
  unfold at2
  rw [e, rowL_look _ _ ht]
  have hm : (cellsC c k).getD i 0 ∈ cellsC c k := by simp [List.getD, hi]
  obtain ⟨x, hx, _, hid⟩ := cells_mem.1 hm
  rw [← hid, cellC_mem h.ids hx]
  exact h.cn x hx
theorem bnd_bm {c : List Cel} {s : GS} {m : Nat} (h : Good c s m) (k : Nat) (hk : k ≤ 3) : Bm (bndC c k) (2 ^ s.b k) := by
  intro i t
  have w : IntKind.i64.wrap ((k : Int) - 1) = (k : Int) - 1 := i64w (by omega)
  have hs := shp_bnd c k
  rw [w] at hs
  rcases Nat.lt_or_ge i (cellsC c k).length with hi | hi
  · rcases Nat.lt_or_ge t (cellsC c ((k : Int) - 1)).length with ht | ht
    · rw [bnd_at h k hk hi ht]
      have hm : (cellsC c k).getD i 0 ∈ cellsC c k := by simp [List.getD, hi]
      obtain ⟨x, hx, hd, hid⟩ := cells_mem.1 hm
      rw [← hid, cellC_mem h.ids hx]
      have := bd_look (h.bd x hx) ((cellsC c ((k : Int) - 1)).getD t 0)
      rw [hd] at this; exact this
    · rw [at2_out hs (.inr ht)]; exact Nat.zero_le _
  · rw [at2_out hs (.inl hi)]; exact Nat.zero_le _
theorem lin_zip (f : Int → Int) : ∀ (ids r : List Int), ids.length = r.length → lin f (ids.zip r) = sumN ids.length fun j => r.getD j 0 * f (ids.getD j 0) := by
  have snoc : ∀ (n : Nat) (g : Nat → Int), sumN (n + 1) g = g 0 + sumN n (fun j => g (j + 1)) := by
    intro n g
    induction n with
    | zero => simp [sumN]
    | succ n ih => rw [sumN, ih, sumN]; omega
  intro ids
  induction ids with
  | nil => intro r _; simp [lin, sumN]
  | cons i ids ih =>
    intro r hr
    cases r with
    | nil => simp at hr
    | cons y r =>
      simp only [List.zip_cons_cons, lin, List.length_cons]
      rw [ih r (by simpa using hr), snoc]
      simp
theorem cells_neg {c : List Cel} {s : GS} {m : Nat} (h : Good c s m) {k : Int} (hk : k < 0) : cellsC c k = [] := by
  rw [List.eq_nil_iff_forall_not_mem]
  intro id hid
  obtain ⟨x, hx, hd, _⟩ := cells_mem.1 hid
  have := (h.dims x hx).1
  omega
theorem ker_chain {c : List Cel} {s : GS} {m : Nat} (h : Good c s m) (k : Nat) (hk : k ≤ 2) {K : Nat} {B : List (List Int)} {e : Nat} (hB : Sha K (cellsC c k).length B) (hb : Bm B (2 ^ e))
    (hz : ∀ i t, mulE (cellsC c k).length B (bndC c k) i t = 0) : ∀ l ∈ cycOf c k B, Bd (2 ^ e) l ∧ l.length ≤ m ∧ Canon none l ∧ (∀ p ∈ l, p.1 ∈ cellsC c k) ∧ ∀ id, lin (fun i => lookL id (cellOf? c i).b) l = 0 := by
  intro l hl
  simp only [cycOf, List.mem_map] at hl
  obtain ⟨r, hr, rfl⟩ := hl
  obtain ⟨i, hi, rfl⟩ := List.mem_iff_getElem.1 hr
  have hiK : i < K := by rw [← hB.1]; exact hi
  have hrl : (B[i]).length = (cellsC c k).length := by
    have := hB.2 i hiK; simpa [List.getD, hi] using this
  have hat : ∀ j, (B[i]).getD j 0 = at2 B i j := fun j => by unfold at2; simp [List.getD, hi]
  have e1 : (chain26 c k B[i]).1 = chR (cellsC c k) B[i] := by unfold chain26; rw [if_neg (by rw [hrl]; simp)]
  rw [e1]
  refine ⟨chR_bd (cells_nodup h.ids _) fun y hy => ?_, Nat.le_trans (chR_len _ _) (Nat.le_trans (cellsC_len c k) h.len), chR_canon _ _, chR_keys _ _, fun id => ?_⟩
  · obtain ⟨j, hj, rfl⟩ := List.mem_iff_getElem.1 hy
    have := hb i j
    rw [← hat] at this
    simpa [List.getD, hj] using this
  · rw [chR_lin, lin_zip _ _ _ hrl.symm]
    by_cases hid : id ∈ cellsC c ((k : Int) - 1)
    · obtain ⟨t, ht, rfl⟩ := List.mem_iff_getElem.1 hid
      refine Eq.trans ?_ (hz i t)
      apply sumN_congr
      intro j hj
      rw [hat, bnd_at h k (by omega) hj ht]
      simp [List.getD, ht]
    · apply sumN_zero
      intro j hj
      have hm : (cellsC c k).getD j 0 ∈ cellsC c k := by simp [List.getD, hj]
      obtain ⟨x, hx, hd, hidx⟩ := cells_mem.1 hm
      rw [← hidx, cellC_mem h.ids hx, look_out (fun hk2 => ?_), Int.mul_zero]
      obtain ⟨p, hp, rfl⟩ := List.mem_map.1 hk2
      have := h.key x hx p hp
      rw [hd] at this
      exact hid this
variable {E : CallF} (hE : Free E)
include hE
theorem cycles_good {c : List Cel} {s : GS} {m : Nat} (h : Good c s m) (hm : m ≤ 16) (k : Int) (hk : -1 ≤ k ∧ k ≤ 2) (hbig : ∀ k, s.kb k + 16 ≤ 16000000000) :
    ∃ L : List (List (Int × Int)), (∀ H, call E GP 121 [.isl (c.map cA), .int .i64 k] H = some (.isl (L.map chA), H, false)) ∧ L.length ≤ 16 ∧
      ∀ l ∈ L, 0 ≤ k ∧ Bd (2 ^ s.kb k.toNat) l ∧ l.length ≤ m ∧ Canon none l ∧ (∀ p ∈ l, p.1 ∈ cellsC c k) ∧ ∀ id, lin (fun i => lookL id (cellOf? c i).b) l = 0 := by
  have hlen := h.len
  have hcb : ∀ x ∈ c, x.b.length < 2147483648 := fun x hx => by have := h.bl x hx; omega
  by_cases h0 : k < 0
  · refine ⟨[], fun H => ?_, by simp, fun l hl => by cases hl⟩
    have := r26_cycles hE c k 0 0 0 [] (by omega) hcb rfl (by omega) (fun i hi => by omega) (fun i hi => by omega) (fun i hi => by omega) (fun hk => by omega) H
    rw [if_pos h0] at this
    exact this
  · obtain ⟨n, rfl⟩ : ∃ n : Nat, k = (n : Int) := ⟨k.toNat, by omega⟩
    have hn : n ≤ 2 := by omega
    have w : IntKind.i64.wrap ((n : Int) - 1) = (n : Int) - 1 := i64w (by omega)
    have hs := shp_bnd c n
    rw [w] at hs
    have hR := h.cnt n (by omega)
    have hRm := cellsC_len c n
    have hCm := cellsC_len c ((n : Int) - 1)
    have hkb : lbGo (cellsC c n).length (s.b n) (min (cellsC c n).length (cellsC c ((n : Int) - 1)).length) = s.kb n := by
      rcases n with _ | _ | _ | n
      · have : cellsC c (((0 : Nat) : Int) - 1) = [] := cells_neg h (by omega)
        rw [this]; simp [lbGo, GS.kb]
      · have h1 := h.cnt 0 (by omega)
        rw [show (((0 + 1 : Nat) : Int) - 1) = ((0 : Nat) : Int) by omega, hR, h1]; rfl
      · have h1 := h.cnt 1 (by omega)
        rw [show (((0 + 1 + 1 : Nat) : Int) - 1) = ((1 : Nat) : Int) by omega, hR, h1]; rfl
      · omega
    have hb16 := hbig n
    have hlt : 2 ^ s.kb n < BIG := by
      have := mul_big (e := s.kb n) (N := 2 ^ s.kb n) (m := 1) (j := 1) (Nat.le_refl _) (by decide) (by omega)
      rwa [Nat.mul_one] at this
    obtain ⟨K, B, f1, f2, f3, f4, f5⟩ := left_sized hE (cellsC c n).length (cellsC c ((n : Int) - 1)).length (s.b n) (by omega) (by omega) hs (bnd_bm h n (by omega)) (by rw [hkb]; exact hlt)
    rw [hkb] at f3
    have hcy := r26_cycles hE c n K (cellsC c n).length (2 ^ s.kb n) B (by omega) hcb f2.1 (by omega) (fun i hi => by rw [f2.2 i hi]; omega) (fun i hi y hy => by
      obtain ⟨j, hj, rfl⟩ := List.mem_iff_getElem.1 hy
      have := f3 i j
      unfold at2 at this
      generalize B.getD i [] = r at *
      simpa [List.getD, hj] using this) (fun i hi => by
      rw [f2.2 i hi]
      exact mul_big (j := 16) (Nat.le_refl _) (by omega) hb16) (fun _ H => by rw [w]; exact f5 H)
    rw [if_neg h0] at hcy
    refine ⟨cycOf c n B, hcy, by unfold cycOf; rw [List.length_map, f2.1]; omega, fun l hl => ⟨by omega, ?_⟩⟩
    exact ker_chain h n hn f2 f3 f4 l hl
end Tor
namespace Tor
open Go
def sp0 : List Cel := [⟨1, 0, []⟩, ⟨2, 0, []⟩, ⟨3, 0, []⟩, ⟨4, 1, [(1, -1), (2, 1)]⟩, ⟨5, 1, [(2, -1), (3, 1)]⟩, ⟨6, 1, [(1, 1), (3, -1)]⟩]
def spaceC : Nat → List Cel
  | 1 => [⟨1, 0, []⟩]
  | 2 => [⟨1, 0, []⟩, ⟨7, 0, []⟩]
  | 3 => [⟨1, 0, []⟩, ⟨2, 0, []⟩, ⟨3, 1, [(1, -1), (2, 1)]⟩]
  | 4 => [⟨1, 0, []⟩, ⟨2, 1, []⟩]
  | 5 => sp0
  | 6 => sp0 ++ [⟨9, 2, [(4, 1), (5, 1), (6, 1)]⟩]
  | 7 => [⟨1, 0, []⟩, ⟨2, 2, []⟩]
  | 8 => [⟨1, 0, []⟩, ⟨2, 1, []⟩, ⟨3, 1, []⟩, ⟨4, 2, []⟩]
  | 9 => [⟨1, 0, []⟩, ⟨2, 1, []⟩, ⟨3, 2, [(2, 2)]⟩]
  | 10 => [⟨1, 0, []⟩, ⟨2, 1, []⟩, ⟨3, 1, []⟩, ⟨4, 2, [(2, 2)]⟩]
  | 11 => [⟨1, 0, []⟩, ⟨2, 1, []⟩, ⟨3, 2, [(2, 3)]⟩, ⟨4, 3, []⟩]
  | 12 => [⟨1, 0, []⟩, ⟨2, 1, []⟩, ⟨3, 2, [(2, 4)]⟩, ⟨4, 2, [(2, 6)]⟩]
  | 13 => [⟨1, 0, []⟩, ⟨2, 1, []⟩, ⟨3, 0, []⟩, ⟨5, 1, []⟩, ⟨6, 2, [(5, 2)]⟩]
  | _ => []
theorem iso_any {E : CallF} {g : Nat} {f : AFun} {args : List AV} {v : AV} (h0 : ∀ a H, E g a H = none) (hf : GP g = some f) (hp : args.length = f.params) (hm : f.mode = .iso)
    (h : call E GP g args [] = some (v, [], false)) (H : Heap) : call E GP g args H = some (v, H, false) := by
  rw [call_fun (h0 _ _) hf hp] at h ⊢
  rw [hm, callFun_i] at h ⊢
  cases hr : runIso (run E GP) f args with
  | none => rw [hr] at h; simp [withHeap] at h
  | some w => rw [hr] at h; simp [withHeap] at h ⊢; exact h
theorem spk0 : callN E1 GP 1000 21 [.int .i64 1, .int .i64 0, .isl []] [] = some (cA ⟨1, 0, []⟩, [], false) := by kernel_rfl
theorem spc0 (H : Heap) : call E1 GP 21 [.int .i64 1, .int .i64 0, .isl []] H = some (.agg [.int .i64 1, .int .i64 0, .isl []], H, false) :=
  iso_any (f := a21) (fun _ _ => rfl) rfl rfl rfl (call_of spk0) H
theorem spk1 : callN E1 GP 1000 21 [.int .i64 2, .int .i64 1, .isl []] [] = some (cA ⟨2, 1, []⟩, [], false) := by kernel_rfl
theorem spc1 (H : Heap) : call E1 GP 21 [.int .i64 2, .int .i64 1, .isl []] H = some (.agg [.int .i64 2, .int .i64 1, .isl []], H, false) :=
  iso_any (f := a21) (fun _ _ => rfl) rfl rfl rfl (call_of spk1) H
theorem spk2 : callN E1 GP 1000 21 [.int .i64 2, .int .i64 0, .isl []] [] = some (cA ⟨2, 0, []⟩, [], false) := by kernel_rfl
theorem spc2 (H : Heap) : call E1 GP 21 [.int .i64 2, .int .i64 0, .isl []] H = some (.agg [.int .i64 2, .int .i64 0, .isl []], H, false) :=
  iso_any (f := a21) (fun _ _ => rfl) rfl rfl rfl (call_of spk2) H
theorem spk3 : callN E1 GP 1000 21 [.int .i64 3, .int .i64 0, .isl []] [] = some (cA ⟨3, 0, []⟩, [], false) := by kernel_rfl
theorem spc3 (H : Heap) : call E1 GP 21 [.int .i64 3, .int .i64 0, .isl []] H = some (.agg [.int .i64 3, .int .i64 0, .isl []], H, false) :=
  iso_any (f := a21) (fun _ _ => rfl) rfl rfl rfl (call_of spk3) H
theorem spk4 : callN E1 GP 1000 21 [.int .i64 4, .int .i64 1, .isl [.int .i64 1, .int .i64 (-1), .int .i64 2, .int .i64 1]] [] = some (cA ⟨4, 1, [(1, -1), (2, 1)]⟩, [], false) := by kernel_rfl
theorem spc4 (H : Heap) : call E1 GP 21 [.int .i64 4, .int .i64 1, .isl [.int .i64 1, .int .i64 (-1), .int .i64 2, .int .i64 1]] H = some (.agg [.int .i64 4, .int .i64 1, .isl [fA (1, -1), fA (2, 1)]], H, false) :=
  iso_any (f := a21) (fun _ _ => rfl) rfl rfl rfl (call_of spk4) H
theorem spk5 : callN E1 GP 1000 21 [.int .i64 5, .int .i64 1, .isl [.int .i64 2, .int .i64 (-1), .int .i64 3, .int .i64 1]] [] = some (cA ⟨5, 1, [(2, -1), (3, 1)]⟩, [], false) := by kernel_rfl
theorem spc5 (H : Heap) : call E1 GP 21 [.int .i64 5, .int .i64 1, .isl [.int .i64 2, .int .i64 (-1), .int .i64 3, .int .i64 1]] H = some (.agg [.int .i64 5, .int .i64 1, .isl [fA (2, -1), fA (3, 1)]], H, false) :=
  iso_any (f := a21) (fun _ _ => rfl) rfl rfl rfl (call_of spk5) H
theorem spk6 : callN E1 GP 1000 21 [.int .i64 6, .int .i64 1, .isl [.int .i64 1, .int .i64 1, .int .i64 3, .int .i64 (-1)]] [] = some (cA ⟨6, 1, [(1, 1), (3, -1)]⟩, [], false) := by kernel_rfl
theorem spc6 (H : Heap) : call E1 GP 21 [.int .i64 6, .int .i64 1, .isl [.int .i64 1, .int .i64 1, .int .i64 3, .int .i64 (-1)]] H = some (.agg [.int .i64 6, .int .i64 1, .isl [fA (1, 1), fA (3, -1)]], H, false) :=
  iso_any (f := a21) (fun _ _ => rfl) rfl rfl rfl (call_of spk6) H
theorem spk7 : callN E1 GP 1000 21 [.int .i64 7, .int .i64 0, .isl []] [] = some (cA ⟨7, 0, []⟩, [], false) := by kernel_rfl
theorem spc7 (H : Heap) : call E1 GP 21 [.int .i64 7, .int .i64 0, .isl []] H = some (.agg [.int .i64 7, .int .i64 0, .isl []], H, false) :=
  iso_any (f := a21) (fun _ _ => rfl) rfl rfl rfl (call_of spk7) H
theorem spk8 : callN E1 GP 1000 21 [.int .i64 3, .int .i64 1, .isl [.int .i64 1, .int .i64 (-1), .int .i64 2, .int .i64 1]] [] = some (cA ⟨3, 1, [(1, -1), (2, 1)]⟩, [], false) := by kernel_rfl
theorem spc8 (H : Heap) : call E1 GP 21 [.int .i64 3, .int .i64 1, .isl [.int .i64 1, .int .i64 (-1), .int .i64 2, .int .i64 1]] H = some (.agg [.int .i64 3, .int .i64 1, .isl [fA (1, -1), fA (2, 1)]], H, false) :=
  iso_any (f := a21) (fun _ _ => rfl) rfl rfl rfl (call_of spk8) H
theorem spk9 : callN E1 GP 1000 21 [.int .i64 9, .int .i64 2, .isl [.int .i64 4, .int .i64 1, .int .i64 5, .int .i64 1, .int .i64 6, .int .i64 1]] [] = some (cA ⟨9, 2, [(4, 1), (5, 1), (6, 1)]⟩, [], false) := by kernel_rfl
theorem spc9 (H : Heap) : call E1 GP 21 [.int .i64 9, .int .i64 2, .isl [.int .i64 4, .int .i64 1, .int .i64 5, .int .i64 1, .int .i64 6, .int .i64 1]] H = some (.agg [.int .i64 9, .int .i64 2, .isl [fA (4, 1), fA (5, 1), fA (6, 1)]], H, false) :=
  iso_any (f := a21) (fun _ _ => rfl) rfl rfl rfl (call_of spk9) H
theorem spk10 : callN E1 GP 1000 21 [.int .i64 2, .int .i64 2, .isl []] [] = some (cA ⟨2, 2, []⟩, [], false) := by kernel_rfl
theorem spc10 (H : Heap) : call E1 GP 21 [.int .i64 2, .int .i64 2, .isl []] H = some (.agg [.int .i64 2, .int .i64 2, .isl []], H, false) :=
  iso_any (f := a21) (fun _ _ => rfl) rfl rfl rfl (call_of spk10) H
theorem spk11 : callN E1 GP 1000 21 [.int .i64 3, .int .i64 1, .isl []] [] = some (cA ⟨3, 1, []⟩, [], false) := by kernel_rfl
theorem spc11 (H : Heap) : call E1 GP 21 [.int .i64 3, .int .i64 1, .isl []] H = some (.agg [.int .i64 3, .int .i64 1, .isl []], H, false) :=
  iso_any (f := a21) (fun _ _ => rfl) rfl rfl rfl (call_of spk11) H
theorem spk12 : callN E1 GP 1000 21 [.int .i64 4, .int .i64 2, .isl []] [] = some (cA ⟨4, 2, []⟩, [], false) := by kernel_rfl
theorem spc12 (H : Heap) : call E1 GP 21 [.int .i64 4, .int .i64 2, .isl []] H = some (.agg [.int .i64 4, .int .i64 2, .isl []], H, false) :=
  iso_any (f := a21) (fun _ _ => rfl) rfl rfl rfl (call_of spk12) H
theorem spk13 : callN E1 GP 1000 21 [.int .i64 3, .int .i64 2, .isl [.int .i64 2, .int .i64 2]] [] = some (cA ⟨3, 2, [(2, 2)]⟩, [], false) := by kernel_rfl
theorem spc13 (H : Heap) : call E1 GP 21 [.int .i64 3, .int .i64 2, .isl [.int .i64 2, .int .i64 2]] H = some (.agg [.int .i64 3, .int .i64 2, .isl [fA (2, 2)]], H, false) :=
  iso_any (f := a21) (fun _ _ => rfl) rfl rfl rfl (call_of spk13) H
theorem spk14 : callN E1 GP 1000 21 [.int .i64 4, .int .i64 2, .isl [.int .i64 2, .int .i64 2]] [] = some (cA ⟨4, 2, [(2, 2)]⟩, [], false) := by kernel_rfl
theorem spc14 (H : Heap) : call E1 GP 21 [.int .i64 4, .int .i64 2, .isl [.int .i64 2, .int .i64 2]] H = some (.agg [.int .i64 4, .int .i64 2, .isl [fA (2, 2)]], H, false) :=
  iso_any (f := a21) (fun _ _ => rfl) rfl rfl rfl (call_of spk14) H
theorem spk15 : callN E1 GP 1000 21 [.int .i64 3, .int .i64 2, .isl [.int .i64 2, .int .i64 3]] [] = some (cA ⟨3, 2, [(2, 3)]⟩, [], false) := by kernel_rfl
theorem spc15 (H : Heap) : call E1 GP 21 [.int .i64 3, .int .i64 2, .isl [.int .i64 2, .int .i64 3]] H = some (.agg [.int .i64 3, .int .i64 2, .isl [fA (2, 3)]], H, false) :=
  iso_any (f := a21) (fun _ _ => rfl) rfl rfl rfl (call_of spk15) H
theorem spk16 : callN E1 GP 1000 21 [.int .i64 4, .int .i64 3, .isl []] [] = some (cA ⟨4, 3, []⟩, [], false) := by kernel_rfl
theorem spc16 (H : Heap) : call E1 GP 21 [.int .i64 4, .int .i64 3, .isl []] H = some (.agg [.int .i64 4, .int .i64 3, .isl []], H, false) :=
  iso_any (f := a21) (fun _ _ => rfl) rfl rfl rfl (call_of spk16) H
theorem spk17 : callN E1 GP 1000 21 [.int .i64 3, .int .i64 2, .isl [.int .i64 2, .int .i64 4]] [] = some (cA ⟨3, 2, [(2, 4)]⟩, [], false) := by kernel_rfl
theorem spc17 (H : Heap) : call E1 GP 21 [.int .i64 3, .int .i64 2, .isl [.int .i64 2, .int .i64 4]] H = some (.agg [.int .i64 3, .int .i64 2, .isl [fA (2, 4)]], H, false) :=
  iso_any (f := a21) (fun _ _ => rfl) rfl rfl rfl (call_of spk17) H
theorem spk18 : callN E1 GP 1000 21 [.int .i64 4, .int .i64 2, .isl [.int .i64 2, .int .i64 6]] [] = some (cA ⟨4, 2, [(2, 6)]⟩, [], false) := by kernel_rfl
theorem spc18 (H : Heap) : call E1 GP 21 [.int .i64 4, .int .i64 2, .isl [.int .i64 2, .int .i64 6]] H = some (.agg [.int .i64 4, .int .i64 2, .isl [fA (2, 6)]], H, false) :=
  iso_any (f := a21) (fun _ _ => rfl) rfl rfl rfl (call_of spk18) H
theorem spk19 : callN E1 GP 1000 21 [.int .i64 5, .int .i64 1, .isl []] [] = some (cA ⟨5, 1, []⟩, [], false) := by kernel_rfl
theorem spc19 (H : Heap) : call E1 GP 21 [.int .i64 5, .int .i64 1, .isl []] H = some (.agg [.int .i64 5, .int .i64 1, .isl []], H, false) :=
  iso_any (f := a21) (fun _ _ => rfl) rfl rfl rfl (call_of spk19) H
theorem spk20 : callN E1 GP 1000 21 [.int .i64 6, .int .i64 2, .isl [.int .i64 5, .int .i64 2]] [] = some (cA ⟨6, 2, [(5, 2)]⟩, [], false) := by kernel_rfl
theorem spc20 (H : Heap) : call E1 GP 21 [.int .i64 6, .int .i64 2, .isl [.int .i64 5, .int .i64 2]] H = some (.agg [.int .i64 6, .int .i64 2, .isl [fA (5, 2)]], H, false) :=
  iso_any (f := a21) (fun _ _ => rfl) rfl rfl rfl (call_of spk20) H
theorem r26_space (k : Nat) (hk : k < 256) (H : Heap) : call E1 GP 27 [.int .u8 k] H = some (.isl ((spaceC (k % 14)).map cA), H, false) := by
  rw [call_fun (by rfl) (f := a27) rfl rfl]
  have hm : ((k : Nat) : Int).tmod 14 = ((k % 14 : Nat) : Int) := rfl
  have hj2 : k % 14 < 14 := by omega
  have fzf := fz_fA
  have rff := fA_ref
  have sof := solid_fA
  by_cases h0 : k % 14 = 0
  · have hm1 : ((k : Nat) : Int).tmod 14 = 0 := by rw [hm, h0]; rfl
    rw [h0]
    simp (maxSteps := 1000000) only [sim, sik, sil, sit, simprocAttr, Int.cast_ofNat_Int, List.take_length, List.length_map, List.contains_cons, List.contains_nil, spaceC, sp0, a27, a27r0_ev, a27r1_ev, a27r2_ev, a27r3_ev, a27r4_ev, a27r5_ev, a27r6_ev, a27r7_ev, a27r8_ev, a27r9_ev, a27r10_ev, a27r11_ev, a27r12_ev, a27r13_ev, a27r14_ev, a27r15_ev, a27r16_ev, a27r17_ev, a27r18_ev, a27r19_ev, a27r20_ev, a27r21_ev, a27r22_ev, a27r23_ev, a27r24_ev, a27r25_ev, a27r26_ev, a27r27_ev, a27r28_ev, a27r29_ev, a27r30_ev, spc0, spc1, spc2, spc3, spc4, spc5, spc6, spc7, spc8, spc9, spc10, spc11, spc12, spc13, spc14, spc15, spc16, spc17, spc18, spc19, spc20, hm1, fzf, rff, sof, fA_size, List.map_cons, List.map_nil, List.cons_append, List.nil_append, List.append_nil, cA, maxLenA]
  by_cases h1 : k % 14 = 1
  · have hm1 : ((k : Nat) : Int).tmod 14 = 1 := by rw [hm, h1]; rfl
    rw [h1]
    simp (maxSteps := 1000000) only [sim, sik, sil, sit, simprocAttr, Int.cast_ofNat_Int, List.take_length, List.length_map, List.contains_cons, List.contains_nil, spaceC, sp0, a27, a27r0_ev, a27r1_ev, a27r2_ev, a27r3_ev, a27r4_ev, a27r5_ev, a27r6_ev, a27r7_ev, a27r8_ev, a27r9_ev, a27r10_ev, a27r11_ev, a27r12_ev, a27r13_ev, a27r14_ev, a27r15_ev, a27r16_ev, a27r17_ev, a27r18_ev, a27r19_ev, a27r20_ev, a27r21_ev, a27r22_ev, a27r23_ev, a27r24_ev, a27r25_ev, a27r26_ev, a27r27_ev, a27r28_ev, a27r29_ev, a27r30_ev, spc0, spc1, spc2, spc3, spc4, spc5, spc6, spc7, spc8, spc9, spc10, spc11, spc12, spc13, spc14, spc15, spc16, spc17, spc18, spc19, spc20, hm1, fzf, rff, sof, fA_size, List.map_cons, List.map_nil, List.cons_append, List.nil_append, List.append_nil, cA, maxLenA]
  by_cases h2 : k % 14 = 2
  · have hm1 : ((k : Nat) : Int).tmod 14 = 2 := by rw [hm, h2]; rfl
    rw [h2]
    simp (maxSteps := 1000000) only [sim, sik, sil, sit, simprocAttr, Int.cast_ofNat_Int, List.take_length, List.length_map, List.contains_cons, List.contains_nil, spaceC, sp0, a27, a27r0_ev, a27r1_ev, a27r2_ev, a27r3_ev, a27r4_ev, a27r5_ev, a27r6_ev, a27r7_ev, a27r8_ev, a27r9_ev, a27r10_ev, a27r11_ev, a27r12_ev, a27r13_ev, a27r14_ev, a27r15_ev, a27r16_ev, a27r17_ev, a27r18_ev, a27r19_ev, a27r20_ev, a27r21_ev, a27r22_ev, a27r23_ev, a27r24_ev, a27r25_ev, a27r26_ev, a27r27_ev, a27r28_ev, a27r29_ev, a27r30_ev, spc0, spc1, spc2, spc3, spc4, spc5, spc6, spc7, spc8, spc9, spc10, spc11, spc12, spc13, spc14, spc15, spc16, spc17, spc18, spc19, spc20, hm1, fzf, rff, sof, fA_size, List.map_cons, List.map_nil, List.cons_append, List.nil_append, List.append_nil, cA, maxLenA]
  by_cases h3 : k % 14 = 3
  · have hm1 : ((k : Nat) : Int).tmod 14 = 3 := by rw [hm, h3]; rfl
    rw [h3]
    simp (maxSteps := 1000000) only [sim, sik, sil, sit, simprocAttr, Int.cast_ofNat_Int, List.take_length, List.length_map, List.contains_cons, List.contains_nil, spaceC, sp0, a27, a27r0_ev, a27r1_ev, a27r2_ev, a27r3_ev, a27r4_ev, a27r5_ev, a27r6_ev, a27r7_ev, a27r8_ev, a27r9_ev, a27r10_ev, a27r11_ev, a27r12_ev, a27r13_ev, a27r14_ev, a27r15_ev, a27r16_ev, a27r17_ev, a27r18_ev, a27r19_ev, a27r20_ev, a27r21_ev, a27r22_ev, a27r23_ev, a27r24_ev, a27r25_ev, a27r26_ev, a27r27_ev, a27r28_ev, a27r29_ev, a27r30_ev, spc0, spc1, spc2, spc3, spc4, spc5, spc6, spc7, spc8, spc9, spc10, spc11, spc12, spc13, spc14, spc15, spc16, spc17, spc18, spc19, spc20, hm1, fzf, rff, sof, fA_size, List.map_cons, List.map_nil, List.cons_append, List.nil_append, List.append_nil, cA, maxLenA]
  by_cases h4 : k % 14 = 4
  · have hm1 : ((k : Nat) : Int).tmod 14 = 4 := by rw [hm, h4]; rfl
    rw [h4]
    simp (maxSteps := 1000000) only [sim, sik, sil, sit, simprocAttr, Int.cast_ofNat_Int, List.take_length, List.length_map, List.contains_cons, List.contains_nil, spaceC, sp0, a27, a27r0_ev, a27r1_ev, a27r2_ev, a27r3_ev, a27r4_ev, a27r5_ev, a27r6_ev, a27r7_ev, a27r8_ev, a27r9_ev, a27r10_ev, a27r11_ev, a27r12_ev, a27r13_ev, a27r14_ev, a27r15_ev, a27r16_ev, a27r17_ev, a27r18_ev, a27r19_ev, a27r20_ev, a27r21_ev, a27r22_ev, a27r23_ev, a27r24_ev, a27r25_ev, a27r26_ev, a27r27_ev, a27r28_ev, a27r29_ev, a27r30_ev, spc0, spc1, spc2, spc3, spc4, spc5, spc6, spc7, spc8, spc9, spc10, spc11, spc12, spc13, spc14, spc15, spc16, spc17, spc18, spc19, spc20, hm1, fzf, rff, sof, fA_size, List.map_cons, List.map_nil, List.cons_append, List.nil_append, List.append_nil, cA, maxLenA]
  by_cases h5 : k % 14 = 5
  · have hm1 : ((k : Nat) : Int).tmod 14 = 5 := by rw [hm, h5]; rfl
    rw [h5]
    simp (maxSteps := 1000000) only [sim, sik, sil, sit, simprocAttr, Int.cast_ofNat_Int, List.take_length, List.length_map, List.contains_cons, List.contains_nil, spaceC, sp0, a27, a27r0_ev, a27r1_ev, a27r2_ev, a27r3_ev, a27r4_ev, a27r5_ev, a27r6_ev, a27r7_ev, a27r8_ev, a27r9_ev, a27r10_ev, a27r11_ev, a27r12_ev, a27r13_ev, a27r14_ev, a27r15_ev, a27r16_ev, a27r17_ev, a27r18_ev, a27r19_ev, a27r20_ev, a27r21_ev, a27r22_ev, a27r23_ev, a27r24_ev, a27r25_ev, a27r26_ev, a27r27_ev, a27r28_ev, a27r29_ev, a27r30_ev, spc0, spc1, spc2, spc3, spc4, spc5, spc6, spc7, spc8, spc9, spc10, spc11, spc12, spc13, spc14, spc15, spc16, spc17, spc18, spc19, spc20, hm1, fzf, rff, sof, fA_size, List.map_cons, List.map_nil, List.cons_append, List.nil_append, List.append_nil, cA, maxLenA]
  by_cases h6 : k % 14 = 6
  · have hm1 : ((k : Nat) : Int).tmod 14 = 6 := by rw [hm, h6]; rfl
    rw [h6]
    simp (maxSteps := 1000000) only [sim, sik, sil, sit, simprocAttr, Int.cast_ofNat_Int, List.take_length, List.length_map, List.contains_cons, List.contains_nil, spaceC, sp0, a27, a27r0_ev, a27r1_ev, a27r2_ev, a27r3_ev, a27r4_ev, a27r5_ev, a27r6_ev, a27r7_ev, a27r8_ev, a27r9_ev, a27r10_ev, a27r11_ev, a27r12_ev, a27r13_ev, a27r14_ev, a27r15_ev, a27r16_ev, a27r17_ev, a27r18_ev, a27r19_ev, a27r20_ev, a27r21_ev, a27r22_ev, a27r23_ev, a27r24_ev, a27r25_ev, a27r26_ev, a27r27_ev, a27r28_ev, a27r29_ev, a27r30_ev, spc0, spc1, spc2, spc3, spc4, spc5, spc6, spc7, spc8, spc9, spc10, spc11, spc12, spc13, spc14, spc15, spc16, spc17, spc18, spc19, spc20, hm1, fzf, rff, sof, fA_size, List.map_cons, List.map_nil, List.cons_append, List.nil_append, List.append_nil, cA, maxLenA]
  by_cases h7 : k % 14 = 7
  · have hm1 : ((k : Nat) : Int).tmod 14 = 7 := by rw [hm, h7]; rfl
    rw [h7]
    simp (maxSteps := 1000000) only [sim, sik, sil, sit, simprocAttr, Int.cast_ofNat_Int, List.take_length, List.length_map, List.contains_cons, List.contains_nil, spaceC, sp0, a27, a27r0_ev, a27r1_ev, a27r2_ev, a27r3_ev, a27r4_ev, a27r5_ev, a27r6_ev, a27r7_ev, a27r8_ev, a27r9_ev, a27r10_ev, a27r11_ev, a27r12_ev, a27r13_ev, a27r14_ev, a27r15_ev, a27r16_ev, a27r17_ev, a27r18_ev, a27r19_ev, a27r20_ev, a27r21_ev, a27r22_ev, a27r23_ev, a27r24_ev, a27r25_ev, a27r26_ev, a27r27_ev, a27r28_ev, a27r29_ev, a27r30_ev, spc0, spc1, spc2, spc3, spc4, spc5, spc6, spc7, spc8, spc9, spc10, spc11, spc12, spc13, spc14, spc15, spc16, spc17, spc18, spc19, spc20, hm1, fzf, rff, sof, fA_size, List.map_cons, List.map_nil, List.cons_append, List.nil_append, List.append_nil, cA, maxLenA]
  by_cases h8 : k % 14 = 8
  · have hm1 : ((k : Nat) : Int).tmod 14 = 8 := by rw [hm, h8]; rfl
    rw [h8]
    simp (maxSteps := 1000000) only [sim, sik, sil, sit, simprocAttr, Int.cast_ofNat_Int, List.take_length, List.length_map, List.contains_cons, List.contains_nil, spaceC, sp0, a27, a27r0_ev, a27r1_ev, a27r2_ev, a27r3_ev, a27r4_ev, a27r5_ev, a27r6_ev, a27r7_ev, a27r8_ev, a27r9_ev, a27r10_ev, a27r11_ev, a27r12_ev, a27r13_ev, a27r14_ev, a27r15_ev, a27r16_ev, a27r17_ev, a27r18_ev, a27r19_ev, a27r20_ev, a27r21_ev, a27r22_ev, a27r23_ev, a27r24_ev, a27r25_ev, a27r26_ev, a27r27_ev, a27r28_ev, a27r29_ev, a27r30_ev, spc0, spc1, spc2, spc3, spc4, spc5, spc6, spc7, spc8, spc9, spc10, spc11, spc12, spc13, spc14, spc15, spc16, spc17, spc18, spc19, spc20, hm1, fzf, rff, sof, fA_size, List.map_cons, List.map_nil, List.cons_append, List.nil_append, List.append_nil, cA, maxLenA]
  by_cases h9 : k % 14 = 9
  · have hm1 : ((k : Nat) : Int).tmod 14 = 9 := by rw [hm, h9]; rfl
    rw [h9]
    simp (maxSteps := 1000000) only [sim, sik, sil, sit, simprocAttr, Int.cast_ofNat_Int, List.take_length, List.length_map, List.contains_cons, List.contains_nil, spaceC, sp0, a27, a27r0_ev, a27r1_ev, a27r2_ev, a27r3_ev, a27r4_ev, a27r5_ev, a27r6_ev, a27r7_ev, a27r8_ev, a27r9_ev, a27r10_ev, a27r11_ev, a27r12_ev, a27r13_ev, a27r14_ev, a27r15_ev, a27r16_ev, a27r17_ev, a27r18_ev, a27r19_ev, a27r20_ev, a27r21_ev, a27r22_ev, a27r23_ev, a27r24_ev, a27r25_ev, a27r26_ev, a27r27_ev, a27r28_ev, a27r29_ev, a27r30_ev, spc0, spc1, spc2, spc3, spc4, spc5, spc6, spc7, spc8, spc9, spc10, spc11, spc12, spc13, spc14, spc15, spc16, spc17, spc18, spc19, spc20, hm1, fzf, rff, sof, fA_size, List.map_cons, List.map_nil, List.cons_append, List.nil_append, List.append_nil, cA, maxLenA]
  by_cases h10 : k % 14 = 10
  · have hm1 : ((k : Nat) : Int).tmod 14 = 10 := by rw [hm, h10]; rfl
    rw [h10]
    simp (maxSteps := 1000000) only [sim, sik, sil, sit, simprocAttr, Int.cast_ofNat_Int, List.take_length, List.length_map, List.contains_cons, List.contains_nil, spaceC, sp0, a27, a27r0_ev, a27r1_ev, a27r2_ev, a27r3_ev, a27r4_ev, a27r5_ev, a27r6_ev, a27r7_ev, a27r8_ev, a27r9_ev, a27r10_ev, a27r11_ev, a27r12_ev, a27r13_ev, a27r14_ev, a27r15_ev, a27r16_ev, a27r17_ev, a27r18_ev, a27r19_ev, a27r20_ev, a27r21_ev, a27r22_ev, a27r23_ev, a27r24_ev, a27r25_ev, a27r26_ev, a27r27_ev, a27r28_ev, a27r29_ev, a27r30_ev, spc0, spc1, spc2, spc3, spc4, spc5, spc6, spc7, spc8, spc9, spc10, spc11, spc12, spc13, spc14, spc15, spc16, spc17, spc18, spc19, spc20, hm1, fzf, rff, sof, fA_size, List.map_cons, List.map_nil, List.cons_append, List.nil_append, List.append_nil, cA, maxLenA]
  by_cases h11 : k % 14 = 11
  · have hm1 : ((k : Nat) : Int).tmod 14 = 11 := by rw [hm, h11]; rfl
    rw [h11]
    simp (maxSteps := 1000000) only [sim, sik, sil, sit, simprocAttr, Int.cast_ofNat_Int, List.take_length, List.length_map, List.contains_cons, List.contains_nil, spaceC, sp0, a27, a27r0_ev, a27r1_ev, a27r2_ev, a27r3_ev, a27r4_ev, a27r5_ev, a27r6_ev, a27r7_ev, a27r8_ev, a27r9_ev, a27r10_ev, a27r11_ev, a27r12_ev, a27r13_ev, a27r14_ev, a27r15_ev, a27r16_ev, a27r17_ev, a27r18_ev, a27r19_ev, a27r20_ev, a27r21_ev, a27r22_ev, a27r23_ev, a27r24_ev, a27r25_ev, a27r26_ev, a27r27_ev, a27r28_ev, a27r29_ev, a27r30_ev, spc0, spc1, spc2, spc3, spc4, spc5, spc6, spc7, spc8, spc9, spc10, spc11, spc12, spc13, spc14, spc15, spc16, spc17, spc18, spc19, spc20, hm1, fzf, rff, sof, fA_size, List.map_cons, List.map_nil, List.cons_append, List.nil_append, List.append_nil, cA, maxLenA]
  by_cases h12 : k % 14 = 12
  · have hm1 : ((k : Nat) : Int).tmod 14 = 12 := by rw [hm, h12]; rfl
    rw [h12]
    simp (maxSteps := 1000000) only [sim, sik, sil, sit, simprocAttr, Int.cast_ofNat_Int, List.take_length, List.length_map, List.contains_cons, List.contains_nil, spaceC, sp0, a27, a27r0_ev, a27r1_ev, a27r2_ev, a27r3_ev, a27r4_ev, a27r5_ev, a27r6_ev, a27r7_ev, a27r8_ev, a27r9_ev, a27r10_ev, a27r11_ev, a27r12_ev, a27r13_ev, a27r14_ev, a27r15_ev, a27r16_ev, a27r17_ev, a27r18_ev, a27r19_ev, a27r20_ev, a27r21_ev, a27r22_ev, a27r23_ev, a27r24_ev, a27r25_ev, a27r26_ev, a27r27_ev, a27r28_ev, a27r29_ev, a27r30_ev, spc0, spc1, spc2, spc3, spc4, spc5, spc6, spc7, spc8, spc9, spc10, spc11, spc12, spc13, spc14, spc15, spc16, spc17, spc18, spc19, spc20, hm1, fzf, rff, sof, fA_size, List.map_cons, List.map_nil, List.cons_append, List.nil_append, List.append_nil, cA, maxLenA]
  by_cases h13 : k % 14 = 13
  · have hm1 : ((k : Nat) : Int).tmod 14 = 13 := by rw [hm, h13]; rfl
    rw [h13]
    simp (maxSteps := 1000000) only [sim, sik, sil, sit, simprocAttr, Int.cast_ofNat_Int, List.take_length, List.length_map, List.contains_cons, List.contains_nil, spaceC, sp0, a27, a27r0_ev, a27r1_ev, a27r2_ev, a27r3_ev, a27r4_ev, a27r5_ev, a27r6_ev, a27r7_ev, a27r8_ev, a27r9_ev, a27r10_ev, a27r11_ev, a27r12_ev, a27r13_ev, a27r14_ev, a27r15_ev, a27r16_ev, a27r17_ev, a27r18_ev, a27r19_ev, a27r20_ev, a27r21_ev, a27r22_ev, a27r23_ev, a27r24_ev, a27r25_ev, a27r26_ev, a27r27_ev, a27r28_ev, a27r29_ev, a27r30_ev, spc0, spc1, spc2, spc3, spc4, spc5, spc6, spc7, spc8, spc9, spc10, spc11, spc12, spc13, spc14, spc15, spc16, spc17, spc18, spc19, spc20, hm1, fzf, rff, sof, fA_size, List.map_cons, List.map_nil, List.cons_append, List.nil_append, List.append_nil, cA, maxLenA]
  omega
end Tor
namespace Tor
open Go
theorem cellsC_app (c : List Cel) (x : Cel) (k : Int) : cellsC (c ++ [x]) k = cellsC c k ++ (if x.dim = k then [x.id] else []) := by
  unfold cellsC
  rw [List.filter_append, List.map_append]
  congr 1
  by_cases h : x.dim = k <;> simp [h]
theorem cell_app {c : List Cel} {x : Cel} {i : Int} (h : ∃ y ∈ c, y.id = i) : cellOf? (c ++ [x]) i = cellOf? c i := by
  unfold cellOf? findC
  rw [List.find?_append]
  cases hf : c.find? (fun x => decide (x.id = i)) with
  | some y => rfl
  | none =>
    obtain ⟨y, hy, he⟩ := h
    have := List.find?_eq_none.1 hf y hy
    simp [he] at this
theorem lin_congr {f g : Int → Int} : ∀ {l : List (Int × Int)}, (∀ p ∈ l, f p.1 = g p.1) → lin f l = lin g l
  | [], _ => rfl
  | p :: r, h => by simp only [lin]; rw [h p (.head _), lin_congr (fun q hq => h q (.tail _ hq))]
theorem gB_law (P : Int → Prop) (N Lc : Nat) (f : Int → Int) : ∀ (L : List (List (Int × Int))) (es : List Int) (i : Nat) (b : List (Int × Int)), (∀ e ∈ es, -3 ≤ e ∧ e ≤ 3) →
    (∀ l ∈ L, Bd N l ∧ l.length ≤ Lc ∧ Canon none l ∧ (∀ p ∈ l, P p.1) ∧ lin f l = 0) → Bd (3 * N * Lc * i) b → b.length ≤ Lc * i → Canon none b → (∀ p ∈ b, P p.1) → lin f b = 0 →
    ∀ b', b' = (L.zip es).foldl (fun b p => add26 b p.1 p.2) b → Bd (3 * N * Lc * (i + es.length)) b' ∧ b'.length ≤ Lc * (i + es.length) ∧ Canon none b' ∧ (∀ p ∈ b', P p.1) ∧ lin f b' = 0
  | [], es, i, b, he, hL, h1, h2, h3, h4, h5, b', hb => by
    rw [hb]
    show Bd _ b ∧ b.length ≤ _ ∧ Canon none b ∧ (∀ p ∈ b, P p.1) ∧ lin f b = 0
    exact ⟨bd_mono (Nat.mul_le_mul_left _ (by omega)) h1, Nat.le_trans h2 (Nat.mul_le_mul_left _ (by omega)), h3, h4, h5⟩
  | l :: L, [], i, b, he, hL, h1, h2, h3, h4, h5, b', hb => by
    rw [hb]
    show Bd _ b ∧ b.length ≤ _ ∧ Canon none b ∧ (∀ p ∈ b, P p.1) ∧ lin f b = 0
    exact ⟨bd_mono (Nat.mul_le_mul_left _ (by omega)) h1, Nat.le_trans h2 (Nat.mul_le_mul_left _ (by omega)), h3, h4, h5⟩
  | l :: L, e :: es, i, b, he, hL, h1, h2, h3, h4, h5, b', hb => by
    obtain ⟨g1, g2, g3, g4, g5⟩ := hL l (.head _)
    have he1 := he e (.head _)
    have hp : ∀ p ∈ l, (e * p.2).natAbs ≤ 3 * N := fun p hp => by
      rw [Int.natAbs_mul]; exact Nat.mul_le_mul (by omega) (g1 p hp)
    obtain ⟨a1, a2⟩ := add_bd e l b (3 * N * Lc * i) hp h1
    have mm : 3 * N * l.length ≤ 3 * N * Lc := Nat.mul_le_mul_left _ g2
    have := gB_law P N Lc f L es (i + 1) (add26 b l e) (fun x hx => he x (.tail _ hx)) (fun x hx => hL x (.tail _ hx))
      (bd_mono (by rw [Nat.mul_succ]; omega) a1) (by rw [Nat.mul_succ]; omega) (add_law e l b h3).1 (add_keys e l b g4 h4) (by rw [lin_add, h5, g5]; omega) b' (by rw [hb, List.zip_cons_cons, List.foldl_cons])
    rw [List.length_cons]
    have e1 : i + 1 + es.length = i + (es.length + 1) := by omega
    rw [e1] at this
    exact this
theorem last_max {c : List Cel} (h : c.Pairwise (fun x y => x.id < y.id)) (hc : 0 < c.length) : ∀ y ∈ c, y.id ≤ (c.getD (c.length - 1) zC).id := by
  intro y hy
  obtain ⟨i, hi, rfl⟩ := List.mem_iff_getElem.1 hy
  have e : c.getD (c.length - 1) zC = c[c.length - 1] := by simp [List.getD, show c.length - 1 < c.length by omega]
  rw [e]
  rcases Nat.lt_or_ge i (c.length - 1) with h1 | h1
  · have := List.pairwise_iff_getElem.1 h i (c.length - 1) hi (by omega) h1
    omega
  · have : i = c.length - 1 := by omega
    subst this; exact Int.le_refl _
theorem grow_n (s : GS) (d k : Nat) (hd : d ≤ 3) : (s.grow d).n k = s.n k + (if d = k then 1 else 0) := by
  rcases d with _ | _ | _ | _ | d
  · rcases k with _ | _ | _ | _ | k <;> simp [GS.grow, GS.n]
  · rcases k with _ | _ | _ | _ | k <;> simp [GS.grow, GS.n]
  · rcases k with _ | _ | _ | _ | k <;> simp [GS.grow, GS.n]
  · rcases k with _ | _ | _ | _ | k <;> simp [GS.grow, GS.n]
  · omega
theorem grow_b (s : GS) (d k : Nat) : s.b k ≤ (s.grow d).b k := by
  rcases d with _ | _ | _ | _ | d
  · rcases k with _ | _ | _ | _ | k <;> simp [GS.grow, GS.b]
  · rcases k with _ | _ | _ | _ | k <;> simp [GS.grow, GS.b] <;> omega
  · rcases k with _ | _ | _ | _ | k <;> simp [GS.grow, GS.b] <;> omega
  · rcases k with _ | _ | _ | _ | k <;> simp [GS.grow, GS.b] <;> omega
  · exact Nat.le_refl _
theorem grow_k (s : GS) (d : Nat) (h1 : 1 ≤ d) (h3 : d ≤ 3) : s.kb (d - 1) + 8 ≤ (s.grow d).b d := by
  rcases d with _ | _ | _ | _ | d
  · omega
  · simp [GS.grow, GS.b]; omega
  · simp [GS.grow, GS.b]; omega
  · simp [GS.grow, GS.b]; omega
  · omega
variable {E : CallF} (hE : Free E)
include hE
theorem good_grow {c : List Cel} {s : GS} {m : Nat} (h : Good c s m) (h1m : 1 ≤ m) (hm : m ≤ 15) (hbig : ∀ k, s.kb k + 16 ≤ 16000000000) (x : Dg) (hx : x.ok) :
    ∃ c', Good c' (s.grow (gDim x).toNat) (m + 1) ∧ ∀ H, call E GP 28 [.isl (c.map cA), gA x] H = some (.isl (c'.map cA), H, false) := by
  have hu := u8w x.a
  have td1 := Int.tmod_lt_of_pos (IntKind.u8.wrap x.a) (show (0 : Int) < 4 by omega)
  have td2 := Int.tmod_nonneg 4 hu.1
  have hlen := h.len
  obtain ⟨L, l1, l2, l3⟩ := cycles_good hE h (by omega) (gDim x - 1) (by unfold gDim; omega) hbig
  have hkb := hbig (gDim x - 1).toNat
  generalize hK : (gDim x - 1).toNat = kk at *
  have hgr := r26_grown hE c x hx L (2 ^ s.kb kk) m (by omega) (fun y hy => by have := h.idr y hy; omega) (by omega) l1 (fun l hl => ⟨(l3 l hl).2.1, (l3 l hl).2.2.1⟩)
    (by
      have : 12 * 2 ^ s.kb kk * (m + 1) = 2 ^ s.kb kk * (12 * (m + 1)) := by rw [Nat.mul_comm 12, Nat.mul_assoc]
      rw [this]
      exact mul_big (j := 8) (Nat.le_refl _) (by omega) (by omega)) (by omega)
  refine ⟨grown c x L, ?_, hgr⟩
  have hgB : ∀ id, Bd (3 * 2 ^ s.kb kk * m * (0 + 3)) (gB L x.cs) ∧ (gB L x.cs).length ≤ m * (0 + 3) ∧ Canon none (gB L x.cs) ∧ (∀ p ∈ gB L x.cs, p.1 ∈ cellsC c (gDim x - 1)) ∧ lin (fun i => lookL id (cellOf? c i).b) (gB L x.cs) = 0 := fun id =>
    gB_law (· ∈ cellsC c (gDim x - 1)) (2 ^ s.kb kk) m (fun i => lookL id (cellOf? c i).b) L x.cs 0 [] (fun e he => by
      unfold Dg.cs at he
      have ts : ∀ y : Int, -3 ≤ y.tmod 4 ∧ y.tmod 4 ≤ 3 := fun y => by
        have t1 := Int.tmod_lt_of_pos y (show (0 : Int) < 4 by omega)
        have t2 := Int.lt_tmod_of_pos y (show (0 : Int) < 4 by omega)
        omega
      simp only [List.mem_cons, List.not_mem_nil, or_false] at he
      rcases he with rfl | rfl | rfl <;> exact ts _) (fun l hl => by
        obtain ⟨_, a1, a2, a3, a4, a5⟩ := l3 l hl
        exact ⟨a1, a2, a3, a4, a5 id⟩) (fun p hp => by cases hp) (Nat.zero_le _) trivial (fun p hp => by cases hp) rfl _ rfl
  have hold : ∀ i, (∃ k, i ∈ cellsC c k) → cellOf? (grown c x L) i = cellOf? c i := fun i ⟨k, hi⟩ => by
    obtain ⟨y, hy, _, he⟩ := cells_mem.1 hi
    exact cell_app ⟨y, hy, he⟩
  have hL0 : ¬ 1 ≤ gDim x → L = [] := fun hd => by
    cases L with
    | nil => rfl
    | cons l r => have := (l3 l (.head _)).1; omega
  have hdn : (gDim x).toNat ≤ 3 := by unfold gDim; omega
  refine ⟨?_, ?_, ?_, ?_, ?_, ?_, ?_, ?_, ?_, ?_⟩
  · unfold grown; simp; omega
  · unfold grown
    rw [List.pairwise_append]
    refine ⟨h.ids, List.pairwise_singleton _ _, fun y hy z hz => ?_⟩
    simp only [List.mem_singleton] at hz
    subst hz
    have hpos : 0 < c.length := List.length_pos_of_mem hy
    have := last_max h.ids hpos y hy
    show y.id < gId c x
    unfold gId
    rw [if_neg (by omega)]
    have := Int.tdiv_nonneg hu.1 (show (0 : Int) ≤ 128 by omega)
    omega
  · intro y hy
    unfold grown at hy
    rcases List.mem_append.1 hy with hy | hy
    · have := h.idr y hy; omega
    · simp only [List.mem_singleton] at hy
      subst hy
      show 1 ≤ gId c x ∧ gId c x ≤ 2 * (((m + 1 : Nat)) : Int)
      unfold gId
      split
      · omega
      · have hpos : 0 < c.length := by omega
        have hl : c.getD (c.length - 1) zC ∈ c := by simp [List.getD, show c.length - 1 < c.length by omega]
        have := h.idr _ hl
        have h1 := Int.tdiv_nonneg hu.1 (show (0 : Int) ≤ 128 by omega)
        have h2 : (IntKind.u8.wrap x.a).tdiv 128 ≤ 1 := by
          rw [Int.tdiv_eq_ediv_of_nonneg hu.1]; omega
        omega
  · intro y hy
    unfold grown at hy
    rcases List.mem_append.1 hy with hy | hy
    · exact h.dims y hy
    · simp only [List.mem_singleton] at hy
      subst hy
      show 0 ≤ gDim x ∧ gDim x ≤ 3
      unfold gDim; omega
  · intro k hk
    unfold grown
    rw [cellsC_app, List.length_append, h.cnt k hk, grow_n s _ k hdn]
    show s.n k + (if gDim x = (k : Int) then [gId c x] else []).length = _
    by_cases e : gDim x = (k : Int)
    · rw [if_pos e, if_pos (by omega)]; rfl
    · rw [if_neg e, if_neg (by unfold gDim at *; omega)]; rfl
  · intro y hy
    unfold grown at hy
    rcases List.mem_append.1 hy with hy | hy
    · exact bd_mono (Nat.pow_le_pow_right (by decide) (grow_b s _ _)) (h.bd y hy)
    · simp only [List.mem_singleton] at hy
      subst hy
      show Bd (2 ^ (s.grow (gDim x).toNat).b (gDim x).toNat) (gB L x.cs)
      by_cases hd : 1 ≤ gDim x
      · refine bd_mono ?_ (hgB 0).1
        have hk8 := grow_k s (gDim x).toNat (by omega) hdn
        rw [show (gDim x).toNat - 1 = kk by omega] at hk8
        refine Nat.le_trans ?_ (Nat.pow_le_pow_right (by decide) hk8)
        rw [Nat.pow_add]
        have : 3 * 2 ^ s.kb kk * m * (0 + 3) = 2 ^ s.kb kk * (9 * m) := by
          rw [Nat.mul_comm 3, Nat.mul_assoc, Nat.mul_assoc]; congr 1; omega
        rw [this]
        exact Nat.mul_le_mul_left _ (by omega)
      · have := hL0 hd
        subst this
        intro p hp
        simp [gB] at hp
  · intro y hy
    unfold grown at hy
    rcases List.mem_append.1 hy with hy | hy
    · exact h.cn y hy
    · simp only [List.mem_singleton] at hy
      subst hy; exact (hgB 0).2.2.1
  · intro y hy p hp
    unfold grown at hy ⊢
    rw [cellsC_app]
    rcases List.mem_append.1 hy with hy | hy
    · exact List.mem_append_left _ (h.key y hy p hp)
    · simp only [List.mem_singleton] at hy
      subst hy
      exact List.mem_append_left _ ((hgB 0).2.2.2.1 p hp)
  · intro y hy
    unfold grown at hy
    rcases List.mem_append.1 hy with hy | hy
    · exact h.bl y hy
    · simp only [List.mem_singleton] at hy
      subst hy
      have := (hgB 0).2.1
      show (gB L x.cs).length ≤ 150
      omega
  · intro y hy id
    have hy' := hy
    unfold grown at hy
    rcases List.mem_append.1 hy with hy | hy
    · rw [← h.bb y hy id]
      exact lin_congr fun p hp => by rw [hold _ ⟨_, h.key y hy p hp⟩]
    · simp only [List.mem_singleton] at hy
      subst hy
      rw [← (hgB id).2.2.2.2]
      exact lin_congr fun p hp => by rw [hold _ ⟨_, (hgB id).2.2.2.1 p hp⟩]
end Tor
namespace Tor
open Go
def gsp : Nat → GS
  | 1 => ⟨1, 0, 0, 0, 0, 0, 0⟩
  | 2 => ⟨2, 0, 0, 0, 0, 0, 0⟩
  | 3 => ⟨2, 1, 0, 0, 0, 0, 0⟩
  | 4 => ⟨1, 1, 0, 0, 0, 0, 0⟩
  | 5 => ⟨3, 3, 0, 0, 0, 0, 0⟩
  | 6 => ⟨3, 3, 1, 0, 0, 0, 0⟩
  | 7 => ⟨1, 0, 1, 0, 0, 0, 0⟩
  | 8 => ⟨1, 2, 1, 0, 0, 0, 0⟩
  | 9 => ⟨1, 1, 1, 0, 0, 1, 0⟩
  | 10 => ⟨1, 2, 1, 0, 0, 1, 0⟩
  | 11 => ⟨1, 1, 1, 1, 0, 2, 0⟩
  | 12 => ⟨1, 1, 2, 0, 0, 3, 0⟩
  | 13 => ⟨2, 2, 1, 0, 0, 1, 0⟩
  | _ => ⟨0, 0, 0, 0, 0, 0, 0⟩
def GS.fin (s : GS) : Bool := decide (s.b1 ≤ 1000000000) && decide (s.b2 ≤ 1000000000) && decide (s.b3 ≤ 1000000000)
def GS.kok (s : GS) : Bool := decide (s.kb 1 + 16 ≤ 16000000000) && decide (s.kb 2 + 16 ≤ 16000000000)
def okT : Nat → GS → Bool
  | 0, s => s.fin
  | f + 1, s => s.fin && (s.kok && (okT f (s.grow 0) && (okT f (s.grow 1) && (okT f (s.grow 2) && okT f (s.grow 3)))))
theorem ok_all : ((List.range 14).all fun j => okT 4 (gsp j)) = true := by kernel_rfl
theorem kok_all {s : GS} (h : s.kok = true) : ∀ k, s.kb k + 16 ≤ 16000000000 := by
  unfold GS.kok at h
  simp only [Bool.and_eq_true, decide_eq_true_eq] at h
  intro k
  rcases k with _ | _ | _ | k
  · simp [GS.kb]
  · exact h.1
  · exact h.2
  · simp [GS.kb]
theorem gs_good (j : Nat) (hj : j < 14) : Good (spaceC j) (gsp j) 7 := by
  have mk : ∀ (c : List Cel) (s : GS), c.length ≤ 7 → c.Pairwise (fun x y => x.id < y.id) → (∀ x ∈ c, (1 ≤ x.id ∧ x.id ≤ 14) ∧ (0 ≤ x.dim ∧ x.dim ≤ 3) ∧ Bd (2 ^ s.b x.dim.toNat) x.b ∧ Canon none x.b ∧ (∀ p ∈ x.b, p.1 ∈ cellsC c (x.dim - 1)) ∧ x.b.length ≤ 150 ∧ ∀ id, lin (fun i => lookL id (cellOf? c i).b) x.b = 0) →
      (∀ k : Nat, k ≤ 3 → (cellsC c k).length = s.n k) → Good c s 7 := fun c s h1 h2 h3 h4 =>
    ⟨h1, h2, fun x hx => by have := (h3 x hx).1; omega, fun x hx => (h3 x hx).2.1, h4, fun x hx => (h3 x hx).2.2.1, fun x hx => (h3 x hx).2.2.2.1, fun x hx => (h3 x hx).2.2.2.2.1, fun x hx => (h3 x hx).2.2.2.2.2.1, fun x hx => (h3 x hx).2.2.2.2.2.2⟩
  have hk4 : ∀ k : Nat, k ≤ 3 → k = 0 ∨ k = 1 ∨ k = 2 ∨ k = 3 := fun k h => by omega
  have cases14 : j = 0 ∨ j = 1 ∨ j = 2 ∨ j = 3 ∨ j = 4 ∨ j = 5 ∨ j = 6 ∨ j = 7 ∨ j = 8 ∨ j = 9 ∨ j = 10 ∨ j = 11 ∨ j = 12 ∨ j = 13 := by omega
  rcases cases14 with rfl | rfl | rfl | rfl | rfl | rfl | rfl | rfl | rfl | rfl | rfl | rfl | rfl | rfl
  all_goals
    refine mk _ _ (by decide) (by simp [spaceC, sp0]) ?_ (fun k hk => by rcases hk4 k hk with rfl | rfl | rfl | rfl <;> rfl)
    intro x hx
    simp only [spaceC, sp0, List.cons_append, List.nil_append, List.mem_cons, List.not_mem_nil, or_false, false_or] at hx
  all_goals
    first
    | (rcases hx with rfl | rfl | rfl | rfl | rfl | rfl | rfl <;> (refine ⟨by decide, by decide, ?_, ?_, ?_, by decide, ?_⟩ <;> simp [Bd, Canon, gsp, GS.b, spaceC, sp0, cellsC, lin, cellOf?, findC, zC, lookL] <;> (try (intro id; repeat' split)) <;> (try omega)))
    | (rcases hx with rfl | rfl | rfl | rfl | rfl | rfl <;> (refine ⟨by decide, by decide, ?_, ?_, ?_, by decide, ?_⟩ <;> simp [Bd, Canon, gsp, GS.b, spaceC, sp0, cellsC, lin, cellOf?, findC, zC, lookL] <;> (try (intro id; repeat' split)) <;> (try omega)))
    | (rcases hx with rfl | rfl | rfl | rfl | rfl <;> (refine ⟨by decide, by decide, ?_, ?_, ?_, by decide, ?_⟩ <;> simp [Bd, Canon, gsp, GS.b, spaceC, sp0, cellsC, lin, cellOf?, findC, zC, lookL] <;> (try (intro id; repeat' split)) <;> (try omega)))
    | (rcases hx with rfl | rfl | rfl | rfl <;> (refine ⟨by decide, by decide, ?_, ?_, ?_, by decide, ?_⟩ <;> simp [Bd, Canon, gsp, GS.b, spaceC, sp0, cellsC, lin, cellOf?, findC, zC, lookL] <;> (try (intro id; repeat' split)) <;> (try omega)))
    | (rcases hx with rfl | rfl | rfl <;> (refine ⟨by decide, by decide, ?_, ?_, ?_, by decide, ?_⟩ <;> simp [Bd, Canon, gsp, GS.b, spaceC, sp0, cellsC, lin, cellOf?, findC, zC, lookL] <;> (try (intro id; repeat' split)) <;> (try omega)))
    | (rcases hx with rfl | rfl <;> (refine ⟨by decide, by decide, ?_, ?_, ?_, by decide, ?_⟩ <;> simp [Bd, Canon, gsp, GS.b, spaceC, sp0, cellsC, lin, cellOf?, findC, zC, lookL] <;> (try (intro id; repeat' split)) <;> (try omega)))
    | (rcases hx with rfl <;> (refine ⟨by decide, by decide, ?_, ?_, ?_, by decide, ?_⟩ <;> simp [Bd, Canon, gsp, GS.b, spaceC, sp0, cellsC, lin, cellOf?, findC, zC, lookL] <;> (try (intro id; repeat' split)) <;> (try omega)))
end Tor
namespace Tor
open Go
theorem gA_get {l : List Dg} {i : Nat} (h : i < l.length) : (l.map gA)[i]? = some (gA l[i]) := by simp [h]
theorem refs_gA : ∀ l : List Dg, AV.hasRefs (l.map gA) = false
  | [] => rfl
  | x :: r => by simp only [List.map_cons, AV.hasRefs, gA, AV.hasRef, refs_gA r, Bool.or_self]
def mdst (k : Int) (ds : List Dg) (c : List Cel) (i : Int) (w4 : AV) : St :=
  { vars := [.agg [.int .u8 k, .isl (ds.map gA)], .isl [], .isl (c.map cA), .int .i64 i, w4, .agg [.int .u8 k, .isl (ds.map gA)]], heap := [], rs := false }
variable {E : CallF} (hE : Free E)
include hE
theorem made26_loop (k : Int) (ds : List Dg) (hds : ∀ x ∈ ds, x.ok) : ∀ (n i : Nat) (c : List Cel) (s : GS), 4 = i + n → okT n s = true → Good c s (7 + i) →
    ∃ c' s' m' j, Good c' s' m' ∧ m' ≤ 11 ∧ s'.fin = true ∧ run E GP a1l0 (mdst k ds c i .u) = some (.exit 0, mdst k ds c' j (.bool false)) := by
  intro n
  induction n with
  | zero =>
    intro i c s h4 hok hg
    have hi : i = 4 := by omega
    subst hi
    refine ⟨c, s, 11, 4, hg, Nat.le_refl _, hok, ?_⟩
    unfold mdst
    rw [a1l0_run]
    by_cases hl : (4 : Int) < (ds.length : Int)
    · simp (maxSteps := 1000000) only [sim, sik, sil, sit, simprocAttr, Int.cast_ofNat_Int, List.take_length, List.length_map, List.contains_cons, List.contains_nil, a1b0, a1r3_ev, hl]
    · simp (maxSteps := 1000000) only [sim, sik, sil, sit, simprocAttr, Int.cast_ofNat_Int, List.take_length, List.length_map, List.contains_cons, List.contains_nil, a1b0, a1r3_ev, hl]
  | succ n ih =>
    intro i c s h4 hok hg
    rw [okT] at hok
    simp only [Bool.and_eq_true] at hok
    obtain ⟨f1, f2, o0, o1, o2, o3⟩ := hok
    by_cases hl : (i : Int) < (ds.length : Int)
    · have hlt : i < ds.length := by omega
      have g1 := gA_get hlt
      obtain ⟨c2, q1, q2⟩ := good_grow hE hg (by omega) (by omega) (kok_all f2) ds[i] (hds _ (List.getElem_mem hlt))
      have hok2 : okT n (s.grow (gDim ds[i]).toNat) = true := by
        have hu := u8w ds[i].a
        have td1 := Int.tmod_lt_of_pos (IntKind.u8.wrap ds[i].a) (show (0 : Int) < 4 by omega)
        have td2 := Int.tmod_nonneg 4 hu.1
        have : (gDim ds[i]).toNat = 0 ∨ (gDim ds[i]).toNat = 1 ∨ (gDim ds[i]).toNat = 2 ∨ (gDim ds[i]).toNat = 3 := by unfold gDim; omega
        rcases this with h | h | h | h <;> rw [h] <;> assumption
      obtain ⟨c', s', m', j, r1, r2, r3, r4⟩ := ih (i + 1) c2 _ (by omega) hok2 q1
      refine ⟨c', s', m', j, r1, r2, r3, ?_⟩
      rw [← r4]
      have wi : IntKind.i64.wrap ((i : Int) + 1) = ((i + 1 : Nat) : Int) := i64a (by omega)
      have k4 : (i : Int) < 4 := by omega
      have hr := refs_gA ds
      have hrc := refs_cA c2
      rw [show gA ds[i] = .agg [.int .i8 ds[i].a, .int .i8 ds[i].b, .int .i8 ds[i].c, .int .i8 ds[i].d] from rfl] at g1 q2
      unfold mdst
      conv => lhs; rw [a1l0_run]
      simp (maxSteps := 1000000) only [sim, sik, sil, sit, simprocAttr, Int.cast_ofNat_Int, List.take_length, List.length_map, List.contains_cons, List.contains_nil, a1b0, a1r3_ev, a1r4_ev, a1r5_ev, hl, k4, g1, q2, wi, hr, hrc]
    · refine ⟨c, s, 7 + i, i, hg, by omega, f1, ?_⟩
      unfold mdst
      rw [a1l0_run]
      simp (maxSteps := 1000000) only [sim, sik, sil, sit, simprocAttr, Int.cast_ofNat_Int, List.take_length, List.length_map, List.contains_cons, List.contains_nil, a1b0, a1r3_ev, hl]
omit hE in
theorem r26_made (k : Nat) (hk : k < 256) (ds : List Dg) (hds : ∀ x ∈ ds, x.ok) :
    ∃ c s m, Good c s m ∧ m ≤ 11 ∧ s.fin = true ∧ ∀ H, call E1 GP 1 [.agg [.int .u8 k, .isl (ds.map gA)]] H = some (.isl (c.map cA), H, false) := by
  have hj : k % 14 < 14 := Nat.mod_lt _ (by decide)
  have hok := List.all_eq_true.1 ok_all (k % 14) (List.mem_range.2 hj)
  obtain ⟨c, s, m, j, r1, r2, r3, r4⟩ := made26_loop free1 (k : Int) ds hds 4 0 _ _ (by omega) hok (gs_good _ hj)
  refine ⟨c, s, m, r1, r2, r3, fun H => ?_⟩
  rw [call_fun (by rfl) (f := a1) rfl rfl]
  have hsp := fun H => r26_space k hk H
  have hr := refs_gA ds
  have hr0 := refs_cA (spaceC (k % 14))
  have hrc := refs_cA c
  have hsc := solids_cA c
  have hz : ∀ n H, (c.map cA).map (fz n H 7) = c.map cA := fun n H => by
    rw [List.map_map]; apply List.map_congr_left; intro y _; exact fz_cA n H 1 y
  unfold mdst at r4
  simp only [Int.ofNat_zero] at r4
  simp (maxSteps := 1000000) only [sim, sik, sil, sit, simprocAttr, Int.cast_ofNat_Int, List.take_length, List.length_map, List.contains_cons, List.contains_nil, a1, a1r0_ev, a1r1_ev, a1r2_ev, a1r6_ev, hsp, hr, hr0, r4, hrc, hsc, hz]
end Tor
namespace Tor
open Go
variable {E : CallF} (hE : Free E)
include hE
theorem c_place1 (x : Cel) (id : Int) (H : Heap) : call E GP 77 [.agg [.int .i64 x.id, .int .i64 x.dim, .isl (x.b.map fA)], .int .i64 id] H = some (.int .i64 (cmp3 x.id id), H, false) := by
  rw [call_fun (hE _ _ _ (by decide)) (f := a77) rfl rfl]
  have h1 := c_cmp64 hE x.id id
  have h2 := refs_fA x.b
  simp (maxSteps := 1000000) only [sim, sik, sil, sit, simprocAttr, Int.cast_ofNat_Int, List.take_length, List.length_map, List.contains_cons, List.contains_nil, a77, a77r0_ev, a77r1_ev, h1, h2]
theorem bs_loop (c : List Cel) (id : Int) (hc : c.length < 2147483648) (hs : c.Pairwise (fun x y => x.id < y.id)) (H : Heap) (b : Bool) : ∀ (n i j : Nat), j - i < n → i ≤ j → j ≤ c.length →
    (∀ a, a < i → (c.getD a zC).id < id) → (∀ a, j ≤ a → a < c.length → id ≤ (c.getD a zC).id) →
    ∃ p : Nat, p ≤ c.length ∧ (∀ a, a < p → (c.getD a zC).id < id) ∧ (∀ a, p ≤ a → a < c.length → id ≤ (c.getD a zC).id) ∧
      run E GP a78l0 { vars := [.isl (c.map cA), .int .i64 id, .fn 77 [], .int .i64 0, .bool false, .int .i64 c.length, .int .i64 i, .int .i64 j, .u, .u, .u], heap := H, rs := b } =
        some (.exit 0, { vars := [.isl (c.map cA), .int .i64 id, .fn 77 [], .int .i64 0, .bool false, .int .i64 c.length, .int .i64 p, .int .i64 p, .u, .bool false, .u], heap := H, rs := b }) := by
  intro n
  induction n with
  | zero => intro i j h; omega
  | succ n ih =>
    intro i j h hij hj h1 h2
    by_cases hlt : i < j
    · have k1 : (i : Int) < (j : Int) := by omega
      have w1 : IntKind.i64.wrap ((i : Int) + (j : Int)) = ((i + j : Nat) : Int) := by rw [i64w (by omega)]; omega
      have w2 : IntKind.u64.wrap ((i + j : Nat) : Int) = ((i + j : Nat) : Int) := by
        simp [IntKind.wrap, IntKind.bits, IntKind.signed]; omega
      have w3 : ((i + j : Nat) : Int).fdiv (2 ^ Nat.min 1 IntKind.u64.bits) = (((i + j) / 2 : Nat) : Int) := by
        rw [show (2 : Int) ^ Nat.min 1 IntKind.u64.bits = 2 from rfl, Int.fdiv_eq_ediv_of_nonneg _ (by decide)]; rfl
      have hh : (i + j) / 2 < c.length := by omega
      have w4 : IntKind.i64.wrap (((i + j) / 2 : Nat) : Int) = (((i + j) / 2 : Nat) : Int) := i64w (by omega)
      have w5 : IntKind.i64.wrap ((((i + j) / 2 : Nat) : Int) + 1) = (((i + j) / 2 + 1 : Nat) : Int) := i64a (by omega)
      have e0 : c.getD ((i + j) / 2) zC = c[(i + j) / 2] := by simp [List.getD, hh]
      have g1 := cA_get hh
      have hp := fun H => c_place1 hE c[(i + j) / 2] id H
      have hrc := refs_cA c
      have htk : List.take H.length H = H := List.take_length
      have hsort : ∀ a b, a < b → b < c.length → (c.getD a zC).id < (c.getD b zC).id := fun a b hab hb => by
        have := List.pairwise_iff_getElem.1 hs a b (by omega) hb hab
        simpa [List.getD, show a < c.length by omega, hb] using this
      by_cases hlow : c[(i + j) / 2].id < id
      · have hc3 : cmp3 c[(i + j) / 2].id id < 0 := by unfold cmp3; rw [if_pos hlow]; decide
        obtain ⟨p, p1, p2, p3, p4⟩ := ih ((i + j) / 2 + 1) j (by omega) (by omega) hj (fun a ha => by
          rcases Nat.lt_or_ge a ((i + j) / 2) with h | h
          · have := hsort a _ h hh; rw [e0] at this; omega
          · have : a = (i + j) / 2 := by omega
            subst this; rw [e0]; exact hlow) h2
        refine ⟨p, p1, p2, p3, ?_⟩
        rw [← p4]
        generalize (i + j) / 2 = q at *
        generalize c[q] = x at *
        conv => lhs; rw [a78l0_run]
        simp (maxSteps := 1000000) only [sim, sik, sil, sit, simprocAttr, Int.cast_ofNat_Int, List.take_length, List.length_map, List.contains_cons, List.contains_nil, a78b0, a78r3_ev, a78r4_ev, a78r5_ev, a78r6_ev, a78r7_ev, k1, w1, w2, w3, w4, w5, g1, hp, hrc, htk, hc3]
      · have hc3 : ¬ cmp3 c[(i + j) / 2].id id < 0 := by unfold cmp3; rw [if_neg hlow]; split <;> decide
        obtain ⟨p, p1, p2, p3, p4⟩ := ih i ((i + j) / 2) (by omega) (by omega) (by omega) h1 (fun a ha ha2 => by
          rcases Nat.eq_or_lt_of_le ha with h | h
          · subst h; rw [e0]; omega
          · have := hsort _ a h ha2; rw [e0] at this; omega)
        refine ⟨p, p1, p2, p3, ?_⟩
        rw [← p4]
        generalize (i + j) / 2 = q at *
        generalize c[q] = x at *
        conv => lhs; rw [a78l0_run]
        simp (maxSteps := 1000000) only [sim, sik, sil, sit, simprocAttr, Int.cast_ofNat_Int, List.take_length, List.length_map, List.contains_cons, List.contains_nil, a78b0, a78r3_ev, a78r4_ev, a78r5_ev, a78r6_ev, a78r7_ev, k1, w1, w2, w3, w4, w5, g1, hp, hrc, htk, hc3]
    · have hij2 : i = j := by omega
      subst hij2
      have k1 : ¬ (i : Int) < (i : Int) := by omega
      refine ⟨i, hj, h1, h2, ?_⟩
      rw [a78l0_run]
      simp (maxSteps := 1000000) only [sim, sik, sil, sit, simprocAttr, Int.cast_ofNat_Int, List.take_length, List.length_map, List.contains_cons, List.contains_nil, a78b0, a78r3_ev, k1]
theorem c_search (c : List Cel) (id : Int) (hc : c.length < 2147483648) (hs : c.Pairwise (fun x y => x.id < y.id)) :
    ∃ p : Nat, p ≤ c.length ∧ (∀ a, a < p → (c.getD a zC).id < id) ∧ (∀ a, p ≤ a → a < c.length → id ≤ (c.getD a zC).id) ∧
      ∀ H, call E GP 78 [.isl (c.map cA), .int .i64 id, .fn 77 []] H = some (.tup [.int .i64 p, .bool (decide (p < c.length ∧ (c.getD p zC).id = id))], H, false) := by
  obtain ⟨p, p1, p2, p3, _⟩ := bs_loop hE c id hc hs [] false (c.length + 1) 0 c.length (by omega) (by omega) (Nat.le_refl _) (fun a h => by omega) (fun a h h2 => by omega)
  have uni : ∀ q : Nat, q ≤ c.length → (∀ a, a < q → (c.getD a zC).id < id) → (∀ a, q ≤ a → a < c.length → id ≤ (c.getD a zC).id) → q = p := fun q q1 q2 q3 => by
    rcases Nat.lt_trichotomy p q with h | h | h
    · have a1 := q2 p h
      have a2 := p3 p (Nat.le_refl _) (by omega)
      omega
    · exact h.symm
    · have a1 := p2 q h
      have a2 := q3 q (Nat.le_refl _) (by omega)
      omega
  refine ⟨p, p1, p2, p3, fun H => ?_⟩
  obtain ⟨q, q1, q2, q3, hl⟩ := bs_loop hE c id hc hs H false (c.length + 1) 0 c.length (by omega) (by omega) (Nat.le_refl _) (fun a h => by omega) (fun a h h2 => by omega)
  have := uni q q1 q2 q3
  subst this
  rw [call_fun (hE _ _ _ (by decide)) (f := a78) rfl rfl]
  have hrc := refs_cA c
  simp only [Int.ofNat_zero] at hl
  have hmode : a78.mode = .shr := rfl
  by_cases hlt : q < c.length
  · have k1 : (q : Int) < (c.length : Int) := by omega
    have e0 : c.getD q zC = c[q] := by simp [List.getD, hlt]
    have g1 := cA_get hlt
    rw [e0]
    generalize c[q] = x at *
    have hp := fun H => c_place1 hE x id H
    have e1 : decide (q < c.length ∧ x.id = id) = decide (cmp3 x.id id = 0) := by
      by_cases h : x.id = id
      · have : cmp3 x.id id = 0 := by unfold cmp3; rw [if_neg (by omega), if_neg (by omega)]
        simp [h, hlt] at this ⊢; exact this
      · have := cmp3_ne h
        simp [h, this]
    rw [e1]
    simp (maxSteps := 1000000) only [hmode, sim, sik, sil, sit, simprocAttr, Int.cast_ofNat_Int, List.take_length, List.length_map, List.contains_cons, List.contains_nil, a78, a78r0_ev, a78r1_ev, a78r2_ev, a78r8_ev, hl, hrc, k1, g1, hp]
  · have k1 : ¬ (q : Int) < (c.length : Int) := by omega
    have e1 : decide (q < c.length ∧ (c.getD q zC).id = id) = false := by simp; intro h; omega
    rw [e1]
    simp (maxSteps := 1000000) only [hmode, sim, sik, sil, sit, simprocAttr, Int.cast_ofNat_Int, List.take_length, List.length_map, List.contains_cons, List.contains_nil, a78, a78r0_ev, a78r1_ev, a78r2_ev, a78r8_ev, hl, hrc, k1]
omit hE in
theorem find_pos {c : List Cel} {id : Int} (hs : c.Pairwise (fun x y => x.id < y.id)) {p : Nat} (h1 : p ≤ c.length) (h2 : ∀ a, a < p → (c.getD a zC).id < id) (h3 : ∀ a, p ≤ a → a < c.length → id ≤ (c.getD a zC).id) :
    findC c id = if p < c.length ∧ (c.getD p zC).id = id then some (c.getD p zC) else none := by
  split
  · rename_i h
    have e0 : c.getD p zC = c[p] := by simp [List.getD, h.1]
    rw [e0] at h ⊢
    have := find_mem hs (List.getElem_mem h.1)
    exact (congrArg (findC c) h.2).symm.trans this
  · rename_i h
    unfold findC
    rw [List.find?_eq_none]
    intro x hx hid
    simp only [decide_eq_true_eq] at hid
    obtain ⟨a, ha, rfl⟩ := List.mem_iff_getElem.1 hx
    have ea : c.getD a zC = c[a] := by simp [List.getD, ha]
    rcases Nat.lt_or_ge a p with h4 | h4
    · have := h2 a h4; rw [ea] at this; omega
    · rcases Nat.eq_or_lt_of_le h4 with h5 | h5
      · subst h5; exact h ⟨ha, by rw [ea]; exact hid⟩
      · have hp : p < c.length := by omega
        have ep : c.getD p zC = c[p] := by simp [List.getD, hp]
        have a1 := h3 p (Nat.le_refl _) hp
        have a2 := List.pairwise_iff_getElem.1 hs p a hp ha h5
        rw [ep] at a1
        omega
theorem c_find (c : List Cel) (id : Int) (hc : c.length < 2147483648) (hs : c.Pairwise (fun x y => x.id < y.id)) (H : Heap) :
    call E GP 50 [.isl (c.map cA), .int .i64 id] H = some (.tup [cA ((findC c id).getD zC), .bool (findC c id).isSome], H, false) := by
  obtain ⟨p, p1, p2, p3, p4⟩ := c_search hE c id hc hs
  rw [call_fun (hE _ _ _ (by decide)) (f := a50) rfl rfl]
  have hf := find_pos hs p1 p2 p3
  have hrc := refs_cA c
  have h65 : ∀ H, call E GP 65 [.isl (c.map cA), .int .i64 id] H = some (.tup [.int .i64 p, .bool (decide (p < c.length ∧ (c.getD p zC).id = id))], H, false) := fun H => by
    rw [call_fun (hE _ _ _ (by decide)) (f := a65) rfl rfl]
    simp (maxSteps := 1000000) only [sim, sik, sil, sit, simprocAttr, Int.cast_ofNat_Int, List.take_length, List.length_map, List.contains_cons, List.contains_nil, a65, a65r0_ev, a65r1_ev, hrc, p4]
  by_cases h : p < c.length ∧ (c.getD p zC).id = id
  · rw [if_pos h] at hf
    rw [hf]
    simp only [Option.getD_some, Option.isSome_some]
    have hd : decide (p < c.length ∧ (c.getD p zC).id = id) = true := decide_eq_true h
    rw [hd] at h65
    have g1 := cA_get h.1
    have e0 : c.getD p zC = c[p] := by simp [List.getD, h.1]
    rw [e0]
    generalize c[p] = x at *
    have r1 := refs_fA x.b
    have r2 := solids_fA x.b
    unfold cA at hrc h65 g1 ⊢
    simp (maxSteps := 1000000) only [sim, sik, sil, sit, simprocAttr, Int.cast_ofNat_Int, List.take_length, List.length_map, List.contains_cons, List.contains_nil, a50, a50r0_ev, a50r1_ev, a50r2_ev, a50r4_ev, hrc, h65, g1, r1, r2, fz_fAs]
  · rw [if_neg h] at hf
    rw [hf, Option.getD_none, Option.isSome_none, show cA zC = .agg [.int .i64 0, .int .i64 0, .isl []] from rfl]
    have hd : decide (p < c.length ∧ (c.getD p zC).id = id) = false := decide_eq_false h
    rw [hd] at h65
    simp (maxSteps := 1000000) only [sim, sik, sil, sit, simprocAttr, Int.cast_ofNat_Int, List.take_length, List.length_map, List.contains_cons, List.contains_nil, a50, a50r0_ev, a50r1_ev, a50r2_ev, a50r3_ev, hrc, h65]
end Tor
namespace Tor
open Go
variable {E : CallF} (hE : Free E)
include hE
theorem pcells_loop (c : List Cel) (k : Int) (hc : c.length < 2147483648) : ∀ (n i : Nat) (out : List Int), c.length = i + n → out.length ≤ i →
    run E GP a35l0 { vars := [.isl (c.map cA), .int .i64 k, .isl [], .sl 0 out.length 1 0 out.length, .isl (c.map cA), .int .i64 c.length, .int .i64 i, .u, .u, .u], heap := [.arr out.length 1 (out.map iA)], rs := false } =
      some (.exit 0, { vars := [.isl (c.map cA), .int .i64 k, .isl [], .sl 0 (out ++ cellsC (c.drop i) k).length 1 0 (out ++ cellsC (c.drop i) k).length, .isl (c.map cA), .int .i64 c.length, .int .i64 c.length, .bool false, .u, .u], heap := [.arr (out ++ cellsC (c.drop i) k).length 1 ((out ++ cellsC (c.drop i) k).map iA)], rs := false }) := by
  intro n
  induction n with
  | zero =>
    intro i out h ho
    have hi : i = c.length := by omega
    subst hi
    have k1 : ¬ (c.length : Int) < (c.length : Int) := by omega
    have e : out ++ cellsC (c.drop c.length) k = out := by simp [cellsC]
    rw [e, a35l0_run]
    simp (maxSteps := 1000000) only [sim, sik, sil, sit, simprocAttr, Int.cast_ofNat_Int, List.take_length, List.length_map, List.contains_cons, List.contains_nil, a35b0, a35r3_ev, k1]
  | succ n ih =>
    intro i out h ho
    have hi : i < c.length := by omega
    have k1 : (i : Int) < (c.length : Int) := by omega
    have wi : IntKind.i64.wrap ((i : Int) + 1) = ((i + 1 : Nat) : Int) := i64a (by omega)
    have g1 := cA_get hi
    have hm : out.length + 1 ≤ 4294967296 := by omega
    have hrc := refs_cA c
    have rb := refs_fA c[i].b
    by_cases he : c[i].dim = k
    · have hb : decide (c[i].dim = k) = true := decide_eq_true he
      have e : out ++ cellsC (c.drop i) k = (out ++ [c[i].id]) ++ cellsC (c.drop (i + 1)) k := by
        rw [List.drop_eq_getElem_cons hi]; unfold cellsC; rw [List.filter_cons_of_pos (by simpa using he)]; simp
      rw [e, ← ih (i + 1) (out ++ [c[i].id]) (by omega) (by simp; omega)]
      have el : (out ++ [c[i].id]).length = out.length + 1 := by simp
      have em : (out ++ [c[i].id]).map iA = out.map iA ++ [.int .i64 c[i].id] := by simp [iA]
      rw [el, em]
      conv => lhs; rw [a35l0_run]
      simp (maxSteps := 1000000) only [sim, sik, sil, sit, simprocAttr, Int.cast_ofNat_Int, List.take_length, List.length_map, List.contains_cons, List.contains_nil, a35b0, a35r3_ev, a35r4_ev, a35r5_ev, a35r6_ev, a35r7_ev, k1, g1, hb, wi, hm, hrc, rb, maxLenA]
    · have hb : decide (c[i].dim = k) = false := decide_eq_false he
      have e : out ++ cellsC (c.drop i) k = out ++ cellsC (c.drop (i + 1)) k := by
        rw [List.drop_eq_getElem_cons hi]; unfold cellsC; rw [List.filter_cons_of_neg (by simpa using he)]
      rw [e, ← ih (i + 1) out (by omega) (by omega)]
      conv => lhs; rw [a35l0_run]
      simp (maxSteps := 1000000) only [sim, sik, sil, sit, simprocAttr, Int.cast_ofNat_Int, List.take_length, List.length_map, List.contains_cons, List.contains_nil, a35b0, a35r3_ev, a35r4_ev, a35r5_ev, a35r6_ev, a35r7_ev, k1, g1, hb, wi, hm, hrc, rb, maxLenA]
theorem c_cells (c : List Cel) (k : Int) (hc : c.length < 2147483648) (H : Heap) :
    call E GP 35 [.isl (c.map cA), .int .i64 k] H = some (.isl ((cellsC c k).map iA), H, false) := by
  rw [call_fun (hE _ _ _ (by decide)) (f := a35) rfl rfl]
  have h1 := pcells_loop hE c k hc c.length 0 [] (by omega) (Nat.le_refl _)
  rw [List.drop_zero, List.nil_append] at h1
  have hrf := refs_cA c
  have hs := solids_iA (cellsC c k)
  have hr := refs_iA (cellsC c k)
  have ht : List.take (cellsC c k).length ((cellsC c k).map iA) = (cellsC c k).map iA := List.take_of_length_le (by simp)
  have hz : ∀ n H k', ((cellsC c k).map iA).map (fz n H (k' + 1)) = (cellsC c k).map iA := fun n H k' => fz_iA n H k' _
  have hz6 := fun n H => hz n H 6
  simp only [Int.ofNat_zero, List.length_nil, List.map_nil] at h1
  generalize cellsC c k = l at *
  simp (maxSteps := 1000000) only [sim, sik, sil, sit, simprocAttr, Int.cast_ofNat_Int, List.take_length, List.length_map, List.contains_cons, List.contains_nil, a35, a35r0_ev, a35r1_ev, a35r2_ev, a35r8_ev, hrf, h1, hs, hr, ht, hz6]
end Tor
