/-
  A part of the proof: an abstract machine for the program, its soundness, and what the functions compute (Pl5, Srt, San, Law1, Law2, Law3, Law4, Law5, Law6, Law7, Law8, Sim, Ops, Ops2).
  Conditions: none.
-/
import Derived.Test.YtalcodolmmaciaaM03
import Derived.Test.YtalcodolmmaciaaM05
import Derived.MapKept
import GoSem.Dispatch
set_option linter.unusedSectionVars false
set_option linter.unusedVariables false
set_option linter.unusedSimpArgs false
/-
  The plain law of chains, fifth part: canonical chains are valid.
-/
namespace Tor

theorem canon_all : ∀ (l : List (Int × Int)) (b : Option Int), Canon b l → (∀ p ∈ l, p.2 ≠ 0) ∧ l.Pairwise (fun p q => p.1 < q.1) ∧ ∀ m, b = some m → ∀ p ∈ l, m < p.1
  | [], _, _ => ⟨fun p hp => by (cases hp), .nil, fun m hm p hp => by (cases hp)⟩
  | (j, x) :: r, b, h => by
    obtain ⟨i1, i2, i3⟩ := canon_all r _ h.2.2
    refine ⟨fun p hp => ?_, ?_, fun m hm p hp => ?_⟩
    · cases hp with
      | head => exact h.2.1
      | tail _ hp => exact i1 p hp
    · exact List.pairwise_cons.2 ⟨fun q hq => i3 j rfl q hq, i2⟩
    · have h0 := h.1 m hm
      cases hp with
      | head => exact h0
      | tail _ hp => have := i3 j rfl p hp; omega

theorem canon_valid (l : List (Int × Int)) (h : Canon none l) : valid26 l = true := by
  obtain ⟨h1, h2, -⟩ := canon_all l _ h
  unfold valid26
  rw [List.all_eq_true]
  intro i hi
  have hi := List.mem_range.1 hi
  unfold okAt
  rw [← getD_get l i hi]
  have hz := h1 _ (List.getElem_mem hi)
  have hs : (l[i].2).sign ≠ 0 := fun e => hz (Int.sign_eq_zero_iff_zero.1 e)
  rw [show decide (l[i].2.sign ≠ 0) = true by simpa using hs, Bool.true_and]
  by_cases c : i = 0
  · simp [c]
  · have := List.pairwise_iff_getElem.1 h2 (i - 1) i (by omega) hi (by omega)
    rw [← getD_get l (i - 1) (by omega)]
    simp [this]
end Tor
/-
  The table of what is served from outside: the sorted keys of a map.
-/
namespace Tor
open Go

def insI (k : Int) : List Int → List Int
  | [] => [k]
  | j :: r => if k ≤ j then k :: j :: r else j :: insI k r
def sortI : List Int → List Int
  | [] => []
  | k :: r => insI k (sortI r)

theorem mem_insI (k x : Int) : ∀ l, x ∈ insI k l ↔ x = k ∨ x ∈ l
  | [] => by simp [insI]
  | j :: r => by
    simp only [insI]
    split
    · simp
    · simp only [List.mem_cons, mem_insI k x r]
      constructor
      · rintro (h | h | h)
        · exact Or.inr (Or.inl h)
        · exact Or.inl h
        · exact Or.inr (Or.inr h)
      · rintro (h | h | h)
        · exact Or.inr (Or.inl h)
        · exact Or.inl h
        · exact Or.inr (Or.inr h)
theorem mem_sortI (x : Int) : ∀ l, x ∈ sortI l ↔ x ∈ l
  | [] => by simp [sortI]
  | k :: r => by simp only [sortI, mem_insI, mem_sortI x r, List.mem_cons]

theorem insI_lt (k : Int) : ∀ l : List Int, l.Pairwise (· < ·) → k ∉ l → (insI k l).Pairwise (· < ·)
  | [], _, _ => by simp [insI]
  | j :: r, h, hk => by
    rw [List.pairwise_cons] at h
    simp only [List.mem_cons, not_or] at hk
    simp only [insI]
    split
    · refine List.pairwise_cons.2 ⟨fun q hq => ?_, List.pairwise_cons.2 h⟩
      cases hq with
      | head => omega
      | tail _ hq => have := h.1 q hq; omega
    · refine List.pairwise_cons.2 ⟨fun q hq => ?_, insI_lt k r h.2 hk.2⟩
      rcases (mem_insI k q r).1 hq with e | e
      · omega
      · exact h.1 q e
theorem sortI_lt : ∀ l : List Int, l.Nodup → (sortI l).Pairwise (· < ·)
  | [], _ => .nil
  | k :: r, h => by
    rw [List.nodup_cons] at h
    exact insI_lt k _ (sortI_lt r h.2) (fun hm => h.1 ((mem_sortI k r).1 hm))

def in64 (n : Int) : Bool := decide (-9223372036854775808 ≤ n ∧ n ≤ 9223372036854775807)

/-- The sorted keys of a map, where there are not too many and all are of 64 bits. -/
def sortedKeys (H : Heap) : Option AObj → Option (AV × Heap × Bool)
  | some (.map kvs) => if kvs.length ≤ 1000000 ∧ (kvs.all fun p => in64 p.1) = true then some (.isl ((sortI (kvs.map (·.1))).map iA), H, false) else none
  | _ => none
def sortArgs (H : Heap) : List AV → Option (AV × Heap × Bool)
  | [.fn 72 [.bx o]] => sortedKeys H H[o]?
  | _ => none
def E1 : CallF := fun g a H => if g = 56 then sortArgs H a else none

theorem free1 : Free E1 := fun g a H h => if_neg h
theorem keys_kv (m : List (Int × Int)) : (kvM m).map (·.1) = m.map (·.1) := by simp [kvM, Function.comp_def]
theorem srt1 (m : List (Int × Int)) (hl : m.length ≤ 1000000) (hk : ∀ p ∈ m, in64 p.1 = true) : Srt E1 m (sortI (m.map (·.1))) := by
  intro H hH
  have h1 : E1 56 [.fn 72 [.bx 0]] H = sortedKeys H H[0]? := rfl
  rw [h1, hH]
  simp only [sortedKeys]
  rw [if_pos, keys_kv]
  refine ⟨by simpa [kvM] using hl, ?_⟩
  rw [List.all_eq_true]
  intro p hp
  obtain ⟨q, hq, rfl⟩ := List.mem_map.1 hp
  exact hk q hq
end Tor
/-
  The examples of the law.
-/
namespace Tor
open Go

theorem san0 : callN E1 GP 2000 0 [] [] = some (.bool true, [], false) := by kernel_rfl
theorem san1 : call E1 GP 0 [] [] = some (.bool true, [], false) := call_of san0
end Tor
/-
  ChainsMakes, from what its parts give (hypotheses).
-/
namespace Tor
open Go
set_option linter.unusedSimpArgs false
set_option linter.unusedVariables false

theorem makes_of (l m : List (Int × Int)) (k : Int) (x y a b s : List (Int × Int)) (H : Heap)
    (f1 : ∀ H, call E1 GP 2 [.isl (l.map pA)] H = some (.isl (x.map fA), H, false)) (f2 : ∀ H, call E1 GP 2 [.isl (m.map pA)] H = some (.isl (y.map fA), H, false))
    (m1 : ∀ H, call E1 GP 3 [.isl (x.map fA)] H = some (.isl (a.map fA), H, false)) (m2 : ∀ H, call E1 GP 3 [.isl (y.map fA)] H = some (.isl (b.map fA), H, false))
    (c1 : ∀ H, call E1 GP 22 [.isl (x.map fA)] H = some (.isl (a.map fA), H, false))
    (s1 : ∀ H, call E1 GP 10 [.isl (a.map fA), .isl (a.map fA)] H = some (.bool true, H, false))
    (o1 : ∀ H, call E1 GP 14 [.int .i64 k] H = some (Z k, H, false))
    (a1 : ∀ H, call E1 GP 25 [.isl (a.map fA), .isl (b.map fA), Z k] H = some (.isl (s.map fA), H, false))
    (a2 : ∀ H, call E1 GP 16 [.isl (a.map fA), .isl (b.map fA), Z k] H = some (.isl (s.map fA), H, false))
    (s2 : ∀ H, call E1 GP 10 [.isl (s.map fA), .isl (s.map fA)] H = some (.bool true, H, false))
    (v1 : ∀ H, call E1 GP 26 [.isl (x.map fA)] H = some (.bool (valid26 x), H, false)) (v2 : ∀ H, call E1 GP 17 [.isl (x.map fA)] H = some (.bool (valid26 x), H, false))
    (v3 : ∀ H, call E1 GP 26 [.isl (a.map fA)] H = some (.bool true, H, false)) :
    call E1 GP 126 [.isl (l.map pA), .isl (m.map pA), .int .i64 k] H = some (.bool true, H, false) := by
  rw [call_fun (free1 _ _ _ (by decide)) (f := a126) rfl rfl]
  have hs := san1
  simp (config := {maxSteps := 1000000}) only [sim, sik, sil, reduceIte, reduceCtorEq, Nat.reduceAdd, Nat.reduceSub, Nat.reduceMul, Nat.reduceLT, Nat.reduceLeDiff, Int.reduceLT, Int.reduceLE, Int.reduceGT, Int.reduceGE, Int.reduceEq, Int.reduceNe, Int.reduceAdd, Int.reduceSub, Int.reduceNeg, Int.cast_ofNat_Int, Int.natCast_nonneg, Int.toNat_natCast, Int.reduceToNat, Int.toNat_zero, Nat.le_refl, Int.le_refl, List.take_length, Z_size, Z_known, Z_isA, Z_ref, Z_under, Z_solid, fz_Z, headSize_limbs, fz_limbs, refs_limbs, solids_limbs, List.length_map, List.contains_cons, List.contains_nil, Nat.reduceBEq, Bool.true_beq, Bool.false_beq, a126, a126r0_ev, a126r1_ev, a126r2_ev, a126r3_ev, a126r4_ev, refs_pA, hs, f1, f2, m1, m2, c1, s1, o1, a1, a2, s2, v1, v2, v3, beq_self_eq_true]
end Tor
/-
  ChainsMakes: the parts.
-/
namespace Tor
open Go
set_option linter.unusedSimpArgs false
set_option linter.unusedVariables false

theorem cells_bd (l : List (Int × Int)) : Bd 3 ((l.take 6).map cellOf) := by
  intro p hp
  obtain ⟨q, -, rfl⟩ := List.mem_map.1 hp
  simp only [cellOf]
  have h : -3 ≤ q.2.tmod 4 ∧ q.2.tmod 4 ≤ 3 := by
    have h0 : (q.2.tmod 4).natAbs = q.2.natAbs % 4 := Int.natAbs_tmod q.2 4
    omega
  rw [i64w (by omega)]; omega
theorem cells_len (l : List (Int × Int)) : ((l.take 6).map cellOf).length ≤ 6 := by simp; omega
theorem fold_bd {N : Nat} : ∀ (l a : List (Int × Int)) (M : Nat), Bd N l → Bd M a → Bd (M + N * l.length) (l.foldl insert26 a) ∧ (l.foldl insert26 a).length ≤ a.length + l.length
  | [], a, M, _, h => ⟨by simpa using h, by simp⟩
  | p :: r, a, M, hl, h => by
    have hp := hl p (.head _)
    obtain ⟨h1, h2⟩ := fold_bd r (insert26 a p) (M + N) (fun q hq => hl q (.tail _ hq)) (insR_bd hp a _ h)
    have := insR_len p a (decide (p.2 = 0))
    refine ⟨?_, ?_⟩
    · rw [List.foldl_cons, List.length_cons, Nat.mul_succ]; exact bd_mono (by omega) h1
    · rw [List.foldl_cons, List.length_cons]; unfold insert26 at h2 ⊢; omega

theorem setL_len (k y : Int) : ∀ l : List (Int × Int), (setL k y l).length ≤ l.length + 1
  | [] => by simp [setL]
  | (j, x) :: r => by
    have := setL_len k y r
    simp only [setL]; split <;> simp <;> omega
theorem delL_len (k : Int) : ∀ l : List (Int × Int), (delL k l).length ≤ l.length
  | [] => by simp [delL]
  | (j, x) :: r => by
    have := delL_len k r
    simp only [delL]; split <;> simp <;> omega
theorem sadd_len (m : List (Int × Int)) (k c : Int) : (sadd m k c).length ≤ m.length + 1 := by
  have h1 := delL_len k m
  have h2 := setL_len k (lookL k m + c) m
  unfold sadd; split <;> omega
theorem sadd_keys {P : Int → Prop} (m : List (Int × Int)) (k c : Int) (hk : P k) (h : ∀ p ∈ m, P p.1) : ∀ p ∈ sadd m k c, P p.1 := by
  unfold sadd
  split
  · exact fun p hp => h p (mem_delL hp)
  · intro p hp
    rcases mem_setL hp with e | hp
    · subst e; exact hk
    · exact h p hp

theorem sums_keys {P : Int → Prop} : ∀ (l m : List (Int × Int)), (∀ p ∈ l, P p.1) → (∀ p ∈ m, P p.1) → (∀ p ∈ sums l m, P p.1) ∧ (sums l m).length ≤ m.length + l.length
  | [], m, _, h => ⟨h, by simp [sums]⟩
  | (j, x) :: r, m, hl, h => by
    obtain ⟨h1, h2⟩ := sums_keys r (sadd m j x) (fun p hp => hl p (.tail _ hp)) (sadd_keys m j x (hl _ (.head _)) h)
    have := sadd_len m j x
    have e : sums ((j, x) :: r) m = sums r (sadd m j x) := rfl
    rw [e, List.length_cons]; exact ⟨h1, by omega⟩
theorem sumsK_keys {P : Int → Prop} (c : Int) : ∀ (l m : List (Int × Int)), (∀ p ∈ l, P p.1) → (∀ p ∈ m, P p.1) → (∀ p ∈ sumsK c l m, P p.1) ∧ (sumsK c l m).length ≤ m.length + l.length
  | [], m, _, h => ⟨h, by simp [sumsK]⟩
  | (j, x) :: r, m, hl, h => by
    obtain ⟨h1, h2⟩ := sumsK_keys c r (sadd m j (c * x)) (fun p hp => hl p (.tail _ hp)) (sadd_keys m j (c * x) (hl _ (.head _)) h)
    have := sadd_len m j (c * x)
    have e : sumsK c ((j, x) :: r) m = sumsK c r (sadd m j (c * x)) := rfl
    rw [e, List.length_cons]; exact ⟨h1, by omega⟩
end Tor
/-
  ChainsMakes: the law is true.
-/
namespace Tor
open Go
set_option linter.unusedSimpArgs false
set_option linter.unusedVariables false

def In (p : Int × Int) : Prop := in64 p.1 = true
theorem cells_in (l : List (Int × Int)) : ∀ p ∈ (l.take 6).map cellOf, in64 p.1 = true := by
  intro p hp
  obtain ⟨q, -, rfl⟩ := List.mem_map.1 hp
  have h : -9223372036854775808 ≤ (cellOf q).1 ∧ (cellOf q).1 ≤ 9223372036854775807 := by
    simp only [cellOf]; rw [IntKind.wrap_i64]; omega
  exact decide_eq_true h

/-- The sorted keys of sums. -/
def ksOf (m : List (Int × Int)) : List Int := sortI (m.map (·.1))
theorem ksOf_lt (m : List (Int × Int)) (h : Sums m) : (ksOf m).Pairwise (· < ·) := sortI_lt _ h.1
theorem ksOf_mem (m : List (Int × Int)) : ∀ k, k ∈ ksOf m ↔ k ∈ m.map (·.1) := fun k => mem_sortI k _
theorem insI_len (k : Int) : ∀ l : List Int, (insI k l).length = l.length + 1
  | [] => rfl
  | j :: r => by simp only [insI]; split <;> simp [insI_len k r]
theorem sortI_len : ∀ l : List Int, (sortI l).length = l.length
  | [] => rfl
  | k :: r => by simp [sortI, insI_len, sortI_len r]
theorem made_in (x : List (Int × Int)) (hx : ∀ p ∈ x, in64 p.1 = true) : ∀ p ∈ x.foldl insert26 [], in64 p.1 = true := by
  rw [← make_eq x (ksOf (sums x [])) (ksOf_lt _ (sums_law x [] sums_nil).1) (ksOf_mem _)]
  intro p hp
  obtain ⟨k, hk, rfl⟩ := List.mem_map.1 hp
  obtain ⟨q, hq, e⟩ := List.mem_map.1 ((ksOf_mem _ k).1 hk)
  have := (sums_keys (P := fun n => in64 n = true) x [] hx (fun p hp => by cases hp)).1 q hq
  rw [e] at this; exact this
end Tor
/-
  ChainsMakes: joined.
-/
namespace Tor
open Go
set_option linter.unusedSimpArgs false
set_option linter.unusedVariables false

theorem add_bd {N : Nat} (c : Int) : ∀ (l a : List (Int × Int)) (M : Nat), (∀ p ∈ l, (c * p.2).natAbs ≤ N) → Bd M a → Bd (M + N * l.length) (add26 a l c) ∧ (add26 a l c).length ≤ a.length + l.length
  | [], a, M, _, h => ⟨by simpa [add26] using h, by simp [add26]⟩
  | p :: r, a, M, hl, h => by
    have hp := hl p (.head _)
    have e : add26 a (p :: r) c = add26 (insert26 a (p.1, c * p.2)) r c := rfl
    obtain ⟨h1, h2⟩ := add_bd c r (insert26 a (p.1, c * p.2)) (M + N) (fun q hq => hl q (.tail _ hq)) (insR_bd hp a _ h)
    have := insR_len (p.1, c * p.2) a (decide (c * p.2 = 0))
    rw [e, List.length_cons]
    refine ⟨?_, ?_⟩
    · rw [Nat.mul_succ]; exact bd_mono (by omega) h1
    · have h3 : (insert26 a (p.1, c * p.2)).length ≤ a.length + 1 := this
      omega

theorem makes_true (l m : List (Int × Int)) (hl : ∀ p ∈ l, -128 ≤ p.2 ∧ p.2 ≤ 127) (hm : ∀ p ∈ m, -128 ≤ p.2 ∧ p.2 ≤ 127) (k : Int) (hk : -9223372036854775808 ≤ k ∧ k ≤ 9223372036854775807) (H : Heap) :
    call E1 GP 126 [.isl (l.map pA), .isl (m.map pA), .int .i64 k] H = some (.bool true, H, false) := by
  have hx := cells_bd l
  have hy := cells_bd m
  have lx := cells_len l
  have ly := cells_len m
  have ix := cells_in l
  have iy := cells_in m
  have f1 := r26_faces free1 l hl
  have f2 := r26_faces free1 m hm
  generalize (l.take 6).map cellOf = x at *
  generalize (m.take 6).map cellOf = y at *
  have hB : B32 ^ 4 = 340282366920938463463374607431768211456 := by decide
  have m1 := r26_make free1 x 3 hx (by omega) (by rw [hB]; omega)
  have m2 := r26_make free1 y 3 hy (by omega) (by rw [hB]; omega)
  obtain ⟨ba, la⟩ := fold_bd x [] 0 hx (fun p hp => by cases hp)
  obtain ⟨bb, lb⟩ := fold_bd y [] 0 hy (fun p hp => by cases hp)
  have ia := made_in x ix
  have ib := made_in y iy
  have ca := (make_law x [] trivial).1
  obtain ⟨kx, lsx⟩ := sums_keys (P := fun n => in64 n = true) x [] ix (fun p hp => by cases hp)
  have sx := (sums_law x [] sums_nil).1
  have c1 := c_make free1 x 3 hx (by omega) (by rw [hB]; omega) (ksOf (sums x [])) (srt1 _ (by simp at lsx; omega) kx) (by simp [ksOf, sortI_len]; simp at lsx; omega)
  rw [make_eq x _ (ksOf_lt _ sx) (ksOf_mem _)] at c1
  have ba' : Bd 18 (x.foldl insert26 []) := bd_mono (by omega) ba
  have bb' : Bd 18 (y.foldl insert26 []) := bd_mono (by omega) bb
  generalize x.foldl insert26 [] = a at *
  generalize y.foldl insert26 [] = b at *
  simp only [List.length_nil, Nat.zero_add] at la lb
  have sma : ∀ p ∈ a, Sm p := fun p hp => sm_of (N := 18) (by rw [hB]; omega) (ba' p hp)
  have smb : ∀ p ∈ b, Sm p := fun p hp => sm_of (N := 18) (by rw [hB]; omega) (bb' p hp)
  have smx : ∀ p ∈ x, Sm p := fun p hp => sm_of (N := 3) (by rw [hB]; omega) (hx p hp)
  have smk : Sm (0, k) := sm_of (N := 9223372036854775808) (by rw [hB]; omega) (by simp only; omega)
  have hmul : ∀ p ∈ b, (k * p.2).natAbs ≤ 9223372036854775808 * 18 := fun p hp => by
    rw [Int.natAbs_mul]; exact Nat.mul_le_mul (by omega) (bb' p hp)
  obtain ⟨ka, lsa⟩ := sums_keys (P := fun n => in64 n = true) a [] ia (fun p hp => by cases hp)
  obtain ⟨kb, lsb⟩ := sumsK_keys (P := fun n => in64 n = true) k b _ ib ka
  have sK := (sumsK_law k b _ (sums_law a [] sums_nil).1).1
  have bs : Bd (18 * a.length) (sums a []) := bd_mono (by omega) (sums_bd a [] 0 ba' (fun p hp => by cases hp))
  simp only [List.length_nil, Nat.zero_add] at lsa
  have a1 := c_add free1 a b k 18 (9223372036854775808 * 18) ba' (by omega) smk smb hmul (by omega) (by rw [hB]; omega) (ksOf (sumsK k b (sums a []))) (srt1 _ (by omega) kb) (by simp [ksOf, sortI_len]; omega) bs
  rw [add_eq a b k ca _ (ksOf_lt _ sK) (ksOf_mem _)] at a1
  have a2 := r26_add free1 a b k 18 (9223372036854775808 * 18) ba' smk smb hmul (by omega) (by omega) (by rw [hB]; omega)
  have s1 := r26_same free1 a a sma sma (by omega)
  obtain ⟨bS, lS⟩ := add_bd k b a 18 hmul ba'
  have bS' : Bd (18 + 9223372036854775808 * 18 * 6) (add26 a b k) := bd_mono (by omega) bS
  have smS : ∀ p ∈ add26 a b k, Sm p := fun p hp => sm_of (N := 18 + 9223372036854775808 * 18 * 6) (by rw [hB]; omega) (bS' p hp)
  have s2 := r26_same free1 (add26 a b k) (add26 a b k) smS smS (by omega)
  have v1 := c_valid free1 x smx (by omega)
  have v2 := r26_valid free1 x smx (by omega)
  have v3 := c_valid free1 a sma (by omega)
  rw [canon_valid a ca] at v3
  simp only [decide_true] at s1 s2
  exact makes_of l m k x y a b (add26 a b k) H f1 f2 m1 m2 c1 s1 (fun H => r1_of free1 k H hk.1 hk.2) a1 a2 s2 v1 v2 v3
end Tor
/-
  ChainsModule: preparations.
-/
namespace Tor
open Go
set_option linter.unusedSimpArgs false
set_option linter.unusedVariables false

theorem san (H : Heap) : call E1 GP 0 [] H = some (.bool true, H, false) := by
  have h := san1
  rw [call_fun (free1 _ _ _ (by decide)) (f := a0) rfl rfl] at h ⊢
  have hm : a0.mode = .iso := rfl
  rw [hm] at h ⊢
  simp only [callFun] at h ⊢
  cases hr : runIso (run E1 GP) a0 [] with
  | none => rw [hr] at h; simp [withHeap] at h
  | some r =>
    rw [hr] at h
    simp only [withHeap, Option.some.injEq, Prod.mk.injEq] at h
    simp only [withHeap, h.1]

/-- A canonical chain of a bounded size. -/
structure Ch (N L : Nat) (a : List (Int × Int)) : Prop where
  can : Canon none a
  bd : Bd N a
  len : a.length ≤ L
  key : ∀ p ∈ a, in64 p.1 = true

theorem ch_sm {N L : Nat} {a : List (Int × Int)} (h : Ch N L a) (hN : N < B32 ^ 4) : ∀ p ∈ a, Sm p := fun p hp => sm_of hN (h.bd p hp)

theorem ch_add (N M La Lb C : Nat) (a b : List (Int × Int)) (c : Int) (ha : Ch N La a) (hb : Ch M Lb b) (hc : c.natAbs ≤ C) (hLa : La ≤ 1000) (hLb : Lb ≤ 1000) (hC : C < B32 ^ 4) (hM : M < B32 ^ 4)
    (hN : N * (La + 1) + C * M * (Lb + 1) < B32 ^ 4) : (∀ H, call E1 GP 25 [.isl (a.map fA), .isl (b.map fA), Z c] H = some (.isl ((add26 a b c).map fA), H, false)) ∧ Ch (N + C * M * Lb) (La + Lb) (add26 a b c) := by
  have hmul : ∀ p ∈ b, (c * p.2).natAbs ≤ C * M := fun p hp => by
    rw [Int.natAbs_mul]; exact Nat.mul_le_mul hc (hb.bd p hp)
  have la := ha.len
  have lb := hb.len
  obtain ⟨ka, lsa⟩ := sums_keys (P := fun n => in64 n = true) a [] ha.key (fun p hp => by cases hp)
  obtain ⟨kb, lsb⟩ := sumsK_keys (P := fun n => in64 n = true) c b _ hb.key ka
  have sK := (sumsK_law c b _ (sums_law a [] sums_nil).1).1
  have bs : Bd (N * a.length) (sums a []) := bd_mono (by omega) (sums_bd a [] 0 ha.bd (fun p hp => by cases hp))
  simp only [List.length_nil, Nat.zero_add] at lsa
  have q1 : N * (a.length + 1) ≤ N * (La + 1) := Nat.mul_le_mul_left _ (by omega)
  have q2 : C * M * (b.length + 1) ≤ C * M * (Lb + 1) := Nat.mul_le_mul_left _ (by omega)
  have q3 : C * M * b.length ≤ C * M * Lb := Nat.mul_le_mul_left _ (by omega)
  have a1 := c_add free1 a b c N (C * M) ha.bd (by omega) (sm_of (N := C) hC (by simpa using hc)) (ch_sm hb hM) hmul (by omega) (by omega) (ksOf (sumsK c b (sums a []))) (srt1 _ (by omega) kb) (by simp [ksOf, sortI_len]; omega) bs
  have e := add_eq a b c ha.can _ (ksOf_lt _ sK) (ksOf_mem _)
  rw [e] at a1
  obtain ⟨bS, lS⟩ := add_bd c b a N hmul ha.bd
  refine ⟨a1, (add_law c b a ha.can).1, bd_mono (by omega) bS, by omega, ?_⟩
  rw [← e]
  intro p hp
  obtain ⟨k, hk, rfl⟩ := List.mem_map.1 hp
  obtain ⟨q, hq, e2⟩ := List.mem_map.1 ((ksOf_mem _ k).1 hk)
  have := kb q hq
  rw [e2] at this; exact this

theorem ch_make (x : List (Int × Int)) (hx : Bd 3 x) (lx : x.length ≤ 6) (ix : ∀ p ∈ x, in64 p.1 = true) : (∀ H, call E1 GP 22 [.isl (x.map fA)] H = some (.isl ((x.foldl insert26 []).map fA), H, false)) ∧ Ch 18 6 (x.foldl insert26 []) := by
  have hB : B32 ^ 4 = 340282366920938463463374607431768211456 := by decide
  obtain ⟨ba, la⟩ := fold_bd x [] 0 hx (fun p hp => by cases hp)
  obtain ⟨kx, lsx⟩ := sums_keys (P := fun n => in64 n = true) x [] ix (fun p hp => by cases hp)
  have sx := (sums_law x [] sums_nil).1
  simp only [List.length_nil, Nat.zero_add] at lsx la
  have c1 := c_make free1 x 3 hx (by omega) (by rw [hB]; omega) (ksOf (sums x [])) (srt1 _ (by omega) kx) (by simp [ksOf, sortI_len]; omega)
  rw [make_eq x _ (ksOf_lt _ sx) (ksOf_mem _)] at c1
  exact ⟨c1, (make_law x [] trivial).1, bd_mono (by omega) ba, by omega, made_in x ix⟩

theorem ch_nil (N L : Nat) : Ch N L [] where
  can := trivial
  bd := by intro p hp; cases hp
  len := Nat.zero_le _
  key := by intro p hp; cases hp
end Tor
/-
  ChainsModule: the loop.
-/
namespace Tor
open Go
set_option linter.unusedSimpArgs false
set_option linter.unusedVariables false

def wst (l m : List (Int × Int)) (w : Int × Int) (x a b out : List (Int × Int)) (i : Int) (c16 : AV) : St :=
  { vars := [.isl (l.map pA), .isl (m.map pA), pA w, .ptr 0 0 [], .bool false, .bool true, .isl (x.map fA), .isl (a.map fA), .isl (b.map fA), .sl 1 out.length 3 0 out.length, .int .i64 i, .u, .u, .u, .u, .u, c16, .u, .u, Z 1, Z w.1, Z w.2], heap := [.var (pA w), .arr out.length 3 (out.map fA)], rs := false }

theorem back_loop (l m : List (Int × Int)) (w : Int × Int) (x a b : List (Int × Int)) (hx : x.length < 2147483648) : ∀ (n : Nat) (out : List (Int × Int)), n + out.length = x.length →
    run E1 GP a127l0 (wst l m w x a b out ((n : Int) - 1) .u) = some (.exit 0, wst l m w x a b (out ++ (x.take n).reverse) (-1) (.bool false)) := by
  intro n
  induction n with
  | zero =>
    intro out h
    rw [a127l0_run]
    have e : ((0 : Nat) : Int) - 1 = -1 := rfl
    rw [e, List.take_zero, List.reverse_nil, List.append_nil]
    simp (config := {maxSteps := 1000000}) only [sim, sik, sil, reduceIte, reduceCtorEq, Nat.reduceAdd, Nat.reduceSub, Nat.reduceMul, Nat.reduceLT, Nat.reduceLeDiff, Int.reduceLT, Int.reduceLE, Int.reduceGT, Int.reduceGE, Int.reduceEq, Int.reduceNe, Int.reduceAdd, Int.reduceSub, Int.reduceNeg, Int.cast_ofNat_Int, Int.natCast_nonneg, Int.toNat_natCast, Int.reduceToNat, Int.toNat_zero, Nat.le_refl, Int.le_refl, List.take_length, Z_size, Z_known, Z_isA, Z_ref, Z_under, Z_solid, fz_Z, headSize_limbs, fz_limbs, refs_limbs, solids_limbs, List.length_map, List.contains_cons, List.contains_nil, Nat.reduceBEq, Bool.true_beq, Bool.false_beq, wst, a127b0, a127r7_ev, refs_fA, refs_pA, pA]
  | succ n ih =>
    intro out h
    have hn : n < x.length := by omega
    have e0 : ((n + 1 : Nat) : Int) - 1 = (n : Int) := by omega
    have wn : IntKind.i64.wrap ((n : Int) - 1) = (n : Int) - 1 := i64w (by omega)
    have k0 : (n : Int) ≥ 0 := by omega
    have k1 : (n : Int) < (x.length : Int) := by omega
    have g1 := fA_get hn
    have hm : out.length + 1 ≤ 4294967296 := by omega
    have e2 : out ++ (x.take (n + 1)).reverse = (out ++ [x[n]]) ++ (x.take n).reverse := by
      rw [List.take_add_one, List.getElem?_eq_getElem hn]; simp
    rw [e0, e2, ← ih (out ++ [x[n]]) (by simp; omega)]
    conv => lhs; rw [a127l0_run]
    have el : (out ++ [x[n]]).length = out.length + 1 := by simp
    have em : (out ++ [x[n]]).map fA = out.map fA ++ [.agg [.int .i64 x[n].1, Z x[n].2]] := by simp [fA]
    simp (config := {maxSteps := 1000000}) only [sim, sik, sil, reduceIte, reduceCtorEq, Nat.reduceAdd, Nat.reduceSub, Nat.reduceMul, Nat.reduceLT, Nat.reduceLeDiff, Int.reduceLT, Int.reduceLE, Int.reduceGT, Int.reduceGE, Int.reduceEq, Int.reduceNe, Int.reduceAdd, Int.reduceSub, Int.reduceNeg, Int.cast_ofNat_Int, Int.natCast_nonneg, Int.toNat_natCast, Int.reduceToNat, Int.toNat_zero, Nat.le_refl, Int.le_refl, List.take_length, Z_size, Z_known, Z_isA, Z_ref, Z_under, Z_solid, fz_Z, headSize_limbs, fz_limbs, refs_limbs, solids_limbs, List.length_map, List.contains_cons, List.contains_nil, Nat.reduceBEq, Bool.true_beq, Bool.false_beq, wst, el, em, a127b0, a127r7_ev, a127r8_ev, a127r9_ev, refs_fA, refs_pA, pA, wn, k0, k1, g1, hm, maxLenA]
end Tor
/-
  ChainsModule, from what its parts give (hypotheses).
-/
namespace Tor
open Go
set_option linter.unusedSimpArgs false
set_option linter.unusedVariables false

theorem kagg (l : List AV) : (AV.agg l).known = true := rfl

/-- A slice that is handed over for good. -/
theorem con_make (l a : List (Int × Int)) (h : ∀ H, call E1 GP 22 [.isl (l.map fA)] H = some (.isl (a.map fA), H, false)) :
    (∀ H, call E1 GP 128 [.isl (l.map fA)] H = some (.isl (a.map fA), H, false)) ∧ ∀ v, call E1 GP 128 [.sl 1 l.length 3 0 l.length] [v, .arr l.length 3 (l.map fA)] = some (.isl (a.map fA), [v, .dead], false) := by
  have h0 := h []
  rw [call_fun (free1 _ _ _ (by decide)) (f := a22) rfl rfl] at h0
  have hm : a22.mode = .iso := rfl
  have hc : a128.mode = .con := rfl
  rw [hm] at h0
  simp only [callFun] at h0
  have hr : runIso (run E1 GP) a22 [.isl (l.map fA)] = some (.isl (a.map fA)) := by
    cases hr : runIso (run E1 GP) a22 [.isl (l.map fA)] with
    | none => rw [hr] at h0; cases h0
    | some r => rw [hr] at h0; simp only [withHeap, Option.some.injEq, Prod.mk.injEq] at h0; rw [h0.1]
  have hr2 : runIso (run E1 GP) a128 [.isl (l.map fA)] = some (.isl (a.map fA)) := hr
  refine ⟨fun H => ?_, fun v => ?_⟩
  · rw [call_fun (free1 _ _ _ (by decide)) (f := a128) rfl rfl, hc]
    simp only [callFun, consume, consume1, conCall, hr2, withHeap]
  · rw [call_fun (free1 _ _ _ (by decide)) (f := a128) rfl rfl, hc]
    have he : elems [v, .arr l.length 3 (l.map fA)] (.sl 1 l.length 3 0 l.length) = some (l.map fA) := by
      simp [elems]; exact List.take_of_length_le (by simp)
    simp only [callFun, consume, he, refs_fA, Bool.false_eq_true, if_false, consume1, conCall, hr2, withHeap, List.set_cons_succ, List.set_cons_zero]

theorem module_of (l m : List (Int × Int)) (w : Int × Int) (x y a b S Mu T Bo : List (Int × Int)) (H : Heap)
    (lx : x.length < 2147483648) (w1 : IntKind.i64.wrap w.1 = w.1) (w2 : IntKind.i64.wrap w.2 = w.2)
    (f1 : ∀ H, call E1 GP 2 [.isl (l.map pA)] H = some (.isl (x.map fA), H, false)) (f2 : ∀ H, call E1 GP 2 [.isl (m.map pA)] H = some (.isl (y.map fA), H, false))
    (o1 : ∀ H, call E1 GP 14 [.int .i64 1] H = some (Z 1, H, false)) (o2 : ∀ H, call E1 GP 14 [.int .i64 w.1] H = some (Z w.1, H, false)) (o3 : ∀ H, call E1 GP 14 [.int .i64 w.2] H = some (Z w.2, H, false)) (o4 : ∀ H, call E1 GP 14 [.int .i64 (-1)] H = some (Z (-1), H, false)) (o5 : ∀ H, call E1 GP 14 [.int .i64 0] H = some (Z 0, H, false))
    (c1 : ∀ H, call E1 GP 128 [.isl (x.map fA)] H = some (.isl (a.map fA), H, false)) (c2 : ∀ H, call E1 GP 128 [.isl (y.map fA)] H = some (.isl (b.map fA), H, false))
    (c3 : ∀ v, call E1 GP 128 [.sl 1 x.length 3 0 x.length] [v, .arr x.length 3 (x.reverse.map fA)] = some (.isl (a.map fA), [v, .dead], false))
    (v1 : ∀ H, call E1 GP 17 [.isl (a.map fA)] H = some (.bool true, H, false)) (v2 : ∀ H, call E1 GP 17 [.isl (b.map fA)] H = some (.bool true, H, false))
    (v3 : ∀ H, call E1 GP 17 [.isl (S.map fA)] H = some (.bool true, H, false)) (v4 : ∀ H, call E1 GP 17 [.isl (Mu.map fA)] H = some (.bool true, H, false))
    (q1 : ∀ H, call E1 GP 25 [.isl (a.map fA), .isl (b.map fA), Z 1] H = some (.isl (S.map fA), H, false))
    (q2 : ∀ H, call E1 GP 25 [.isl [], .isl (a.map fA), Z w.1] H = some (.isl (Mu.map fA), H, false))
    (q3 : ∀ H, call E1 GP 25 [.isl [], .isl (Mu.map fA), Z w.2] H = some (.isl (T.map fA), H, false))
    (q4 : ∀ H, call E1 GP 25 [.isl [], .isl (S.map fA), Z w.1] H = some (.isl (Bo.map fA), H, false))
    (q5 : ∀ H, call E1 GP 25 [.isl (Mu.map fA), .isl (b.map fA), Z w.1] H = some (.isl (Bo.map fA), H, false))
    (q6 : ∀ H, call E1 GP 25 [.isl (b.map fA), .isl (a.map fA), Z 1] H = some (.isl (S.map fA), H, false))
    (u1 : ∀ H, call E1 GP 41 [Z w.1, Z w.2] H = some (Z (w.1 * w.2), H, false))
    (q7 : ∀ H, call E1 GP 25 [.isl [], .isl (a.map fA), Z (w.1 * w.2)] H = some (.isl (T.map fA), H, false))
    (q8 : ∀ H, call E1 GP 25 [.isl (a.map fA), .isl (a.map fA), Z (-1)] H = some (.isl [], H, false))
    (q9 : ∀ H, call E1 GP 25 [.isl (a.map fA), .isl (b.map fA), Z 0] H = some (.isl (a.map fA), H, false))
    (s1 : ∀ H, call E1 GP 10 [.isl (a.map fA), .isl (a.map fA)] H = some (.bool true, H, false))
    (s2 : ∀ H, call E1 GP 10 [.isl (S.map fA), .isl (S.map fA)] H = some (.bool true, H, false))
    (s3 : ∀ H, call E1 GP 10 [.isl (T.map fA), .isl (T.map fA)] H = some (.bool true, H, false))
    (s4 : ∀ H, call E1 GP 10 [.isl (Bo.map fA), .isl (Bo.map fA)] H = some (.bool true, H, false)) :
    call E1 GP 127 [.isl (l.map pA), .isl (m.map pA), pA w] H = some (.bool true, H, false) := by
  rw [call_fun (free1 _ _ _ (by decide)) (f := a127) rfl rfl]
  have hb := back_loop l m w x a b lx x.length [] (by simp)
  rw [List.take_length, List.nil_append] at hb
  simp only [wst, pA, List.length_nil, List.map_nil, List.length_reverse] at hb
  have wx : IntKind.i64.wrap ((x.length : Int) - 1) = (x.length : Int) - 1 := i64w (by omega)
  simp (config := {maxSteps := 4000000}) only [sim, sik, sil, reduceIte, reduceCtorEq, Nat.reduceAdd, Nat.reduceSub, Nat.reduceMul, Nat.reduceLT, Nat.reduceLeDiff, Int.reduceLT, Int.reduceLE, Int.reduceGT, Int.reduceGE, Int.reduceEq, Int.reduceNe, Int.reduceAdd, Int.reduceSub, Int.reduceNeg, Int.cast_ofNat_Int, Int.natCast_nonneg, Int.toNat_natCast, Int.reduceToNat, Int.toNat_zero, Nat.le_refl, Int.le_refl, List.take_length, Z_size, Z_known, Z_isA, Z_ref, Z_under, Z_solid, fz_Z, headSize_limbs, fz_limbs, refs_limbs, solids_limbs, List.length_map, List.contains_cons, List.contains_nil, Nat.reduceBEq, Bool.true_beq, Bool.false_beq, doBox, kagg, a127, a127r0_ev, a127r1_ev, a127r2_ev, a127r3_ev, a127r4_ev, a127r5_ev, a127r6_ev, a127r10_ev, a127r11_ev, a127r12_ev, a127r13_ev, a127r14_ev, a127r15_ev, a127r16_ev, a127r17_ev, refs_pA, refs_fA, san, pA, w1, w2, f1, f2, o1, o2, o3, o4, o5, c1, c2, wx, hb, v1, v2, v3, v4, q1, q2, q3, q4, q5, q6, u1, q7, q8, q9, c3, s1, s2, s3, s4, List.map_nil]
end Tor
/-
  ChainsModule: the law is true.
-/
namespace Tor
open Go
set_option linter.unusedSimpArgs false
set_option linter.unusedVariables false

theorem tot_append (k : Int) : ∀ l m : List (Int × Int), tot k (l ++ m) = tot k l + tot k m
  | [], m => by simp [tot]
  | (j, x) :: r, m => by simp only [List.cons_append, tot, tot_append k r m]; omega
theorem tot_reverse (k : Int) : ∀ l : List (Int × Int), tot k l.reverse = tot k l
  | [] => rfl
  | (j, x) :: r => by simp only [List.reverse_cons, tot_append, tot_reverse k r, tot]; omega

theorem make_rev (x : List (Int × Int)) : x.reverse.foldl insert26 [] = x.foldl insert26 [] := by
  obtain ⟨c1, l1⟩ := make_law x.reverse [] trivial
  obtain ⟨c2, l2⟩ := make_law x [] trivial
  refine canon_ext _ _ _ _ c1 c2 fun k => ?_
  rw [l1, l2, tot_reverse]

theorem add_ext {a l m : List (Int × Int)} {c : Int} (ha : Canon none a) (hl : Canon none l) (hm : Canon none m) (h : ∀ k, lookL k m = lookL k a + c * lookL k l) : add26 a l c = m := by
  obtain ⟨c1, l1⟩ := add_law c l a ha
  refine canon_ext _ _ _ _ c1 hm fun k => ?_
  rw [l1, h, tot_canon k l none hl]

theorem add_look {a l : List (Int × Int)} {c : Int} (ha : Canon none a) (hl : Canon none l) (k : Int) : lookL k (add26 a l c) = lookL k a + c * lookL k l := by
  rw [(add_law c l a ha).2, tot_canon k l none hl]

theorem cnil : Canon none [] := trivial

theorem ch_same {N L : Nat} {a : List (Int × Int)} (h : Ch N L a) (hN : N < B32 ^ 4) (hL : L < 2147483648) (H : Heap) : call E1 GP 10 [.isl (a.map fA), .isl (a.map fA)] H = some (.bool true, H, false) := by
  have := r26_same free1 a a (ch_sm h hN) (ch_sm h hN) (by have := h.len; omega) H
  simpa using this
theorem ch_valid {N L : Nat} {a : List (Int × Int)} (h : Ch N L a) (hN : N < B32 ^ 4) (hL : L < 2147483648) (H : Heap) : call E1 GP 17 [.isl (a.map fA)] H = some (.bool true, H, false) := by
  have := r26_valid free1 a (ch_sm h hN) (by have := h.len; omega) H
  rwa [canon_valid a h.can] at this

theorem module_true (l m : List (Int × Int)) (hl : ∀ p ∈ l, -128 ≤ p.2 ∧ p.2 ≤ 127) (hm : ∀ p ∈ m, -128 ≤ p.2 ∧ p.2 ≤ 127) (w : Int × Int) (hw1 : -128 ≤ w.1 ∧ w.1 ≤ 127) (hw2 : -128 ≤ w.2 ∧ w.2 ≤ 127) (H : Heap) :
    call E1 GP 127 [.isl (l.map pA), .isl (m.map pA), pA w] H = some (.bool true, H, false) := by
  have hx := cells_bd l
  have hy := cells_bd m
  have lx := cells_len l
  have ly := cells_len m
  have ix := cells_in l
  have iy := cells_in m
  have f1 := r26_faces free1 l hl
  have f2 := r26_faces free1 m hm
  generalize (l.take 6).map cellOf = x at *
  generalize (m.take 6).map cellOf = y at *
  have hB : B32 ^ 4 = 340282366920938463463374607431768211456 := by decide
  obtain ⟨c1, ca⟩ := ch_make x hx lx ix
  obtain ⟨c2, cb⟩ := ch_make y hy ly iy
  have c3 := (ch_make x.reverse (fun p hp => hx p (List.mem_reverse.1 hp)) (by simpa using lx) (fun p hp => ix p (List.mem_reverse.1 hp))).1
  rw [make_rev] at c3
  generalize x.foldl insert26 [] = a at *
  generalize y.foldl insert26 [] = b at *
  have c3 := (con_make _ _ c3).2
  simp only [List.length_reverse] at c3
  have c1 := (con_make _ _ c1).1
  have c2 := (con_make _ _ c2).1
  obtain ⟨q1, cS⟩ := ch_add 18 18 6 6 1 a b 1 ca cb (by decide) (by omega) (by omega) (by rw [hB]; omega) (by rw [hB]; omega) (by rw [hB]; omega)
  obtain ⟨q6, -⟩ := ch_add 18 18 6 6 1 b a 1 cb ca (by decide) (by omega) (by omega) (by rw [hB]; omega) (by rw [hB]; omega) (by rw [hB]; omega)
  obtain ⟨q2, cM⟩ := ch_add 0 18 0 6 128 [] a w.1 (ch_nil 0 0) ca (by omega) (by omega) (by omega) (by rw [hB]; omega) (by rw [hB]; omega) (by rw [hB]; omega)
  obtain ⟨q3, cT⟩ := ch_add 0 (0 + 128 * 18 * 6) 0 6 128 [] (add26 [] a w.1) w.2 (ch_nil 0 0) cM (by omega) (by omega) (by omega) (by rw [hB]; omega) (by rw [hB]; omega) (by rw [hB]; omega)
  obtain ⟨q4, cO⟩ := ch_add 0 (18 + 1 * 18 * 6) 0 12 128 [] (add26 a b 1) w.1 (ch_nil 0 0) cS (by omega) (by omega) (by omega) (by rw [hB]; omega) (by rw [hB]; omega) (by rw [hB]; omega)
  obtain ⟨q5, -⟩ := ch_add (0 + 128 * 18 * 6) 18 6 6 128 (add26 [] a w.1) b w.1 cM cb (by omega) (by omega) (by omega) (by rw [hB]; omega) (by rw [hB]; omega) (by rw [hB]; omega)
  have hab : (w.1 * w.2).natAbs ≤ 16384 := by
    rw [Int.natAbs_mul]; exact Nat.mul_le_mul (n₂ := 128) (m₂ := 128) (by omega) (by omega)
  obtain ⟨q7, -⟩ := ch_add 0 18 0 6 16384 [] a (w.1 * w.2) (ch_nil 0 0) ca hab (by omega) (by omega) (by rw [hB]; omega) (by rw [hB]; omega) (by rw [hB]; omega)
  obtain ⟨q8, -⟩ := ch_add 18 18 6 6 1 a a (-1) ca ca (by decide) (by omega) (by omega) (by rw [hB]; omega) (by rw [hB]; omega) (by rw [hB]; omega)
  obtain ⟨q9, -⟩ := ch_add 18 18 6 6 0 a b 0 ca cb (by decide) (by omega) (by omega) (by rw [hB]; omega) (by rw [hB]; omega) (by rw [hB]; omega)
  have e5 : add26 (add26 [] a w.1) b w.1 = add26 [] (add26 a b 1) w.1 := add_ext cM.can cb.can cO.can fun k => by
    rw [add_look cnil cS.can, add_look ca.can cb.can, add_look cnil ca.can]; simp [lookL, Int.mul_add]
  have e6 : add26 b a 1 = add26 a b 1 := add_ext cb.can ca.can cS.can fun k => by
    rw [add_look ca.can cb.can]; omega
  have e7 : add26 [] a (w.1 * w.2) = add26 [] (add26 [] a w.1) w.2 := add_ext cnil ca.can cT.can fun k => by
    rw [add_look cnil cM.can, add_look cnil ca.can]; simp only [lookL, Int.zero_add]; rw [Int.mul_comm w.1 w.2, Int.mul_assoc]
  have e8 : add26 a a (-1) = [] := add_ext ca.can ca.can trivial fun k => by simp [lookL]; omega
  have e9 : add26 a b 0 = a := add_ext ca.can cb.can ca.can fun k => by simp
  rw [e5] at q5
  rw [e6] at q6
  rw [e7] at q7
  rw [e8, List.map_nil] at q8
  rw [e9] at q9
  simp only [List.map_nil] at q2 q3 q4 q7
  exact module_of l m w x y a b (add26 a b 1) (add26 [] a w.1) (add26 [] (add26 [] a w.1) w.2) (add26 [] (add26 a b 1) w.1) H (by omega) (i64w (by omega)) (i64w (by omega)) f1 f2
    (fun H => r1_of free1 1 H (by omega) (by omega)) (fun H => r1_of free1 w.1 H (by omega) (by omega)) (fun H => r1_of free1 w.2 H (by omega) (by omega)) (fun H => r1_of free1 (-1) H (by omega) (by omega)) (fun H => r1_of free1 0 H (by omega) (by omega))
    c1 c2 c3 (ch_valid ca (by rw [hB]; omega) (by omega)) (ch_valid cb (by rw [hB]; omega) (by omega)) (ch_valid cS (by rw [hB]; omega) (by omega)) (ch_valid cM (by rw [hB]; omega) (by omega))
    q1 q2 q3 q4 q5 q6 (fun H => r1_mul free1 w.1 w.2 H (by have := sm_of (p := (0, w.1)) (N := 128) (by rw [hB]; omega) (by simp only; omega); unfold Sm at this; simp only at this; omega) (by have := sm_of (p := (0, w.2)) (N := 128) (by rw [hB]; omega) (by simp only; omega); unfold Sm at this; simp only at this; omega)
      (by have h1 := sm_of (p := (0, w.1)) (N := 128) (by rw [hB]; omega) (by simp only; omega); have h2 := sm_of (p := (0, w.2)) (N := 128) (by rw [hB]; omega) (by simp only; omega); unfold Sm at h1 h2; simp only at h1 h2; omega)) q7 q8 q9
    (ch_same ca (by rw [hB]; omega) (by omega)) (ch_same cS (by rw [hB]; omega) (by omega)) (ch_same cT (by rw [hB]; omega) (by omega)) (ch_same cO (by rw [hB]; omega) (by omega))
end Tor
/-
  The abstract heap against the world: the relation and how it is kept.
-/
namespace Tor
open Go Go.RowKit

inductive MapR (C : Cx) : List (Int × AV) → List MapEntry → Prop
  | nil : MapR C [] []
  | cons {k x e r es} : e.key = .int .i64 k → Rv1 C x e.val → x.known = true → MapR C r es → MapR C ((k, x) :: r) (e :: es)

theorem MapR_le {C C' : Cx} (h : Le C C') {r es} (hr : MapR C r es) : MapR C' r es := by
  induction hr with
  | nil => exact .nil
  | cons a b c _ ih => exact .cons a (Rv1_le h b) c ih

def MapRS (C : Cx) (kvs : List (Int × AV)) (es : Array MapEntry) (clock : Nat) : Prop := MapR C kvs es.toList ∧ Go.MapKept.Stamped es clock

def bOf : Option (Option (Nat × Nat)) → Option Nat
  | some (some (b, _)) => some b
  | _ => none

def blk (C : Cx) (o : Nat) : AObj → Option Nat
  | .var _ => bOf (C.β o 0)
  | .arr g _ _ => bOf (C.β o g)
  | .map _ => bOf (C.β o 0)
  | .dead => none

def ObjOk (base : Nat) (C : Cx) (o : Nat) : AObj → Prop
  | .var x => ∃ b c e, C.β o 0 = some (some (b, 0)) ∧ C.w.heap[b]? = some (.cells c e (0, 0)) ∧ Rc C x c.toList ∧ base ≤ b ∧ ¬ C.F b
  | .arr g sz l => (C.β o g = some none ∧ l = []) ∨ ∃ b bs c e pre css post, C.β o g = some (some (b, bs)) ∧ C.w.heap[b]? = some (.cells c e (0, 0)) ∧
      c.toList = pre ++ css.flatten ++ post ∧ pre.length = bs ∧ Rcl C l css ∧ (∀ x ∈ css, x.length = sz) ∧ base ≤ b ∧ ¬ C.F b
  | .map kvs => ∃ b es clock, C.β o 0 = some (some (b, 0)) ∧ C.w.heap[b]? = some (.map es clock) ∧ MapRS C kvs es clock ∧ base ≤ b ∧ ¬ C.F b
  | .dead => True

def GenOk (C : Cx) (o : Nat) : AObj → Prop
  | .arr g _ _ => ∀ g', g < g' → C.β o g' = none
  | _ => True

structure Sim (base : Nat) (C : Cx) (H : Heap) : Prop where
  fsz : ∀ b, C.F b → b < C.w.heap.size
  dom : ∀ o, H.length ≤ o → ∀ g, C.β o g = none
  obj : ∀ o ob, H[o]? = some ob → ObjOk base C o ob ∧ GenOk C o ob
  sep : ∀ o o' ob ob' b, H[o]? = some ob → H[o']? = some ob' → blk C o ob = some b → blk C o' ob' = some b → o = o'
  bsz : base ≤ C.w.heap.size

theorem lt_of_heap {w : World} {b : Nat} {o : Obj} (h : w.heap[b]? = some o) : b < w.heap.size := (Array.getElem?_eq_some_iff.1 h).1

theorem blk_heap {base C o ob b} (h : ObjOk base C o ob) (hb : blk C o ob = some b) : base ≤ b ∧ ¬ C.F b ∧ b < C.w.heap.size := by
  cases ob with
  | var x =>
    obtain ⟨b', c, e, h1, h2, _, h3, h4⟩ := h
    simp only [blk, h1, bOf, Option.some.injEq] at hb; subst hb
    exact ⟨h3, h4, lt_of_heap h2⟩
  | arr g sz l =>
    rcases h with ⟨h1, _⟩ | ⟨b', bs, c, e, pre, css, post, h1, h2, _, _, _, _, h3, h4⟩
    · simp [blk, h1, bOf] at hb
    · simp only [blk, h1, bOf, Option.some.injEq] at hb; subst hb
      exact ⟨h3, h4, lt_of_heap h2⟩
  | map kvs =>
    obtain ⟨b', es, cl, h1, h2, _, h3, h4⟩ := h
    simp only [blk, h1, bOf, Option.some.injEq] at hb; subst hb
    exact ⟨h3, h4, lt_of_heap h2⟩
  | dead => cases hb

/-- An object whose place and block have not turned is what it was. -/
theorem ObjOk_keep {base C C' o ob} (h : Le C C') (ho : ObjOk base C o ob) (hF : ∀ b, C'.F b → C.F b ∨ C.w.heap.size ≤ b)
    (hm : ∀ b, blk C o ob = some b → C'.w.heap[b]? = C.w.heap[b]?) : ObjOk base C' o ob := by
  have hno : ∀ b, ¬ C.F b → b < C.w.heap.size → ¬ C'.F b := fun b h1 h2 h3 => by
    rcases hF b h3 with h | h
    · exact h1 h
    · omega
  cases ob with
  | var x =>
    obtain ⟨b, c, e, h1, h2, h3, h4, h5⟩ := ho
    exact ⟨b, c, e, h.β _ _ _ h1, (hm b (by simp [blk, h1, bOf])).trans h2, Rc_le h _ _ h3, h4, hno _ h5 (lt_of_heap h2)⟩
  | arr g sz l =>
    rcases ho with ⟨h1, h2⟩ | ⟨b, bs, c, e, pre, css, post, h1, h2, h3, h4, h5, h6, h7, h8⟩
    · exact .inl ⟨h.β _ _ _ h1, h2⟩
    · exact .inr ⟨b, bs, c, e, pre, css, post, h.β _ _ _ h1, (hm b (by simp [blk, h1, bOf])).trans h2, h3, h4, Rcl_le h _ _ h5, h6, h7, hno _ h8 (lt_of_heap h2)⟩
  | map kvs =>
    obtain ⟨b, es, cl, h1, h2, h3, h4, h5⟩ := ho
    exact ⟨b, es, cl, h.β _ _ _ h1, (hm b (by simp [blk, h1, bOf])).trans h2, ⟨MapR_le h h3.1, h3.2⟩, h4, hno _ h5 (lt_of_heap h2)⟩
  | dead => trivial

theorem blk_le {base C C' o ob} (h : Le C C') (ho : ObjOk base C o ob) : blk C' o ob = blk C o ob := by
  cases ob with
  | var x => obtain ⟨b, c, e, h1, _⟩ := ho; simp [blk, h1, h.β _ _ _ h1]
  | arr g sz l =>
    rcases ho with ⟨h1, _⟩ | ⟨b, bs, c, e, pre, css, post, h1, _⟩ <;> simp [blk, h1, h.β _ _ _ h1]
  | map kvs => obtain ⟨b, es, cl, h1, _⟩ := ho; simp [blk, h1, h.β _ _ _ h1]
  | dead => rfl

/-- The heap is the same; the world may have new blocks, and blocks that no object lies in may have turned. -/
theorem Sim.world {base C C' H} (h : Sim base C H) (hle : Le C C') (hF : ∀ b, C'.F b → b < C'.w.heap.size ∧ (C.F b ∨ C.w.heap.size ≤ b)) (hβ : ∀ o g, C'.β o g = C.β o g)
    (hs : C.w.heap.size ≤ C'.w.heap.size) (hm : ∀ b, b < C.w.heap.size → ¬ C.F b → base ≤ b → C'.w.heap[b]? = C.w.heap[b]?) : Sim base C' H where
  fsz b hb := (hF b hb).1
  dom o ho g := by rw [hβ]; exact h.dom o ho g
  obj o ob ho := by
    obtain ⟨h1, h2⟩ := h.obj o ob ho
    refine ⟨ObjOk_keep hle h1 (fun b hb => (hF b hb).2) (fun b hb => ?_), ?_⟩
    · obtain ⟨a, b', c⟩ := blk_heap h1 hb
      exact hm b c b' a
    · cases ob with
      | arr g sz l => intro g' hg'; rw [hβ]; exact h2 g' hg'
      | _ => trivial
  sep o o' ob ob' b ho ho' hb hb' := by
    rw [blk_le hle (h.obj o ob ho).1] at hb
    rw [blk_le hle (h.obj o' ob' ho').1] at hb'
    exact h.sep o o' ob ob' b ho ho' hb hb'
  bsz := Nat.le_trans h.bsz hs

theorem one_inv {α} {a b : α} {i : Nat} (h : [a][i]? = some b) : i = 0 ∧ b = a := by
  cases i with
  | zero => simp at h; exact ⟨rfl, h.symm⟩
  | succ i => simp at h

/-- A new object at the end of the heap. -/
theorem Sim.push {base C C' H ob} (h : Sim base C H) (hle : Le C C') (hF : ∀ b, C'.F b ↔ C.F b) (hs : C.w.heap.size ≤ C'.w.heap.size)
    (hβ : ∀ o g, o < H.length → C'.β o g = C.β o g) (hβ2 : ∀ o g, H.length < o → C'.β o g = none)
    (hm : ∀ b, b < C.w.heap.size → C'.w.heap[b]? = C.w.heap[b]?) (ho : ObjOk base C' H.length ob) (hg : GenOk C' H.length ob)
    (hb : ∀ b, blk C' H.length ob = some b → C.w.heap.size ≤ b) : Sim base C' (H ++ [ob]) where
  fsz b hb := Nat.lt_of_lt_of_le (h.fsz b ((hF b).1 hb)) hs
  dom o ho g := by
    simp at ho
    exact hβ2 o g (by omega)
  obj o ob' ho' := by
    rw [List.getElem?_append] at ho'
    split at ho'
    · rename_i hlt
      obtain ⟨h1, h2⟩ := h.obj o ob' ho'
      refine ⟨ObjOk_keep hle h1 (fun b hb => .inl ((hF b).1 hb)) (fun b hb => hm b (blk_heap h1 hb).2.2), ?_⟩
      cases ob' with
      | arr g sz l => intro g' hg'; rw [hβ _ _ hlt]; exact h2 g' hg'
      | _ => trivial
    · rename_i hge
      obtain ⟨hz, e⟩ := one_inv ho'
      have : o = H.length := by omega
      subst this
      subst e
      exact ⟨ho, hg⟩
  sep o o' ob1 ob2 b ho1 ho2 hb1 hb2 := by
    have key : ∀ o ob1, (H ++ [ob])[o]? = some ob1 → blk C' o ob1 = some b → (o < H.length ∧ H[o]? = some ob1 ∧ blk C o ob1 = some b ∧ b < C.w.heap.size) ∨ (o = H.length ∧ C.w.heap.size ≤ b) := by
      intro o ob1 ho1 hb1
      rw [List.getElem?_append] at ho1
      split at ho1
      · rename_i hlt
        rw [blk_le hle (h.obj o ob1 ho1).1] at hb1
        exact .inl ⟨hlt, ho1, hb1, (blk_heap (h.obj o ob1 ho1).1 hb1).2.2⟩
      · rename_i hge
        obtain ⟨hz, e⟩ := one_inv ho1
        have e2 : o = H.length := by omega
        subst e2
        subst e
        exact .inr ⟨rfl, hb b hb1⟩
    rcases key o ob1 ho1 hb1 with ⟨a1, a2, a3, a4⟩ | ⟨a1, a2⟩ <;> rcases key o' ob2 ho2 hb2 with ⟨b1, b2, b3, b4⟩ | ⟨b1, b2⟩
    · exact h.sep o o' ob1 ob2 b a2 b2 a3 b3
    · omega
    · omega
    · omega
  bsz := Nat.le_trans h.bsz hs

/-- One object turned, in its own block or in a new one. -/
theorem Sim.set {base C C' H o ob ob'} (h : Sim base C H) (ho : H[o]? = some ob) (hle : Le C C') (hF : ∀ b, C'.F b → b < C'.w.heap.size ∧ (C.F b ∨ C.w.heap.size ≤ b ∨ blk C o ob = some b))
    (hs : C.w.heap.size ≤ C'.w.heap.size)
    (hβ : ∀ o' g, o' ≠ o → C'.β o' g = C.β o' g)
    (hm : ∀ b, b < C.w.heap.size → blk C o ob ≠ some b → C'.w.heap[b]? = C.w.heap[b]?) (hn : ObjOk base C' o ob') (hg : GenOk C' o ob')
    (hb : ∀ b, blk C' o ob' = some b → blk C o ob = some b ∨ C.w.heap.size ≤ b) : Sim base C' (H.set o ob') where
  fsz b hb := (hF b hb).1
  dom o' ho' g := by
    have hlt : o < H.length := (List.getElem?_eq_some_iff.1 ho).1
    simp at ho'
    rw [hβ o' g (by omega)]; exact h.dom o' ho' g
  obj o' ob1 ho' := by
    rw [List.getElem?_set] at ho'
    split at ho'
    · rename_i e
      subst e
      split at ho'
      · cases ho'; exact ⟨hn, hg⟩
      · cases ho'
    · rename_i hne
      obtain ⟨h1, h2⟩ := h.obj o' ob1 ho'
      have hbl : ∀ b, blk C o' ob1 = some b → blk C o ob ≠ some b := fun b h3 h4 => hne (h.sep o o' ob ob1 b ho ho' h4 h3)
      refine ⟨?_, ?_⟩
      · have hno : ∀ b, blk C o' ob1 = some b → ¬ C'.F b := fun b h3 h4 => by
          obtain ⟨_, x2, x3⟩ := blk_heap h1 h3
          rcases (hF b h4).2 with q | q | q
          · exact x2 q
          · omega
          · exact hbl b h3 q
        cases ob1 with
        | var x =>
          obtain ⟨b, c, e, g1, g2, g3, g4, g5⟩ := h1
          have hk : blk C o' (.var x) = some b := by simp [blk, g1, bOf]
          exact ⟨b, c, e, hle.β _ _ _ g1, (hm b (lt_of_heap g2) (hbl b hk)).trans g2, Rc_le hle _ _ g3, g4, hno b hk⟩
        | arr g sz l =>
          rcases h1 with ⟨g1, g2⟩ | ⟨b, bs, c, e, pre, css, post, g1, g2, g3, g4, g5, g6, g7, g8⟩
          · exact .inl ⟨hle.β _ _ _ g1, g2⟩
          · have hk : blk C o' (.arr g sz l) = some b := by simp [blk, g1, bOf]
            exact .inr ⟨b, bs, c, e, pre, css, post, hle.β _ _ _ g1, (hm b (lt_of_heap g2) (hbl b hk)).trans g2, g3, g4, Rcl_le hle _ _ g5, g6, g7, hno b hk⟩
        | map kvs =>
          obtain ⟨b, es, cl, g1, g2, g3, g4, g5⟩ := h1
          have hk : blk C o' (.map kvs) = some b := by simp [blk, g1, bOf]
          exact ⟨b, es, cl, hle.β _ _ _ g1, (hm b (lt_of_heap g2) (hbl b hk)).trans g2, ⟨MapR_le hle g3.1, g3.2⟩, g4, hno b hk⟩
        | dead => trivial
      · cases ob1 with
        | arr g sz l => intro g' hg'; rw [hβ _ _ (fun e => hne e.symm)]; exact h2 g' hg'
        | _ => trivial
  sep o1 o2 ob1 ob2 b ho1 ho2 hb1 hb2 := by
    have key : ∀ o1 ob1, (H.set o ob')[o1]? = some ob1 → blk C' o1 ob1 = some b → (o1 = o ∧ (blk C o ob = some b ∨ C.w.heap.size ≤ b)) ∨ (o1 ≠ o ∧ H[o1]? = some ob1 ∧ blk C o1 ob1 = some b ∧ b < C.w.heap.size) := by
      intro o1 ob1 ho1 hb1
      rw [List.getElem?_set] at ho1
      split at ho1
      · rename_i e
        subst e
        split at ho1
        · cases ho1; exact .inl ⟨rfl, hb b hb1⟩
        · cases ho1
      · rename_i hne
        rw [blk_le hle (h.obj o1 ob1 ho1).1] at hb1
        exact .inr ⟨fun e => hne e.symm, ho1, hb1, (blk_heap (h.obj o1 ob1 ho1).1 hb1).2.2⟩
    rcases key o1 ob1 ho1 hb1 with ⟨a1, a2⟩ | ⟨a1, a2, a3, a4⟩ <;> rcases key o2 ob2 ho2 hb2 with ⟨b1, b2⟩ | ⟨b1, b2, b3, b4⟩
    · omega
    · rcases a2 with a2 | a2
      · exact absurd (h.sep o o2 ob ob2 b ho b2 a2 b3) (fun e => b1 e.symm)
      · omega
    · rcases b2 with b2 | b2
      · exact absurd (h.sep o o1 ob ob1 b ho a2 b2 a3) (fun e => a1 e.symm)
      · omega
    · exact h.sep o1 o2 ob1 ob2 b a2 b2 a3 b3
  bsz := Nat.le_trans h.bsz hs

/-- Fewer objects. -/
def Cx.cut (C : Cx) (n : Nat) : Cx := { C with β := fun o g => if o < n then C.β o g else none }

theorem Sim.take {base C H} (h : Sim base C H) (n : Nat) (hn : n ≤ H.length) (hfr : ∀ o ob, H[o]? = some ob → o < n → ObjOk base (C.cut n) o ob) : Sim base (C.cut n) (H.take n) where
  fsz b hb := h.fsz b hb
  dom o ho g := by
    simp at ho
    have : ¬ o < n := by omega
    simp [Cx.cut, this]
  obj o ob ho := by
    rw [List.getElem?_take] at ho
    split at ho
    · rename_i hlt
      refine ⟨hfr o ob ho hlt, ?_⟩
      cases ob with
      | arr g sz l => intro g' hg'; have := (h.obj o _ ho).2 g' hg'; simp [Cx.cut, hlt, this]
      | _ => trivial
    · cases ho
  sep o o' ob ob' b ho ho' hb hb' := by
    rw [List.getElem?_take] at ho ho'
    split at ho
    · split at ho'
      · rename_i h1 h2
        have e : ∀ o ob, o < n → blk (C.cut n) o ob = blk C o ob := by
          intro o ob hlt; cases ob <;> simp [blk, Cx.cut, hlt]
        rw [e o ob h1] at hb
        rw [e o' ob' h2] at hb'
        exact h.sep o o' ob ob' b ho ho' hb hb'
      · cases ho'
    · cases ho
  bsz := h.bsz
end Tor
/-
  Each operation that leaves memory alone: what the abstract operation gives is what the model's operation gives.
-/
namespace Tor
open Go Go.RowKit

variable {P : Program} {base : Nat} {C : Cx} {H : Heap}

theorem addr_add (b off i : Nat) : (⟨b, off, none⟩ : Addr).add i = ⟨b, off + i, none⟩ := by
  unfold Addr.add; split <;> simp_all

theorem Rv_known {x v} (hk : x.known = true) (h : Rv C x v) : Rc C x v.cells.toList ∧ vIsA v = x.isA := by
  rcases h with (rfl | h) | ⟨l, vs, rfl, _⟩
  · cases hk
  · exact h
  · cases hk

theorem Rv_of {x v} (h : Rc C x v.cells.toList) (h2 : vIsA v = x.isA) : Rv C x v := .inl (.inr ⟨h, h2⟩)

theorem cells_one {v : Value} (h : vIsA v = false) : v.cells = #[v] := by cases v <;> first | rfl | cases h

theorem Rv_one {x v} (h : Rc C x [v]) (hx : x.isA = false) (hv : vIsA v = false) : Rv C x v := by
  refine Rv_of ?_ (hv.trans hx.symm)
  rw [cells_one hv]; exact h

theorem Rv_bool {b v} (h : Rv C (.bool b) v) : v = .bool b := by
  obtain ⟨h1, h2⟩ := Rv_known rfl h
  rw [cells_one h2] at h1
  simpa [Rc] using h1
theorem Rv_int {k n v} (h : Rv C (.int k n) v) : v = .int k n := by
  obtain ⟨h1, h2⟩ := Rv_known rfl h
  rw [cells_one h2] at h1
  simpa [Rc] using h1
theorem Rv_a {x v} (h : Rv C (.a x) v) : v = x ∧ x.oneCell' = true := by
  obtain ⟨h1, h2⟩ := Rv_known rfl h
  rw [cells_one h2] at h1
  simpa [Rc] using h1
theorem Rv_nl {v} (h : Rv C .nl v) : v = .slice none 0 0 := by
  obtain ⟨h1, h2⟩ := Rv_known rfl h
  rw [cells_one h2] at h1
  simpa [Rc] using h1
theorem Rv_isl {l v} (h : Rv C (.isl l) v) : SlV C l.length (Rcl C l) v := by
  obtain ⟨h1, h2⟩ := Rv_known rfl h
  rw [cells_one h2] at h1
  simp only [Rc] at h1
  obtain ⟨_, v', e, hv⟩ := h1
  simp at e; subst e; exact hv
theorem Rv_isl_flat {l v} (h : Rv C (.isl l) v) : AV.hasRefs l = false := by
  obtain ⟨h1, h2⟩ := Rv_known rfl h
  simp only [Rc] at h1
  exact h1.1
theorem Rv_iptr {x v} (h : Rv C (.iptr x) v) : ∃ b off xs, v = .pointer (some ⟨b, off, none⟩) ∧ C.F b ∧ Rc C x xs ∧ cellsAt C.w b off xs := by
  obtain ⟨h1, h2⟩ := Rv_known rfl h
  rw [cells_one h2] at h1
  simp only [Rc] at h1
  obtain ⟨b, off, xs, e, r⟩ := h1
  simp at e; exact ⟨b, off, xs, e, r⟩
theorem Rv_ptr {o g p v} (h : Rv C (.ptr o g p) v) : ∃ b bs, C.β o g = some (some (b, bs)) ∧ v = .pointer (some ⟨b, bs + offs p, none⟩) := by
  obtain ⟨h1, h2⟩ := Rv_known rfl h
  rw [cells_one h2] at h1
  simp only [Rc] at h1
  obtain ⟨b, bs, hb, e⟩ := h1
  simp at e; exact ⟨b, bs, hb, e⟩
theorem Rv_sl {o g sz st len v} (h : Rv C (.sl o g sz st len) v) : (∃ b bs cap, C.β o g = some (some (b, bs)) ∧ v = .slice (some ⟨b, bs + st * sz, none⟩) len cap ∧ len ≤ cap ∧ Room C.w b (bs + st * sz) sz cap) ∨
      (∃ q, C.β o g = some q ∧ len = 0 ∧ ∃ a, v = .slice a 0 0) := by
  obtain ⟨h1, h2⟩ := Rv_known rfl h
  rw [cells_one h2] at h1
  simp only [Rc] at h1
  rcases h1 with ⟨b, bs, cap, hb, e, r⟩ | ⟨q, hb, hl, a, e⟩
  · simp at e; exact .inl ⟨b, bs, cap, hb, e, r⟩
  · simp at e; exact .inr ⟨q, hb, hl, a, e⟩
theorem Rv_mp {o v} (h : Rv C (.mp o) v) : ∃ b, C.β o 0 = some (some (b, 0)) ∧ v = .map (some b) := by
  obtain ⟨h1, h2⟩ := Rv_known rfl h
  rw [cells_one h2] at h1
  simp only [Rc] at h1
  obtain ⟨b, hb, e⟩ := h1
  simp at e; exact ⟨b, hb, e⟩
theorem Rv_fn {f l v} (h : Rv C (.fn f l) v) : ∃ vs, v = .func (.func (C.ι f)) #[] vs ∧ Rcl C l (vs.toList.map fun v => [v]) ∧ ∀ x ∈ l, x.isA = false := by
  obtain ⟨h1, h2⟩ := Rv_known rfl h
  rw [cells_one h2] at h1
  simp only [Rc] at h1
  obtain ⟨ha, vs, e, hl⟩ := h1
  simp at e; exact ⟨vs, e, hl, ha⟩
theorem Rv_agg {l v} (h : Rv C (.agg l) v) : ∃ css, Rcl C l css ∧ v = .agg css.flatten.toArray := by
  obtain ⟨h1, h2⟩ := Rv_known rfl h
  simp only [Rc] at h1
  obtain ⟨css, hl, e⟩ := h1
  refine ⟨css, hl, ?_⟩
  cases v <;> simp [vIsA, AV.isA] at h2
  rename_i cs
  simp [Value.cells] at e
  rw [← e]
theorem Rv_tup {l v} (h : Rv C (.tup l) v) : ∃ vs, v = .tuple vs ∧ Rvl C l vs.toList := by
  rcases h with (e | ⟨h, _⟩) | ⟨l', vs, e, e2, h⟩
  · cases e
  · exact h.elim
  · cases e; exact ⟨vs, e2, h⟩

theorem mk_bool (b : Bool) : Rv C (.bool b) (.bool b) := Rv_one (by simp [Rc]) rfl rfl
theorem mk_int (k : IntKind) (n : Int) : Rv C (.int k n) (.int k n) := Rv_one (by simp [Rc]) rfl rfl

theorem uniform_len {α} {sz : Nat} : ∀ css : List (List α), (∀ c ∈ css, c.length = sz) → css.flatten.length = css.length * sz
  | [], _ => by simp
  | c :: r, h => by
    have h1 := h c (by simp)
    have h2 := uniform_len r (fun d hd => h d (by simp [hd]))
    simp only [List.flatten_cons, List.length_append, List.length_cons, h1, h2, Nat.add_mul]; omega

theorem take_uniform {α} {sz : Nat} (css : List (List α)) (h : ∀ c ∈ css, c.length = sz) (i : Nat) (hi : i ≤ css.length) : (css.take i).flatten.length = i * sz := by
  rw [uniform_len _ (fun c hc => h c (List.mem_of_mem_take hc)), List.length_take, Nat.min_eq_left hi]

theorem cellsAt_of {w : World} {b : Nat} {c : Array Value} {e : TypeId} {fr : Nat × Nat} (h : w.heap[b]? = some (.cells c e fr)) {pre ys post : List Value} (hc : c.toList = pre ++ ys ++ post) :
    cellsAt w b pre.length ys := by
  intro i x hx
  have : c[pre.length + i]? = some x := by
    rw [← Array.getElem?_toList, hc, List.append_assoc, List.getElem?_append_right (by omega)]
    simp only [Nat.add_sub_cancel_left]
    rw [List.getElem?_append_left]
    · exact hx
    · exact (List.getElem?_eq_some_iff.1 hx).1
  simp [World.cell?, h, this]

theorem cellsAt_part {w : World} {b off : Nat} {pre ys post : List Value} (h : cellsAt w b off (pre ++ ys ++ post)) : cellsAt w b (off + pre.length) ys := by
  intro i x hx
  have := h (pre.length + i) x (by
    rw [List.append_assoc, List.getElem?_append_right (by omega), Nat.add_sub_cancel_left, List.getElem?_append_left]
    · exact hx
    · exact (List.getElem?_eq_some_iff.1 hx).1)
  rw [← this, Nat.add_assoc]

/-- What lies behind a pointer into an object. -/
theorem objGet_ok (hs : Sim base C H) {o ob g p y} (ho : H[o]? = some ob) (h : objGet ob g p = some y) :
    ∃ b bs ys, C.β o g = some (some (b, bs)) ∧ Rc C y ys ∧ cellsAt C.w b (bs + offs p) ys := by
  obtain ⟨hok, _⟩ := hs.obj o ob ho
  cases ob with
  | var x =>
    simp only [objGet] at h
    split at h
    · rename_i hg
      subst hg
      obtain ⟨b, c, e, h1, h2, h3, _⟩ := hok
      obtain ⟨pre, ys, post, e1, e2, e3⟩ := nav_ok p x y _ h h3
      refine ⟨b, 0, ys, h1, e3, ?_⟩
      have := cellsAt_of h2 e1
      rw [e2] at this
      simpa using this
    · cases h
  | arr g' sz l =>
    cases p with
    | nil => simp [objGet] at h
    | cons q p =>
      obtain ⟨i, off⟩ := q
      simp only [objGet] at h
      split at h
      · rename_i hg
        obtain ⟨hg, ho2⟩ := hg
        subst hg
        split at h
        · rename_i z hz
          rcases hok with ⟨_, h2⟩ | ⟨b, bs, c, e, pre, css, post, h1, h2, h3, h4, h5, h6, _⟩
          · subst h2; simp at hz
          · obtain ⟨cz, hcz, hrz⟩ := Rcl_get l css i z h5 hz
            obtain ⟨pre2, ys, post2, e1, e2, e3⟩ := nav_ok p z y _ h hrz
            refine ⟨b, bs, ys, h1, e3, ?_⟩
            have hi : i < css.length := (List.getElem?_eq_some_iff.1 hcz).1
            have hl : (css.take i).flatten.length = i * sz := take_uniform css h6 i (by omega)
            have hc : c.toList = (pre ++ (css.take i).flatten ++ pre2) ++ ys ++ (post2 ++ (css.drop (i + 1)).flatten ++ post) := by
              rw [h3, flatten_split css i cz hcz, e1]; simp [List.append_assoc]
            have := cellsAt_of h2 hc
            simp only [List.length_append, h4, hl, e2] at this
            rw [show bs + offs ((i, off) :: p) = bs + i * sz + offs p by simp [offs, ho2]; omega]
            exact this
        · cases h
      · cases h
  | _ => simp [objGet] at h

def aggB (P : Program) (t : TypeId) : Option Bool :=
  match P.underlying t with
  | some (.struct _) => some true
  | some (.array _ _) => some true
  | some _ => some false
  | none => none

def sizeB (P : Program) (t : TypeId) : Option Nat := (P.info? t).map (·.size)

theorem run_isAgg {t b} (h : aggB P t = some b) (w : World) : (isAgg t).run P w = .ok b w := by
  unfold aggB at h
  unfold isAgg
  cases hu : P.underlying t with
  | none => rw [hu] at h; cases h
  | some d =>
    rw [hu] at h
    simp only [Sem.run_bind, run_underlying hu, Result.andThen_ok]
    cases d <;> (cases h; rfl)

theorem run_sizeOf {t n} (h : sizeB P t = some n) (w : World) : (Go.sizeOf t).run P w = .ok n w := by
  unfold sizeB at h
  cases hi : P.info? t with
  | none => rw [hi] at h; cases h
  | some i => rw [hi] at h; cases h; simp [Go.sizeOf, typeInfo, hi]

theorem run_loadVar {t ag b off ys y} (ha : aggB P t = some ag) (hz : sizeB P t = some y.size) (hag : y.isA = ag) (hy : Rc C y ys) (hc : cellsAt C.w b off ys) :
    ∃ v, (loadVar t ⟨b, off, none⟩).run P C.w = .ok v C.w ∧ Rv C y v := by
  have hlen := Rc_len y ys hy
  unfold loadVar
  simp only [Sem.run_bind, run_isAgg ha, Result.andThen_ok]
  cases ag with
  | true =>
    refine ⟨.agg ys.toArray, ?_, Rv_of (by simpa [Value.cells] using hy) hag.symm⟩
    have := run_loadCells_list (P := P) C.w ⟨b, off, none⟩ ys (fun j v hv => by rw [addr_add]; exact hc j v hv)
    rw [hlen] at this
    simp only [if_true, Sem.run_bind, run_sizeOf hz, Result.andThen_ok, this, Sem.run_pure]
  | false =>
    have h1 : ys.length = 1 := by
      rw [hlen]
      cases y <;> first | rfl | cases hag
    match ys, h1 with
    | [v], _ =>
      have hv := Rc_one y [v] hy v (by simp)
      have hva : vIsA v = false := by cases v <;> first | rfl | cases hv
      refine ⟨v, ?_, Rv_one hy hag hva⟩
      have := hc 0 v (by simp)
      simp only [Nat.add_zero] at this
      simp [this]

theorem load_ok (hs : Sim base C H) {t ag sz X v y} (ha : aggB P t = some ag) (hz : sizeB P t = some sz) (hx : Rv C X v) (h : doLoad ag sz H X = some y) :
    ∃ u, (Instr.loadAt t v).run P C.w = .ok u C.w ∧ Rv C y u := by
  have hfit : ∀ q, fits ag sz q = some y → q = some y ∧ y.size = sz ∧ y.isA = ag := by
    intro q hq
    cases q with
    | none => cases hq
    | some z =>
      simp only [fits] at hq
      split at hq
      · rename_i hh; cases hq; exact ⟨rfl, hh⟩
      · cases hq
  unfold Instr.loadAt
  cases X with
  | iptr x =>
    simp only [doLoad] at h
    obtain ⟨e, h1, h2⟩ := hfit _ h
    cases e
    obtain ⟨b, off, xs, rfl, hF, hr, hm⟩ := Rv_iptr hx
    simp only [Instr.sureAddr, Sem.run_bind, Sem.run_pure, Result.andThen_ok]
    exact run_loadVar ha (h1 ▸ hz) h2 hr hm
  | ptr o g p =>
    simp only [doLoad] at h
    obtain ⟨e, h1, h2⟩ := hfit _ h
    obtain ⟨b, bs, hb, rfl⟩ := Rv_ptr hx
    cases ho : H[o]? with
    | none => rw [ho] at e; cases e
    | some ob =>
      rw [ho] at e
      obtain ⟨b', bs', ys, hb', hr, hm⟩ := objGet_ok hs ho e
      rw [hb] at hb'
      cases hb'
      simp only [Instr.sureAddr, Sem.run_bind, Sem.run_pure, Result.andThen_ok]
      exact run_loadVar ha (h1 ▸ hz) h2 hr hm
  | _ => cases h

theorem nilCheck_ok {X v y} (hx : Rv C X v) (h : doNilCheck X = some y) :
    Rv C y v ∧ (match v with
    | .pointer none | .nilIface | .nilFunc => False
    | .func (.method _) _ _ => False
    | _ => True) := by
  cases X with
  | iptr x => cases h; obtain ⟨b, off, xs, rfl, _⟩ := Rv_iptr hx; exact ⟨hx, trivial⟩
  | ptr o g p => cases h; obtain ⟨b, bs, _, rfl⟩ := Rv_ptr hx; exact ⟨hx, trivial⟩
  | fn f l => cases h; obtain ⟨vs, rfl, _⟩ := Rv_fn hx; exact ⟨hx, trivial⟩
  | _ => cases h

theorem conv_ok {s d k X v y} (hd : P.underlying d = some (.int k)) (hsd : (P.underlying s).isSome = true) (hx : Rv C X v) (h : doConv k X = some y) :
    ∃ u, (convert s d v).run P C.w = .ok u C.w ∧ Rv C y u := by
  cases X with
  | int k' n =>
    cases h
    rw [Rv_int hx]
    obtain ⟨ds, hds⟩ := Option.isSome_iff_exists.1 hsd
    refine ⟨.int k (k.wrap n), ?_, mk_int _ _⟩
    unfold convert
    simp only [Sem.run_bind, run_underlying hds, run_underlying hd, Result.andThen_ok]
    cases ds <;> rfl
  | _ => cases h

theorem binInt_ok {op k x y z} (h : binInt op k x y = some z) (t : TypeId) (w : World) :
    ∃ u, (binOp op t (.int k x) (.int k y)).run P w = .ok u w ∧ ∀ C, Rv C z u := by
  cases op <;> simp only [binInt, Option.some.injEq, reduceCtorEq] at h
  case quo =>
    split at h
    · cases h
    · rename_i hy; cases h
      exact ⟨.int k (k.wrap (x.tdiv y)), by simp [binOp, Op.intDiv, hy], fun C => mk_int _ _⟩
  case rem =>
    split at h
    · cases h
    · rename_i hy; cases h
      exact ⟨.int k (x.tmod y), by simp [binOp, Op.intDiv, hy], fun C => mk_int _ _⟩
  all_goals subst h
  case add => exact ⟨_, by simp only [binOp, ne_eq, not_true_eq_false, if_false, Op.intArith]; rfl, fun C => mk_int _ _⟩
  case sub => exact ⟨_, by simp only [binOp, ne_eq, not_true_eq_false, if_false, Op.intArith]; rfl, fun C => mk_int _ _⟩
  case mul => exact ⟨_, by simp only [binOp, ne_eq, not_true_eq_false, if_false, Op.intArith]; rfl, fun C => mk_int _ _⟩
  case and => exact ⟨_, by simp only [binOp, ne_eq, not_true_eq_false, if_false, Op.intBits]; rfl, fun C => mk_int _ _⟩
  case or => exact ⟨_, by simp only [binOp, ne_eq, not_true_eq_false, if_false, Op.intBits]; rfl, fun C => mk_int _ _⟩
  case xor => exact ⟨_, by simp only [binOp, ne_eq, not_true_eq_false, if_false, Op.intBits]; rfl, fun C => mk_int _ _⟩
  case andNot => exact ⟨_, by simp only [binOp, ne_eq, not_true_eq_false, if_false, Op.intBits]; rfl, fun C => mk_int _ _⟩
  all_goals exact ⟨_, by simp only [binOp, ne_eq, not_true_eq_false, if_false, Op.intCmp]; rfl, fun C => mk_bool _⟩

theorem run_eql_bool2 (t : TypeId) (a b : Bool) (h : P.underlying t = some .bool) (w : World) : (Op.equal t (.bool a) (.bool b)).run P w = .ok (a == b) w := by
  unfold Op.equal Op.maxDepth
  rw [show (10000 : Nat) = 9999 + 1 from rfl, Op.equalIn]
  simp only [Sem.run_bind, run_underlying h, Result.andThen_ok]
  rfl

theorem binb_ok {ne t X Y u v z} (ht : P.underlying t = some .bool) (hx : Rv C X u) (hy : Rv C Y v) (h : binB ne X Y = some z) :
    ∃ r, (binOp (if ne then .neq else .eql) t u v).run P C.w = .ok r C.w ∧ Rv C z r := by
  cases X <;> cases Y <;> simp only [binB, reduceCtorEq, Option.some.injEq] at h
  rename_i a b
  subst h
  rw [Rv_bool hx, Rv_bool hy]
  cases ne with
  | false => exact ⟨.bool (a == b), by simp only [Bool.false_eq_true, if_false, binOp, Sem.run_bind, run_eql_bool2 t a b ht, Result.andThen_ok, Sem.run_pure], mk_bool _⟩
  | true => exact ⟨.bool (!(a == b)), by simp only [if_true, binOp, Sem.run_bind, run_eql_bool2 t a b ht, Result.andThen_ok, Sem.run_pure], mk_bool _⟩

theorem bin_ok {op t X Y u v z} (hx : Rv C X u) (hy : Rv C Y v) (h : binAV op X Y = some z) : ∃ r, (binOp op t u v).run P C.w = .ok r C.w ∧ Rv C z r := by
  cases X <;> try (cases h; done)
  cases Y <;> try (cases h; done)
  rename_i k x k' y
  rw [Rv_int hx, Rv_int hy]
  have hgen : ∀ op, (if k = k' then binInt op k x y else none) = some z → ∃ r, (binOp op t (.int k x) (.int k' y)).run P C.w = .ok r C.w ∧ Rv C z r := by
    intro op h'
    split at h'
    · rename_i hk; subst hk
      obtain ⟨r, hr, hz⟩ := binInt_ok (P := P) h' t C.w
      exact ⟨r, hr, hz C⟩
    · cases h'
  cases op
  case shl =>
    simp only [binAV] at h
    split at h
    · cases h
    · rename_i hn; cases h
      exact ⟨_, by simp only [binOp, Op.shift, hn, if_false]; rfl, mk_int _ _⟩
  case shr =>
    simp only [binAV] at h
    split at h
    · cases h
    · rename_i hn; cases h
      exact ⟨_, by simp only [binOp, Op.shift, hn, if_false]; rfl, mk_int _ _⟩
  all_goals exact hgen _ h

theorem un_ok {op X u z} (hx : Rv C X u) (h : unAV op X = some z) : ∃ r, (Op.unary op u).run P C.w = .ok r C.w ∧ Rv C z r := by
  cases X <;> try (cases h; done)
  · rename_i b
    rw [Rv_bool hx]
    cases op <;> simp only [unAV, Option.some.injEq, reduceCtorEq] at h
    subst h; exact ⟨.bool !b, by simp only [Op.unary, Sem.run_pure], mk_bool _⟩
  · rename_i k n
    rw [Rv_int hx]
    cases op <;> simp only [unAV, Option.some.injEq, reduceCtorEq] at h
    · subst h; exact ⟨_, by simp only [Op.unary, Op.intArith]; rfl, mk_int _ _⟩
    · subst h; exact ⟨_, by simp only [Op.unary, Op.intBits]; rfl, mk_int _ _⟩

def fieldB (P : Program) (t : TypeId) (i : Nat) : Option Field :=
  match P.underlying t with
  | some (.struct fs) => fs[i]?
  | _ => none

theorem sizes_take_get {l : List AV} {css} (hl : Rcl C l css) {i : Nat} {y : AV} (hy : l[i]? = some y) :
    ∃ c, css.flatten = (css.take i).flatten ++ c ++ (css.drop (i + 1)).flatten ∧ (css.take i).flatten.length = AV.sizes (l.take i) ∧ Rc C y c := by
  obtain ⟨c, hc, hr⟩ := Rcl_get l css i y hl hy
  exact ⟨c, flatten_split css i c hc, take_size hl i, hr⟩

theorem fieldAddr_ok {t i off f X v y} (hf : fieldB P t i = some f) (ho : f.offset = off) (hz : ∃ n, sizeB P f.type = some n ∧ n ≠ 0) (hx : Rv C X v) (h : doFieldAddr i off X = some y) :
    ∃ u, (Instr.fieldAt t v i).run P C.w = .ok u C.w ∧ Rv C y u := by
  obtain ⟨n, hn, hn0⟩ := hz
  have hrun : ∀ b o, v = .pointer (some ⟨b, o, none⟩) → (Instr.fieldAt t v i).run P C.w = .ok (.pointer (some ⟨b, o + off, none⟩)) C.w := by
    rintro b o rfl
    unfold fieldB at hf
    cases hu : P.underlying t with
    | none => rw [hu] at hf; cases hf
    | some d =>
      rw [hu] at hf
      cases d <;> try (cases hf; done)
      rename_i fs
      simp [Instr.fieldAt, run_underlying hu, hf, Instr.sureAddr, fieldPlace, run_sizeOf hn, hn0, addr_add, ho]
  cases X with
  | iptr x =>
    cases x with
    | agg l =>
      simp only [doFieldAddr] at h
      split at h
      · rename_i hs
        obtain ⟨b, o, xs, rfl, hF, hr, hm⟩ := Rv_iptr hx
        cases hl : l[i]? with
        | none => rw [hl] at h; cases h
        | some z =>
          rw [hl] at h; cases h
          simp only [Rc] at hr
          obtain ⟨css, hcl, rfl⟩ := hr
          obtain ⟨c, e1, e2, e3⟩ := sizes_take_get hcl hl
          refine ⟨_, hrun b o rfl, Rv_one ?_ rfl rfl⟩
          simp only [Rc]
          rw [e1] at hm
          have := cellsAt_part hm
          rw [e2, hs] at this
          exact ⟨b, o + off, c, rfl, hF, e3, this⟩
      · cases h
    | _ => cases h
  | ptr o g p =>
    cases h
    obtain ⟨b, bs, hb, rfl⟩ := Rv_ptr hx
    refine ⟨_, hrun b _ rfl, Rv_one ?_ rfl rfl⟩
    simp only [Rc]
    exact ⟨b, bs, hb, by simp [offs]; omega⟩
  | _ => cases h

theorem fits_inv {ag sz q y} (h : fits ag sz q = some y) : q = some y ∧ y.size = sz ∧ y.isA = ag := by
  cases q with
  | none => cases h
  | some z =>
    simp only [fits] at h
    split at h
    · rename_i hh; cases h; exact ⟨rfl, hh⟩
    · cases h

theorem field_ok {t i off ag sz f X v y} (hf : fieldB P t i = some f) (ho : f.offset = off) (ha : aggB P f.type = some ag) (hz : sizeB P f.type = some sz) (hx : Rv C X v) (h : doField i off ag sz X = some y) :
    ∃ u, (Instr.field t v i).run P C.w = .ok u C.w ∧ Rv C y u := by
  cases X with
  | agg l =>
    simp only [doField] at h
    split at h
    · rename_i hs
      obtain ⟨e, h1, h2⟩ := fits_inv h
      obtain ⟨css, hcl, rfl⟩ := Rv_agg hx
      obtain ⟨c, e1, e2, e3⟩ := sizes_take_get hcl e
      have hlen := Rc_len _ _ e3
      unfold fieldB at hf
      cases hu : P.underlying t with
      | none => rw [hu] at hf; cases hf
      | some d =>
        rw [hu] at hf
        cases d <;> try (cases hf; done)
        rename_i fs
        simp only at hf
        have hcut : (css.flatten.drop off).take sz = c := by
          rw [e1, ← hs, ← e2, List.append_assoc, List.drop_left, ← h1, ← hlen, List.take_left]
        cases ag with
        | true =>
          refine ⟨.agg c.toArray, ?_, Rv_of (by simpa [Value.cells] using e3) h2.symm⟩
          simp only [Instr.field, Sem.run_bind, run_underlying hu, Result.andThen_ok, hf, asAgg, Sem.run_pure, part, run_isAgg ha, if_true, run_sizeOf hz, ho]
          congr 2
          rw [← hcut]
          apply Array.ext'
          simp
        | false =>
          have h1' : c.length = 1 := by
            rw [hlen]
            cases y <;> first | rfl | cases h2
          match c, h1' with
          | [u], _ =>
            have hv := Rc_one y [u] e3 u (by simp)
            have hva : vIsA u = false := by cases u <;> first | rfl | cases hv
            refine ⟨u, ?_, Rv_one e3 h2 hva⟩
            have hget : css.flatten[off]? = some u := by
              rw [e1, ← hs, ← e2, List.append_assoc, List.getElem?_append_right (by omega)]; simp
            simp [Instr.field, run_underlying hu, hf, asAgg, part, run_isAgg ha, ho, hget]
    · cases h
  | _ => cases h

def sliceB (P : Program) (t : TypeId) : Option TypeId :=
  match P.underlying t with
  | some (.slice e) => some e
  | _ => none

theorem sliceB_inv {t e} (h : sliceB P t = some e) : P.underlying t = some (.slice e) := by
  unfold sliceB at h
  cases hu : P.underlying t with
  | none => rw [hu] at h; cases h
  | some d => rw [hu] at h; cases d <;> first | (cases h; rfl) | cases h

theorem indexAddr_ok {t e sz X I v vi y} (ht : sliceB P t = some e) (hz : sizeB P e = some sz) (hx : Rv C X v) (hi : Rv C I vi) (h : doIndexAddr sz X I = some y) :
    ∃ u, (Instr.indexAt t v vi).run P C.w = .ok u C.w ∧ Rv C y u := by
  have hu := sliceB_inv ht
  have hrun : ∀ b o len cap k (n : Int), v = .slice (some ⟨b, o, none⟩) len cap → vi = .int k n → 0 ≤ n → n < len →
      (Instr.indexAt t v vi).run P C.w = .ok (.pointer (some ⟨b, o + n.toNat * sz, none⟩)) C.w := by
    rintro b o len cap k n rfl rfl h0 h1
    simp [Instr.indexAt, asIntOf, run_underlying hu, h0, h1, run_sizeOf hz, addr_add]
  cases I with
  | int k n =>
    have hvi := Rv_int hi
    cases X with
    | isl l =>
      simp only [doIndexAddr] at h
      split at h
      · rename_i h0
        cases hl : l[n.toNat]? with
        | none => rw [hl] at h; cases h
        | some z =>
          rw [hl] at h
          simp only [iptrOf] at h
          split at h
          · rename_i hzs
            cases h
            have hlt : n.toNat < l.length := (List.getElem?_eq_some_iff.1 hl).1
            obtain ⟨a, cap, rfl, hn⟩ := Rv_isl hx
            rcases hn with hn | ⟨b, off, css, sz', rfl, hF, hc, hr, hun, hm⟩
            · omega
            · obtain ⟨c, hcc, hrz⟩ := Rcl_get l css _ z hr hl
              have hsz : sz' = sz := by rw [← hzs, ← Rc_len _ _ hrz]; exact (hun c (List.mem_of_getElem? hcc)).symm
              subst hsz
              refine ⟨_, hrun b off _ cap k n rfl hvi h0 (by omega), Rv_one ?_ rfl rfl⟩
              simp only [Rc]
              rw [flatten_split css _ c hcc] at hm
              have := cellsAt_part hm
              rw [take_uniform css hun _ (by have := (List.getElem?_eq_some_iff.1 hcc).1; omega)] at this
              exact ⟨b, off + n.toNat * sz', c, rfl, hF, hrz, this⟩
          · cases h
      · cases h
    | sl o g sz' st len =>
      simp only [doIndexAddr] at h
      split at h
      · rename_i hh
        obtain ⟨h0, h1, h2⟩ := hh
        subst h2
        cases h
        rcases Rv_sl hx with ⟨b, bs, cap, hb, rfl, hl, hroom⟩ | ⟨_, _, hl, _⟩
        · refine ⟨_, hrun b _ len cap k n rfl hvi h0 h1, Rv_one ?_ rfl rfl⟩
          simp only [Rc]
          exact ⟨b, bs, hb, by simp [offs, Nat.add_mul]; omega⟩
        · omega
      · cases h
    | _ => cases h
  | _ => cases X <;> cases h

theorem indexArr_ok {t e n sz X I v vi y} (ht : P.underlying t = some (.array n e)) (hz : sizeB P e = some sz) (hx : Rv C X v) (hi : Rv C I vi) (h : doIndexArr n sz X I = some y) :
    ∃ u, (Instr.indexAt t v vi).run P C.w = .ok u C.w ∧ Rv C y u := by
  have hrun : ∀ b o k (i : Int), v = .pointer (some ⟨b, o, none⟩) → vi = .int k i → 0 ≤ i → i < n →
      (Instr.indexAt t v vi).run P C.w = .ok (.pointer (some ⟨b, o + i.toNat * sz, none⟩)) C.w := by
    rintro b o k i rfl rfl h0 h1
    simp [Instr.indexAt, asIntOf, run_underlying ht, Instr.sureAddr, h0, h1, run_sizeOf hz, addr_add]
  cases I with
  | int k i =>
    have hvi := Rv_int hi
    cases X with
    | iptr x =>
      cases x with
      | agg l =>
        simp only [doIndexArr] at h
        split at h
        · rename_i hh
          obtain ⟨h0, h1, hs⟩ := hh
          obtain ⟨b, o, xs, rfl, hF, hr, hm⟩ := Rv_iptr hx
          cases hl : l[i.toNat]? with
          | none => rw [hl] at h; cases h
          | some z =>
            rw [hl] at h
            simp only [iptrOf] at h
            split at h
            · cases h
              simp only [Rc] at hr
              obtain ⟨css, hcl, rfl⟩ := hr
              obtain ⟨c, e1, e2, e3⟩ := sizes_take_get hcl hl
              refine ⟨_, hrun b o k i rfl hvi h0 h1, Rv_one ?_ rfl rfl⟩
              simp only [Rc]
              rw [e1] at hm
              have := cellsAt_part hm
              rw [e2, hs] at this
              exact ⟨b, _, c, rfl, hF, e3, this⟩
            · cases h
        · cases h
      | _ => cases h
    | ptr o g p =>
      simp only [doIndexArr] at h
      split at h
      · rename_i hh
        cases h
        obtain ⟨b, bs, hb, rfl⟩ := Rv_ptr hx
        refine ⟨_, hrun b _ k i rfl hvi hh.1 hh.2, Rv_one ?_ rfl rfl⟩
        simp only [Rc]
        exact ⟨b, bs, hb, by simp [offs]; omega⟩
      · cases h
    | _ => cases h
  | _ =>
    cases X with
    | iptr x => cases x <;> cases h
    | _ => cases h

theorem indexStr_ok {t X I v vi y} (ht : P.underlying t = some .string) (hx : Rv C X v) (hi : Rv C I vi) (h : doIndexStr X I = some y) :
    ∃ u, (Instr.index t v vi).run P C.w = .ok u C.w ∧ Rv C y u := by
  cases X with
  | a x =>
    cases I with
    | int k n =>
      cases x <;> try (cases h; done)
      rename_i s
      simp only [doIndexStr] at h
      split at h
      · rename_i h0
        cases hs : s[n.toNat]? with
        | none => rw [hs] at h; cases h
        | some b =>
          rw [hs] at h; cases h
          rw [(Rv_a hx).1, Rv_int hi]
          exact ⟨.int .u8 b.toNat, by simp [Instr.index, asIntOf, run_underlying ht, h0, hs], mk_int _ _⟩
      · cases h
    | _ => cases x <;> cases h
  | _ => cases I <;> cases h
end Tor
/-
  More operations that leave memory alone: slices, lengths, maps, structs, function values.
-/
namespace Tor
open Go Go.RowKit

variable {P : Program} {base : Nat} {C : Cx} {H : Heap}

theorem headSize_uniform {l : List AV} {css : List (List Value)} {sz sz' : Nat} (hr : Rcl C l css) (hu : ∀ c ∈ css, c.length = sz') (h : headSize sz l = true) (hne : l ≠ []) : sz' = sz := by
  cases l with
  | nil => exact absurd rfl hne
  | cons x l =>
    simp only [Rcl] at hr
    obtain ⟨c, r, e, hx, _⟩ := hr
    subst e
    simp only [headSize, beq_iff_eq] at h
    rw [← h, ← Rc_len x c hx]
    exact (hu c (by simp)).symm

theorem bound_run {o : Option AV} {ov : Option Value} {d : Int} {n : Int} (hov : ∀ x, o = some x → ∃ v, ov = some v ∧ Rv C x v) (hnone : o = none → ov = none) (h : bound o d = some n) :
    (o = none ∧ ov = none ∧ n = d) ∨ ∃ k, o = some (.int k n) ∧ ov = some (.int k n) := by
  cases o with
  | none => cases h; exact .inl ⟨rfl, hnone rfl, rfl⟩
  | some x =>
    cases x <;> try (cases h; done)
    cases h
    obtain ⟨v, hv, hr⟩ := hov _ rfl
    rw [Rv_int hr] at hv
    exact .inr ⟨_, rfl, hv⟩

/-- Optional operands and their values. -/
def RvO (C : Cx) (o : Option AV) (ov : Option Value) : Prop :=
  match o, ov with
  | none, none => True
  | some x, some v => Rv C x v
  | _, _ => False

theorem bound_cases {o ov d n} (hr : RvO C o ov) (h : bound o d = some n) : (ov = none ∧ n = d) ∨ ∃ k, ov = some (.int k n) := by
  cases o with
  | none => cases ov with
    | none => cases h; exact .inl ⟨rfl, rfl⟩
    | some v => exact hr.elim
  | some x =>
    cases ov with
    | none => exact hr.elim
    | some v =>
      cases x <;> try (cases h; done)
      cases h
      exact .inr ⟨_, by rw [Rv_int hr]⟩

theorem run_sliceBound {k : IntKind} {n : Int} {y : Nat} {code} (h0 : 0 ≤ n) (h1 : n ≤ y) (w : World) : (Instr.sliceBound (.int k n) y code).run P w = .ok n.toNat w := by
  simp [Instr.sliceBound, asIntOf, h0, h1]

theorem sliceIn_inv {n a b c r} (h : sliceIn n a b c = some r) : ∃ i j k, a = some i ∧ b = some j ∧ c = some k ∧ 0 ≤ i ∧ i ≤ j ∧ j ≤ k ∧ k ≤ n ∧ r = (i.toNat, j.toNat) := by
  cases a <;> cases b <;> cases c <;> simp only [sliceIn, reduceCtorEq] at h
  split at h
  · rename_i i j k hh
    cases h
    exact ⟨i, j, k, rfl, rfl, rfl, hh.1, hh.2.1, hh.2.2.1, hh.2.2.2, rfl⟩
  · cases h

/-- The bounds of a slice expression: max is what was asked for, or the capacity. -/
theorem run_sliceBounds {len cap : Nat} {lo hi mx : Option AV} {vlo vhi vmx : Option Value} {i j : Nat} (hlo : RvO C lo vlo) (hhi : RvO C hi vhi) (hmx : RvO C mx vmx) (hc : len ≤ cap)
    (hmh : vmx.isSome = true → vhi.isSome = true)
    (h : sliceIn len (bound lo 0) (bound hi len) (bound mx len) = some (i, j)) :
    ∃ m, (Instr.sliceBounds true len cap vlo vhi vmx).run P C.w = .ok (i, j, m) C.w ∧ i ≤ j ∧ j ≤ m ∧ m ≤ cap ∧ j ≤ len := by
  obtain ⟨i', j', k', h1, h2, h3, a1, a2, a3, a4, e⟩ := sliceIn_inv h
  cases e
  have f1 : ∀ (k : IntKind) code, (Instr.sliceBound (.int k k') cap code).run P C.w = .ok k'.toNat C.w := fun k code => run_sliceBound (by omega) (by omega) _
  have f2 : ∀ (k : IntKind) code, (Instr.sliceBound (.int k j') k'.toNat code).run P C.w = .ok j'.toNat C.w := fun k code => run_sliceBound (by omega) (by omega) _
  have f3 : ∀ (k : IntKind) code, (Instr.sliceBound (.int k j') cap code).run P C.w = .ok j'.toNat C.w := fun k code => run_sliceBound (by omega) (by omega) _
  have f4 : ∀ (k : IntKind) code, (Instr.sliceBound (.int k i') j'.toNat code).run P C.w = .ok i'.toNat C.w := fun k code => run_sliceBound (by omega) (by omega) _
  rcases bound_cases hmx h3 with ⟨e3, e3'⟩ | ⟨k3, e3⟩
  · refine ⟨cap, ?_, by omega, by omega, Nat.le_refl _, by omega⟩
    rcases bound_cases hhi h2 with ⟨e2, e2'⟩ | ⟨k2, e2⟩ <;> rcases bound_cases hlo h1 with ⟨e1, e1'⟩ | ⟨k1, e1⟩ <;> subst e1 e2 e3
    · subst e1' e2'; simp [Instr.sliceBounds]
    · subst e2'
      have := f4 k1
      simp at this
      simp [Instr.sliceBounds, this]
    · subst e1'; simp [Instr.sliceBounds, f3]
    · simp [Instr.sliceBounds, f3, f4]
  · refine ⟨k'.toNat, ?_, by omega, by omega, by omega, by omega⟩
    rcases bound_cases hhi h2 with ⟨e2, e2'⟩ | ⟨k2, e2⟩
    · subst e2; subst e3; exact absurd (hmh rfl) (by simp)
    · rcases bound_cases hlo h1 with ⟨e1, e1'⟩ | ⟨k1, e1⟩ <;> subst e1 e2 e3
      · subst e1'; simp [Instr.sliceBounds, f1, f2]
      · simp [Instr.sliceBounds, f1, f2, f4]

theorem slice_ok {t e sz lo hi mx X vlo vhi vmx v y} (ht : sliceB P t = some e) (hz : sizeB P e = some sz) (hlo : RvO C lo vlo) (hhi : RvO C hi vhi) (hmx : RvO C mx vmx)
    (hmh : vmx.isSome = true → vhi.isSome = true) (hx : Rv C X v) (h : doSlice sz lo hi mx X = some y) :
    ∃ u, (Instr.sliceAt t v vlo vhi vmx).run P C.w = .ok u C.w ∧ Rv C y u := by
  have hu := sliceB_inv ht
  have hrun : ∀ a len cap i j, v = .slice a len cap → len ≤ cap → sliceIn len (bound lo 0) (bound hi len) (bound mx len) = some (i, j) →
      ∃ m, (Instr.sliceAt t v vlo vhi vmx).run P C.w = .ok (.slice (if m = i then a else a.map (·.add (i * sz))) (j - i) (m - i)) C.w ∧ i ≤ j ∧ j ≤ m ∧ m ≤ cap ∧ j ≤ len := by
    rintro a len cap i j rfl hc hs
    obtain ⟨m, hm, r⟩ := run_sliceBounds (P := P) hlo hhi hmx hc hmh hs
    refine ⟨m, ?_, r⟩
    simp [Instr.sliceAt, Instr.slice, run_underlying hu, hm, run_sizeOf hz]
  cases X with
  | isl l =>
    simp only [doSlice] at h
    split at h
    · rename_i hhs
      cases hs : sliceIn l.length (bound lo 0) (bound hi l.length) (bound mx l.length) with
      | none => rw [hs] at h; cases h
      | some r =>
        obtain ⟨i, j⟩ := r
        rw [hs] at h
        cases h
        obtain ⟨a, cap, rfl, hn⟩ := Rv_isl hx
        have hflat : ∀ i j, AV.hasRefs ((l.take j).drop i) = false := fun i j => hasRefs_of_mem fun x hxm => hasRefs_mem (Rv_isl_flat hx) x (List.mem_of_mem_take (List.mem_of_mem_drop hxm))
        have hj : ∀ b off css sz', a = some (⟨b, off, none⟩ : Addr) → l.length ≤ cap → Rcl C l css → (∀ c ∈ css, c.length = sz') → C.F b → cellsAt C.w b off css.flatten → ∃ u, (Instr.sliceAt t (.slice a l.length cap) vlo vhi vmx).run P C.w = .ok u C.w ∧ Rv C (.isl ((l.take j).drop i)) u := by
          rintro b off css sz' rfl hc hr hun hF hm
          obtain ⟨m, hrn, q1, q2, q3, q4⟩ := hrun _ _ _ i j rfl hc hs
          refine ⟨_, hrn, Rv_one ?_ rfl rfl⟩
          simp only [Rc]
          refine ⟨hflat _ _, _, rfl, _, _, by simp only [List.length_drop, List.length_take]; rw [Nat.min_eq_left q4], ?_⟩
          by_cases hij : i = j
          · left; simp; omega
          · right
            have hne : l ≠ [] := fun e => by subst e; simp at q4; omega
            have := headSize_uniform hr hun hhs hne
            subst this
            have hcount := Rcl_count l css hr
            refine ⟨b, off + i * sz', (css.take j).drop i, sz', ?_, hF, by simp only [List.length_drop, List.length_take]; omega, Rcl_drop _ _ _ (Rcl_take _ _ _ hr), fun c hc => hun c (List.mem_of_mem_take (List.mem_of_mem_drop hc)), ?_⟩
            · rw [if_neg (by omega)]; simp [addr_add]
            · have e : css.flatten = (css.take i).flatten ++ ((css.take j).drop i).flatten ++ (css.drop j).flatten := by
                rw [← List.flatten_append, ← List.flatten_append]
                congr 1
                rw [show css.take i = (css.take j).take i by rw [List.take_take, Nat.min_eq_left q1], List.take_append_drop, List.take_append_drop]
              rw [e] at hm
              have := cellsAt_part hm
              rw [take_uniform css hun i (by omega)] at this
              exact this
        rcases hn with hn | ⟨b, off, css, sz', ha, hF, hc, hr, hun, hm⟩
        · have hle : l = [] := List.length_eq_zero_iff.1 hn
          subst hle
          obtain ⟨i', j', k', _, _, _, x1, x2, x3, x4, e⟩ := sliceIn_inv hs
          cases e
          obtain ⟨m, hrn, q1, q2, q3, q4⟩ := hrun a 0 cap _ _ rfl (Nat.zero_le _) hs
          rw [show j'.toNat - i'.toNat = 0 by omega] at hrn
          refine ⟨_, hrn, Rv_one ?_ rfl rfl⟩
          simp only [Rc]
          refine ⟨by simpa using hflat i'.toNat j'.toNat, _, rfl, _, _, by rw [show (List.drop i'.toNat (List.take j'.toNat ([] : List AV))).length = 0 by simp], .inl (by simp)⟩
        · exact hj b off css sz' ha hc hr hun hF hm
    · cases h
  | sl o g sz' s len =>
    simp only [doSlice] at h
    split at h
    · rename_i he
      subst he
      cases hs : sliceIn len (bound lo 0) (bound hi len) (bound mx len) with
      | none => rw [hs] at h; cases h
      | some r =>
        obtain ⟨i, j⟩ := r
        rw [hs] at h
        cases h
        rcases Rv_sl hx with ⟨b, bs, cap, hb, rfl, hl, hroom⟩ | ⟨q, hb, hl, a, rfl⟩
        · obtain ⟨m, hrn, q1, q2, q3, q4⟩ := hrun _ _ _ i j rfl hl hs
          by_cases hmi : m = i
          · -- nothing is left: the place is the elder one
            refine ⟨_, hrn, Rv_one ?_ rfl rfl⟩
            simp only [Rc]
            exact .inr ⟨_, hb, by omega, _, by rw [show j - i = 0 by omega, show m - i = 0 by omega]⟩
          · refine ⟨_, hrn, Rv_one ?_ rfl rfl⟩
            simp only [Rc]
            refine .inl ⟨b, bs, m - i, hb, ?_, by omega, ?_⟩
            · rw [if_neg hmi]; simp [addr_add, Nat.add_mul, Nat.add_assoc]
            · obtain ⟨e', n, hsh, hn⟩ := hroom
              refine ⟨e', n, hsh, ?_⟩
              have : bs + s * sz' + i * sz' + (m - i) * sz' = bs + s * sz' + m * sz' := by
                rw [Nat.add_assoc (bs + s * sz'), ← Nat.add_mul]; congr 2; omega
              have h2 : m * sz' ≤ cap * sz' := Nat.mul_le_mul_right _ q3
              rw [Nat.add_mul]; omega
        · subst hl
          obtain ⟨i', j', k', _, _, _, x1, x2, x3, x4, e⟩ := sliceIn_inv hs
          cases e
          obtain ⟨m, hrn, q1, q2, q3, q4⟩ := hrun a 0 0 _ _ rfl (Nat.le_refl _) hs
          refine ⟨_, hrn, Rv_one ?_ rfl rfl⟩
          simp only [Rc]
          refine .inr ⟨q, hb, by omega, _, by rw [show j'.toNat - i'.toNat = 0 by omega, show m - i'.toNat = 0 by omega]⟩
    · cases h
  | _ => cases h

/- Lengths -/
def lenKind (P : Program) (t : TypeId) : Nat → Bool
  | 0 => match P.underlying t with | some (.slice _) => true | _ => false
  | 1 => match P.underlying t with | some (.map _ _) => true | _ => false
  | 2 => match P.underlying t with | some .string => true | _ => false
  | _ => false

theorem MapR_length {r es} (h : MapR C r es) : r.length = es.length := by
  induction h with
  | nil => rfl
  | cons _ _ _ _ ih => simp [ih]

theorem run_getMap {b es cl} (h : C.w.heap[b]? = some (.map es cl)) : (getObj b).run P C.w = .ok (.map es cl) C.w := by
  simp only [getObj, Sem.run, h]

theorem obj_map (hs : Sim base C H) {o kvs} (ho : H[o]? = some (.map kvs)) : ∃ b es clock, C.β o 0 = some (some (b, 0)) ∧ C.w.heap[b]? = some (.map es clock) ∧ MapRS C kvs es clock ∧ base ≤ b ∧ ¬ C.F b :=
  (hs.obj o _ ho).1

theorem len_ok (hs : Sim base C H) {kd t ty X v y} (ht : lenKind P t kd = true) (hx : Rv C X v) (h : doLen H kd X = some y) :
    ∃ u, (Builtin.len_ #[t] ty #[v]).run P C.w = .ok u C.w ∧ Rv C y u := by
  match kd with
  | 0 =>
    simp only [lenKind] at ht
    split at ht
    · rename_i e hu
      have hrun : ∀ a n cap, v = .slice a n cap → (Builtin.len_ #[t] ty #[v]).run P C.w = .ok (.int .i64 n) C.w := by
        rintro a n cap rfl
        simp [Builtin.len_, run_underlying hu, goInt]
      cases X with
      | isl l => cases h; obtain ⟨a, cap, rfl, _⟩ := Rv_isl hx; exact ⟨_, hrun _ _ _ rfl, mk_int _ _⟩
      | nl => cases h; rw [Rv_nl hx] at hrun ⊢; exact ⟨_, hrun _ _ _ rfl, mk_int _ _⟩
      | sl o g sz s len =>
        cases h
        rcases Rv_sl hx with ⟨b, bs, cap, _, rfl, _⟩ | ⟨q, _, hl, a, rfl⟩
        · exact ⟨_, hrun _ _ _ rfl, mk_int _ _⟩
        · subst hl; exact ⟨_, hrun _ _ _ rfl, mk_int _ _⟩
      | _ => cases h
    · cases ht
  | 1 =>
    simp only [lenKind] at ht
    split at ht
    · rename_i k e hu
      cases X with
      | mp o =>
        simp only [doLen] at h
        cases ho : H[o]? with
        | none => rw [ho] at h; cases h
        | some ob =>
          rw [ho] at h
          cases ob <;> try (cases h; done)
          rename_i kvs
          cases h
          obtain ⟨b, es, cl, h1, h2, h3, _⟩ := obj_map hs ho
          obtain ⟨b', h1', rfl⟩ := Rv_mp hx
          rw [h1] at h1'; cases h1'
          refine ⟨_, ?_, mk_int _ _⟩
          have := MapR_length h3.1
          simp [Builtin.len_, run_underlying hu, goInt, run_getMap h2, this]
      | _ => cases h
    · cases ht
  | 2 =>
    simp only [lenKind] at ht
    split at ht
    · rename_i hu
      cases X with
      | a x =>
        cases x <;> try (cases h; done)
        rename_i s
        cases h
        rw [(Rv_a hx).1]
        exact ⟨.int .i64 s.size, by simp [Builtin.len_, run_underlying hu, goInt], mk_int _ _⟩
      | _ => cases h
    · cases ht
  | n + 3 => cases ht

/- Maps -/
def intKind : TypeDesc → Bool
  | .int _ => true
  | _ => false

theorem checkKey_int {kt k n} {d : TypeDesc} (hd : P.underlying kt = some d) (hk : intKind d = true) (em : Bool) (w : World) : (Instr.checkKey em 10000 kt (.int k n)).run P w = .ok () w := by
  rw [show (10000 : Nat) = 9999 + 1 from rfl, Instr.checkKey]
  simp only [Sem.run_bind, run_underlying hd, Result.andThen_ok]
  cases d <;> first | rfl | cases hk

theorem findNow_ok {d : TypeDesc} (hk : intKind d = true) (n : Int) : ∀ (kvs : List (Int × AV)) (es : List MapEntry) (i : Nat), MapR C kvs es →
    ∃ r, Instr.findNow d (.int .i64 n) es i = some r ∧ match mfind n kvs with
      | some x => ∃ j e, r = some (i + j, e.val) ∧ es[j]? = some e ∧ Rv1 C x e.val ∧ x.known = true ∧ e.key = .int .i64 n
      | none => r = none
  | [], _, i, h => by cases h; exact ⟨none, rfl, rfl⟩
  | (m, x) :: kvs, _, i, h => by
    cases h with
    | cons hkey hval hkn hrest =>
      rename_i e es
      have hs : Instr.sameNow d (.int .i64 n) e.key = some (n == m) := by
        cases d <;> try (cases hk; done)
        simp [Instr.sameNow, hkey]
      by_cases hnm : n = m
      · subst hnm
        refine ⟨some (i, e.val), by simp [Instr.findNow, hs], ?_⟩
        simp only [mfind, if_pos]
        exact ⟨0, e, rfl, rfl, hval, hkn, hkey⟩
      · obtain ⟨r, hr, hm⟩ := findNow_ok hk n kvs es (i + 1) hrest
        have hb : (n == m) = false := by simp [hnm]
        refine ⟨r, by simp [Instr.findNow, hs, hb, hr], ?_⟩
        simp only [mfind, if_neg hnm]
        cases hf : mfind n kvs with
        | none => rw [hf] at hm; exact hm
        | some x' =>
          rw [hf] at hm
          obtain ⟨j, e', h1, h2, h3⟩ := hm
          exact ⟨j + 1, e', by rw [h1]; congr 2; omega, h2, h3⟩

def mapB (P : Program) (t : TypeId) : Option (TypeId × TypeId) :=
  match P.underlying t with
  | some (.map k e) => some (k, e)
  | _ => none

theorem mapB_inv {t k e} (h : mapB P t = some (k, e)) : P.underlying t = some (.map k e) := by
  unfold mapB at h
  cases hu : P.underlying t with
  | none => rw [hu] at h; cases h
  | some d => rw [hu] at h; cases d <;> first | (cases h; rfl) | cases h

def zeroB (P : Program) (t : TypeId) : Option Value := (P.info? t).bind (·.zero)

theorem run_zeroValue {t z} (h : zeroB P t = some z) (w : World) : (zeroValue t).run P w = .ok z w := by
  unfold zeroB at h
  cases hi : P.info? t with
  | none => rw [hi] at h; cases h
  | some i =>
    rw [hi] at h
    simp only [Option.bind_some] at h
    simp [zeroValue, typeInfo, hi, h]

theorem Rvl_one {x v} (h : Rv1 C x v) : Rvl C [x] [v] := .cons h .nil
theorem Rv_tup_mk {l} {vs : List Value} (h : Rvl C l vs) : Rv C (.tup l) (.tuple vs.toArray) := .inr ⟨l, vs.toArray, rfl, rfl, by simpa using h⟩

theorem known_Rv1 {x v} (hk : x.known = true) (h : Rv C x v) : Rv1 C x v := .inr (Rv_known hk h)

theorem lookup_ok (hs : Sim base C H) {t kt et kd z zv ok X K v vk y} (ht : mapB P t = some (kt, et)) (hkt : P.underlying kt = some kd) (hki : intKind kd = true)
    (hz : zeroB P et = some zv) (hzr : Rv1 C z zv) (hx : Rv C X v) (hk : Rv C K vk) (h : doLookup z ok H X K = some y) :
    ∃ u, (Instr.lookup t v vk ok).run P C.w = .ok u C.w ∧ Rv C y u := by
  cases X <;> try (cases h; done)
  cases K <;> try (cases h; done)
  rename_i o k n
  cases k <;> try (cases h; done)
  simp only [doLookup] at h
  cases ho : H[o]? with
  | none => rw [ho] at h; cases h
  | some ob =>
    rw [ho] at h
    cases ob <;> try (cases h; done)
    rename_i kvs
    cases h
    obtain ⟨b, es, cl, h1, h2, h3, _⟩ := obj_map hs ho
    obtain ⟨b', h1', rfl⟩ := Rv_mp hx
    rw [h1] at h1'; cases h1'
    rw [Rv_int hk]
    obtain ⟨r, hr, hm⟩ := findNow_ok hki n kvs es.toList 0 h3.1
    have hfk : (Instr.findKey kt (.int .i64 n) es.toList).run P C.w = .ok r C.w := by
      simp only [Instr.findKey, Sem.run_bind, run_underlying hkt, Result.andThen_ok, hr, Sem.run_pure]
    cases hf : mfind n kvs with
    | none =>
      rw [hf] at hm
      subst hm
      refine ⟨if ok then .tuple #[zv, .bool false] else zv, ?_, ?_⟩
      · simp only [Instr.lookup, Sem.run_bind, run_underlying (mapB_inv ht), Result.andThen_ok, run_getMap h2, Sem.run_pure, checkKey_int hkt hki, hfk, run_zeroValue hz]
      · cases ok
        · exact .inl hzr
        · exact Rv_tup_mk (.cons hzr (.cons (.inr (Rv_known rfl (mk_bool _))) .nil))
    | some x =>
      rw [hf] at hm
      obtain ⟨j, e, rfl, _, hv, hkn, _⟩ := hm
      refine ⟨if ok then .tuple #[e.val, .bool true] else e.val, ?_, ?_⟩
      · simp only [Instr.lookup, Sem.run_bind, run_underlying (mapB_inv ht), Result.andThen_ok, run_getMap h2, Sem.run_pure, checkKey_int hkt hki, hfk]
      · cases ok
        · exact .inl hv
        · exact Rv_tup_mk (.cons hv (.cons (.inr (Rv_known rfl (mk_bool _))) .nil))

theorem Rvl_get {l vs} (h : Rvl C l vs) : ∀ (i : Nat) (y : AV), l[i]? = some y → ∃ u, vs[i]? = some u ∧ Rv1 C y u := by
  induction h with
  | nil => intro i y h; simp at h
  | cons a _ ih =>
    intro i y h
    cases i with
    | zero => simp at h; subst h; exact ⟨_, by simp, a⟩
    | succ i => simp at h; obtain ⟨u, h1, h2⟩ := ih i y h; exact ⟨u, by simp [h1], h2⟩

theorem extract_ok {i X v y} (hx : Rv C X v) (h : doExtract i X = some y) : ∃ u, (Instr.extract v i).run P C.w = .ok u C.w ∧ Rv C y u := by
  cases X <;> try (cases h; done)
  rename_i l
  obtain ⟨vs, rfl, hl⟩ := Rv_tup hx
  obtain ⟨u, h1, h2⟩ := Rvl_get hl i y h
  have h1' : vs[i]? = some u := by rw [← h1]; simp
  exact ⟨u, by simp [Instr.extract, h1'], .inl h2⟩

theorem mkfn_caps : ∀ {l vs}, Rvl C l vs → l.all capOk = true → Rcl C l (vs.map fun v => [v])
  | [], _, h, _ => by cases h; rfl
  | x :: l, _, h, hc => by
    cases h with
    | cons h1 h2 =>
      simp only [List.all_cons, Bool.and_eq_true] at hc
      obtain ⟨hx, hl⟩ := hc
      simp only [capOk, Bool.and_eq_true, Bool.not_eq_true', beq_iff_eq] at hx
      obtain ⟨a, b⟩ := Rv_known hx.1.1 (.inl h1)
      simp only [List.map_cons, Rcl]
      refine ⟨_, _, rfl, ?_, mkfn_caps h2 hl⟩
      rw [cells_one (b.trans hx.2)] at a
      exact a

theorem mkfn_ok {g l vs y} (hl : Rvl C l vs) (h : doMkfn g l = some y) : Rv C y (.func (.func (C.ι g)) #[] vs.toArray) := by
  unfold doMkfn at h
  split at h
  · rename_i hc
    cases h
    refine Rv_one ?_ rfl rfl
    simp only [Rc]
    refine ⟨fun x hx => ?_, _, rfl, by simpa using mkfn_caps hl hc⟩
    have := List.all_eq_true.1 hc x hx
    simp only [capOk, Bool.and_eq_true, Bool.not_eq_true'] at this
    exact this.2
  · cases h

theorem foldMM_ok (mx : Bool) : ∀ {l vs X v y}, Rv C X v → Rvl C l vs → foldMM mx X l = some y →
    ∃ u, (vs.foldlM (if mx then Builtin.max2 else Builtin.min2) v).run P C.w = .ok u C.w ∧ Rv C y u
  | [], _, X, v, y, hx, hl, h => by
    cases hl
    cases X <;> try (cases h; done)
    cases h
    exact ⟨v, rfl, hx⟩
  | x :: l, _, X, v, y, hx, hl, h => by
    cases hl with
    | cons h1 h2 =>
      rename_i v1 vs
      cases X <;> try (cases h; done)
      cases x <;> try (cases h; done)
      rename_i k m k' n
      simp only [foldMM] at h
      split at h
      · rename_i hk
        subst hk
        rw [Rv_int hx, Rv_int (.inl h1)]
        obtain ⟨u, h3, h4⟩ := foldMM_ok mx (mk_int k (if (if mx = true then n > m else n < m) then n else m)) h2 h
        refine ⟨u, ?_, h4⟩
        simp only [List.foldlM_cons, Sem.run_bind]
        cases mx <;> simpa [Builtin.max2, Builtin.min2] using h3
      · cases h
end Tor
