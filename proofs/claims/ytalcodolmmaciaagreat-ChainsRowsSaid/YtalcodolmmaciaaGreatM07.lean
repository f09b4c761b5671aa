/-
  A part of the proof: an abstract machine for the program, its soundness, and what the functions compute (Cx3, Pl1, Pl2, Pl3, Pl4, Pl5, Srt, San, Law2, Law3, Law5, Cx4, Cx5, Cx6, Cx8, Cx9, Cx10, Fb1, Fb2).
  Conditions: none.
-/
import Derived.Test.YtalcodolmmaciaaGreatM05
import Derived.Test.YtalcodolmmaciaaGreatM06
set_option linter.unusedSectionVars false
set_option linter.unusedVariables false
set_option linter.unusedSimpArgs false
set_option linter.defProp false
namespace Tor
open Go
def cellOf? (c : List Cel) (id : Int) : Cel := (findC c id).getD zC
def dimGo (c : List Cel) : List (Int × Int) → Bool → Int → Bool → Option (Int × Bool)
  | [], _, d, m => some (d, m)
  | p :: r, fst, d, m => if (findC c p.1).isSome then dimGo c r false (cellOf? c p.1).dim (m || (!fst && !decide ((cellOf? c p.1).dim = d))) else none
def dimEnd : Option (Int × Bool) → Int × Int
  | none => (0, 250)
  | some (d, true) => (0, 260)
  | some (d, false) => (d, 0)
def dim26 (c : List Cel) (x : List (Int × Int)) : Int × Int := dimEnd (dimGo c x true (-1) false)
variable {E : CallF} (hE : Free E)
include hE
def dst (c : List Cel) (x : List (Int × Int)) (d : Int) (m : Bool) (i : Nat) (c7 c8 c9 c10 c12 : AV) : St :=
  { vars := [.isl (c.map cA), .isl (x.map fA), .int .i64 0, .int .i64 0, .int .i64 d, .bool m, .int .i64 i, c7, c8, c9, c10, .u, c12], heap := [], rs := false }
theorem dim_loop (c : List Cel) (x : List (Int × Int)) (hc : c.length < 2147483648) (hx : x.length < 2147483648) : ∀ (n i : Nat) (d : Int) (m : Bool), x.length = i + n →
    (∀ d' m', dimGo c (x.drop i) (decide (i = 0)) d m = some (d', m') → run E GP a5l0 (dst c x d m i .u .u .u .u .u) = some (.exit 0, dst c x d' m' x.length .u (.bool false) .u .u .u)) ∧
    (dimGo c (x.drop i) (decide (i = 0)) d m = none → ∃ v4 v5 v6 v12, run E GP a5l0 (dst c x d m i .u .u .u .u .u) =
      some (.ret, { vars := [.isl (c.map cA), .isl (x.map fA), .int .i64 0, .int .i64 250, v4, v5, v6, .bool false, .bool true, .bool true, .u, .u, v12], heap := [], rs := false })) := by
  intro n
  induction n with
  | zero =>
    intro i d m h
    have hi : i = x.length := by omega
    subst hi
    have k1 : ¬ (x.length : Int) < (x.length : Int) := by omega
    rw [List.drop_length]
    refine ⟨fun d' m' e => ?_, fun e => by cases e⟩
    cases e
    rw [a5l0_run]
    simp (maxSteps := 1000000) only [sim, sik, sil, sit, simprocAttr, Int.cast_ofNat_Int, List.take_length, List.length_map, List.contains_cons, List.contains_nil, dst, a5b0, a5r3_ev, k1]
  | succ n ih =>
    intro i d m h
    have hi : i < x.length := by omega
    have k1 : (i : Int) < (x.length : Int) := by omega
    have wi : IntKind.i64.wrap ((i : Int) + 1) = ((i + 1 : Nat) : Int) := i64a (by omega)
    have g1 := fA_get hi
    have hf := fun H => r25_find hE c x[i].1 hc H
    rw [List.drop_eq_getElem_cons hi]
    simp only [dimGo]
    by_cases hk : (findC c x[i].1).isSome = true
    · rw [if_pos hk]
      rw [hk] at hf
      rw [show (findC c x[i].1).getD zC = cellOf? c x[i].1 from rfl] at hf
      obtain ⟨i1, i2⟩ := ih (i + 1) (cellOf? c x[i].1).dim (m || (!decide (i = 0) && !decide ((cellOf? c x[i].1).dim = d))) (by omega)
      have hz : decide (i + 1 = 0) = false := decide_eq_false (by omega)
      rw [hz] at i1 i2
      have hst : run E GP a5l0 (dst c x d m i .u .u .u .u .u) = run E GP a5l0 (dst c x (cellOf? c x[i].1).dim (m || (!decide (i = 0) && !decide ((cellOf? c x[i].1).dim = d))) (i + 1) .u .u .u .u .u) := by
        generalize cellOf? c x[i].1 = f at *
        rw [show cA f = .agg [.int .i64 f.id, .int .i64 f.dim, .isl (f.b.map fA)] from rfl] at hf
        conv => lhs; rw [a5l0_run]
        by_cases h0 : i = 0
        · have k0 : ¬ (i : Int) > 0 := by omega
          have k0' : decide (i = 0) = true := decide_eq_true h0
          simp (maxSteps := 1000000) only [sim, sik, sil, sit, simprocAttr, Int.cast_ofNat_Int, List.take_length, List.length_map, List.contains_cons, List.contains_nil, dst, a5b0, a5r3_ev, a5r4_ev, a5r5_ev, a5r6_ev, a5r8_ev, a5r9_ev, a5r10_ev, k1, wi, g1, hf, k0, k0']
        · have k0 : (i : Int) > 0 := by omega
          have k0' : decide (i = 0) = false := decide_eq_false h0
          by_cases hd : f.dim = d
          · have hd1 : decide (f.dim = d) = true := decide_eq_true hd
            simp (maxSteps := 1000000) only [sim, sik, sil, sit, simprocAttr, Int.cast_ofNat_Int, List.take_length, List.length_map, List.contains_cons, List.contains_nil, dst, a5b0, a5r3_ev, a5r4_ev, a5r5_ev, a5r6_ev, a5r8_ev, a5r9_ev, a5r10_ev, k1, wi, g1, hf, k0, k0', hd1]
          · have hd1 : decide (f.dim = d) = false := decide_eq_false hd
            simp (maxSteps := 1000000) only [sim, sik, sil, sit, simprocAttr, Int.cast_ofNat_Int, List.take_length, List.length_map, List.contains_cons, List.contains_nil, dst, a5b0, a5r3_ev, a5r4_ev, a5r5_ev, a5r6_ev, a5r8_ev, a5r9_ev, a5r10_ev, k1, wi, g1, hf, k0, k0', hd1, Bool.or_true]
      rw [hst]
      exact ⟨i1, i2⟩
    · rw [if_neg hk]
      refine ⟨fun d' m' e => (by cases e), fun _ => ⟨.int .i64 d, .bool m, .int .i64 i, cA zC, ?_⟩⟩
      have hn : findC c x[i].1 = none := by simpa using hk
      rw [hn] at hf
      rw [Option.getD_none, Option.isSome_none, show cA zC = .agg [.int .i64 0, .int .i64 0, .isl []] from rfl] at hf
      rw [show cA zC = .agg [.int .i64 0, .int .i64 0, .isl []] from rfl, a5l0_run]
      simp (maxSteps := 1000000) only [sim, sik, sil, sit, simprocAttr, Int.cast_ofNat_Int, List.take_length, List.length_map, List.contains_cons, List.contains_nil, dst, a5b0, a5r3_ev, a5r4_ev, a5r5_ev, a5r6_ev, a5r7_ev, k1, wi, g1, hf]
theorem r26_dim (c : List Cel) (x : List (Int × Int)) (hc : c.length < 2147483648) (hx : x.length < 2147483648) (H : Heap) :
    call E GP 5 [.isl (c.map cA), .isl (x.map fA)] H = some (.tup [.int .i64 (dim26 c x).1, .int .i64 (dim26 c x).2], H, false) := by
  rw [call_fun (hE _ _ _ (by decide)) (f := a5) rfl rfl]
  obtain ⟨h1, h2⟩ := dim_loop hE c x hc hx x.length 0 (-1) false (by omega)
  rw [List.drop_zero] at h1 h2
  simp only [decide_true] at h1 h2
  have hr1 := refs_cA c
  have hr2 := refs_fA x
  unfold dim26
  cases hd : dimGo c x true (-1) false with
  | none =>
    obtain ⟨v4, v5, v6, v12, h2⟩ := h2 hd
    simp only [dst, Int.ofNat_zero] at h2
    simp only [dimEnd]
    simp (maxSteps := 1000000) only [sim, sik, sil, sit, simprocAttr, Int.cast_ofNat_Int, List.take_length, List.length_map, List.contains_cons, List.contains_nil, a5, a5r0_ev, a5r1_ev, a5r2_ev, hr1, hr2, h2]
  | some q =>
    obtain ⟨d', m'⟩ := q
    have h1 := h1 d' m' hd
    simp only [dst, Int.ofNat_zero] at h1
    cases m' <;>
    (simp only [dimEnd]
     simp (maxSteps := 1000000) only [sim, sik, sil, sit, simprocAttr, Int.cast_ofNat_Int, List.take_length, List.length_map, List.contains_cons, List.contains_nil, a5, a5r0_ev, a5r1_ev, a5r2_ev, a5r11_ev, a5r12_ev, a5r13_ev, hr1, hr2, h1])
end Tor
namespace Tor
def Canon : Option Int → List (Int × Int) → Prop
  | _, [] => True
  | b, (j, x) :: r => (∀ m, b = some m → m < j) ∧ x ≠ 0 ∧ Canon (some j) r
theorem canon_weak {r : List (Int × Int)} {b b' : Option Int} (h : Canon b r) (hb : ∀ m, b' = some m → ∃ k, b = some k ∧ m ≤ k) : Canon b' r := by
  cases r with
  | nil => trivial
  | cons p r =>
    obtain ⟨h1, h2, h3⟩ := h
    refine ⟨fun m hm => ?_, h2, h3⟩
    obtain ⟨k, hk, hle⟩ := hb m hm
    have := h1 k hk
    omega
theorem look_below {r : List (Int × Int)} {m k : Int} (h : Canon (some m) r) (hk : k ≤ m) : lookL k r = 0 := by
  induction r generalizing m with
  | nil => rfl
  | cons p r ih =>
    obtain ⟨j, x⟩ := p
    obtain ⟨h1, h2, h3⟩ := h
    have := h1 m rfl
    simp only [lookL]
    rw [if_neg (by omega)]
    exact ih h3 (by omega)
theorem canon_ext : ∀ (a b : List (Int × Int)) (m n : Option Int), Canon m a → Canon n b → (∀ k, lookL k a = lookL k b) → a = b
  | [], [], _, _, _, _, _ => rfl
  | [], (j, x) :: r, _, _, _, hb, h => by
    have := h j
    simp only [lookL, if_true] at this
    exact absurd this.symm hb.2.1
  | (j, x) :: r, [], _, _, ha, _, h => by
    have := h j
    simp only [lookL, if_true] at this
    exact absurd this ha.2.1
  | (j, x) :: r, (i, y) :: s, _, _, ha, hb, h => by
    obtain ⟨-, a2, a3⟩ := ha
    obtain ⟨-, b2, b3⟩ := hb
    have hij : i = j := by
      rcases Int.lt_trichotomy i j with c | c | c
      · exfalso
        have := h i
        simp only [lookL, if_true] at this
        rw [if_neg (by omega), look_below a3 (by omega)] at this
        exact b2 this.symm
      · exact c
      · exfalso
        have := h j
        simp only [lookL, if_true] at this
        rw [if_neg (by omega), look_below b3 (by omega)] at this
        exact a2 this
    subst hij
    have hxy : x = y := by have := h i; simpa only [lookL, if_true] using this
    subst hxy
    congr 1
    refine canon_ext r s _ _ a3 b3 fun k => ?_
    by_cases c : k = i
    · subst c; rw [look_below a3 (by omega), look_below b3 (by omega)]
    · have := h k
      simpa only [lookL, if_neg c] using this
theorem insR_true (f : Int × Int) : ∀ l, insR f true l = l
  | [] => rfl
  | x :: r => by
    rw [insR, if_neg (by simp), if_neg (by simp), insR_true f r]
theorem insR_look (f : Int × Int) (k : Int) : ∀ (l : List (Int × Int)) (b : Option Int), Canon b l → lookL k (insR f false l) = lookL k l + (if k = f.1 then f.2 else 0)
  | [], _, _ => by
    obtain ⟨i, c⟩ := f
    simp only [insR, lookL, Bool.false_eq_true, if_false]
    split <;> simp
  | (j, x) :: r, b, h => by
    obtain ⟨i, c⟩ := f
    obtain ⟨h1, h2, h3⟩ := h
    have ih := insR_look (i, c) k r _ h3
    simp only [insR, insR_true, true_and]
    by_cases c1 : j > i
    · rw [if_pos c1]
      simp only [lookL]
      by_cases e : k = i
      · subst e; rw [if_pos rfl, if_pos rfl, if_neg (by omega), look_below h3 (by omega)]; omega
      · rw [if_neg e, if_neg e]; omega
    · rw [if_neg c1]
      by_cases c2 : j = i
      · subst c2
        rw [if_pos rfl]
        by_cases hz : x + c ≠ 0
        · rw [if_pos hz]
          simp only [lookL]
          split <;> omega
        · rw [if_neg hz]
          simp only [lookL]
          by_cases e : k = j
          · subst e; rw [if_pos rfl, if_pos rfl, look_below h3 (by omega)]; omega
          · rw [if_neg e, if_neg e]; omega
      · rw [if_neg c2]
        simp only [lookL]
        by_cases e : k = j
        · subst e; rw [if_pos rfl, if_pos rfl, if_neg (by omega)]; omega
        · rw [if_neg e, if_neg e, ih]
end Tor
namespace Tor
theorem insR_canon (f : Int × Int) (hf : f.2 ≠ 0) : ∀ (l : List (Int × Int)) (b : Option Int), (∀ m, b = some m → m < f.1) → Canon b l → Canon b (insR f false l)
  | [], b, hb, _ => by
    obtain ⟨i, c⟩ := f
    simp only [insR, Bool.false_eq_true, if_false]
    exact ⟨hb, hf, trivial⟩
  | (j, x) :: r, b, hb, h => by
    obtain ⟨i, c⟩ := f
    obtain ⟨h1, h2, h3⟩ := h
    simp only [insR, insR_true, true_and]
    by_cases c1 : j > i
    · rw [if_pos c1]
      exact ⟨hb, hf, fun m hm => by cases hm; exact c1, h2, h3⟩
    · rw [if_neg c1]
      by_cases c2 : j = i
      · subst c2
        rw [if_pos rfl]
        by_cases hz : x + c ≠ 0
        · rw [if_pos hz]; exact ⟨h1, hz, h3⟩
        · rw [if_neg hz]
          cases b with
          | none => exact canon_weak h3 (fun m hm => by cases hm)
          | some m => exact canon_weak h3 (fun m' hm => ⟨j, rfl, by cases hm; have := h1 m rfl; omega⟩)
      · rw [if_neg c2]
        exact ⟨h1, h2, insR_canon (i, c) hf r _ (fun m hm => by cases hm; simp only; omega) h3⟩
theorem insert_canon (l : List (Int × Int)) (f : Int × Int) (h : Canon none l) : Canon none (insert26 l f) := by
  unfold insert26
  by_cases hz : f.2 = 0
  · rw [show decide (f.2 = 0) = true by simpa using hz, insR_true]; exact h
  · rw [show decide (f.2 = 0) = false by simpa using hz]; exact insR_canon f hz l _ (fun m hm => by cases hm) h
theorem insert_look (l : List (Int × Int)) (f : Int × Int) (k : Int) (h : Canon none l) : lookL k (insert26 l f) = lookL k l + (if k = f.1 then f.2 else 0) := by
  unfold insert26
  by_cases hz : f.2 = 0
  · rw [show decide (f.2 = 0) = true by simpa using hz, insR_true, hz]; split <;> omega
  · rw [show decide (f.2 = 0) = false by simpa using hz]; exact insR_look f k l _ h
def tot (k : Int) : List (Int × Int) → Int
  | [] => 0
  | (j, x) :: r => (if k = j then x else 0) + tot k r
theorem make_law : ∀ (l a : List (Int × Int)), Canon none a → Canon none (l.foldl insert26 a) ∧ ∀ k, lookL k (l.foldl insert26 a) = lookL k a + tot k l
  | [], a, h => ⟨h, fun k => by simp [tot]⟩
  | (j, x) :: r, a, h => by
    obtain ⟨h1, h2⟩ := make_law r (insert26 a (j, x)) (insert_canon a _ h)
    refine ⟨h1, fun k => ?_⟩
    rw [List.foldl_cons, h2 k, insert_look a _ k h]
    simp only [tot]; omega
theorem add_law (c : Int) : ∀ (l a : List (Int × Int)), Canon none a → Canon none (add26 a l c) ∧ ∀ k, lookL k (add26 a l c) = lookL k a + c * tot k l
  | [], a, h => ⟨h, fun k => by simp [tot, add26]⟩
  | (j, x) :: r, a, h => by
    obtain ⟨h1, h2⟩ := add_law c r (insert26 a (j, c * x)) (insert_canon a _ h)
    have e : add26 a ((j, x) :: r) c = add26 (insert26 a (j, c * x)) r c := rfl
    rw [e]
    refine ⟨h1, fun k => ?_⟩
    rw [h2 k, insert_look a _ k h]
    simp only [tot, Int.mul_add]
    by_cases e : k = j
    · rw [if_pos e, if_pos e]; omega
    · rw [if_neg e, if_neg e, Int.mul_zero]; omega
def Once (l : List (Int × Int)) : Prop := (l.map (·.1)).Nodup
theorem look_set (k y i : Int) : ∀ l, lookL i (setL k y l) = if i = k then y else lookL i l
  | [] => by simp only [setL, lookL]
  | (j, x) :: r => by
    have ih := look_set k y i r
    simp only [setL]
    by_cases c : k = j
    · subst c; rw [if_pos rfl]; simp only [lookL]; split <;> rfl
    · rw [if_neg c]; simp only [lookL]
      by_cases e : i = j
      · subst e; rw [if_pos rfl, if_pos rfl, if_neg (fun h => c h.symm)]
      · rw [if_neg e, if_neg e, ih]
theorem look_out {i : Int} : ∀ {l : List (Int × Int)}, i ∉ l.map (·.1) → lookL i l = 0
  | [], _ => rfl
  | (j, x) :: r, h => by
    simp only [List.map_cons, List.mem_cons, not_or] at h
    simp only [lookL]; rw [if_neg h.1]; exact look_out h.2
theorem look_del (k i : Int) : ∀ l, Once l → lookL i (delL k l) = if i = k then 0 else lookL i l
  | [], _ => by simp [delL, lookL]
  | (j, x) :: r, h => by
    simp only [Once, List.map_cons, List.nodup_cons] at h
    have ih := look_del k i r h.2
    simp only [delL]
    by_cases c : k = j
    · subst c; rw [if_pos rfl]; simp only [lookL]
      by_cases e : i = k
      · subst e; rw [if_pos rfl, look_out h.1]
      · rw [if_neg e, if_neg e]
    · rw [if_neg c]; simp only [lookL]
      by_cases e : i = j
      · subst e; rw [if_pos rfl, if_pos rfl, if_neg (fun h => c h.symm)]
      · rw [if_neg e, if_neg e, ih]
theorem sadd_look (k c i : Int) (l : List (Int × Int)) (h : Once l) : lookL i (sadd l k c) = lookL i l + (if i = k then c else 0) := by
  unfold sadd
  split
  · rename_i hz
    rw [look_del k i l h]
    by_cases e : i = k
    · subst e; rw [if_pos rfl, if_pos rfl]; omega
    · rw [if_neg e, if_neg e]; omega
  · rw [look_set]
    by_cases e : i = k
    · subst e; rw [if_pos rfl, if_pos rfl]
    · rw [if_neg e, if_neg e]; omega
end Tor
namespace Tor
theorem mem_setL {k y : Int} {p : Int × Int} : ∀ {l : List (Int × Int)}, p ∈ setL k y l → p = (k, y) ∨ p ∈ l
  | [], h => by simp [setL] at h; exact Or.inl h
  | (j, x) :: r, h => by
    simp only [setL] at h
    split at h
    · cases h with
      | head => exact Or.inl rfl
      | tail _ h => exact Or.inr (.tail _ h)
    · cases h with
      | head => exact Or.inr (.head _)
      | tail _ h => rcases mem_setL h with h | h
                    · exact Or.inl h
                    · exact Or.inr (.tail _ h)
theorem mem_delL {k : Int} {p : Int × Int} : ∀ {l : List (Int × Int)}, p ∈ delL k l → p ∈ l
  | [], h => by simp [delL] at h
  | (j, x) :: r, h => by
    simp only [delL] at h
    split at h
    · exact .tail _ h
    · cases h with
      | head => exact .head _
      | tail _ h => exact .tail _ (mem_delL h)
theorem once_setL (k y : Int) : ∀ l : List (Int × Int), Once l → Once (setL k y l)
  | [], _ => by simp [setL, Once]
  | (j, x) :: r, h => by
    simp only [Once, List.map_cons, List.nodup_cons] at h
    simp only [setL]
    split
    · rename_i c; subst c
      simp only [Once, List.map_cons, List.nodup_cons]; exact h
    · rename_i c
      simp only [Once, List.map_cons, List.nodup_cons]
      refine ⟨fun hm => ?_, once_setL k y r h.2⟩
      obtain ⟨p, hp, e⟩ := List.mem_map.1 hm
      rcases mem_setL hp with e2 | hp
      · subst e2; exact c e
      · exact h.1 (List.mem_map.2 ⟨p, hp, e⟩)
theorem once_delL (k : Int) : ∀ l : List (Int × Int), Once l → Once (delL k l)
  | [], _ => by simp [delL, Once]
  | (j, x) :: r, h => by
    simp only [Once, List.map_cons, List.nodup_cons] at h
    simp only [delL]
    split
    · exact h.2
    · simp only [Once, List.map_cons, List.nodup_cons]
      refine ⟨fun hm => ?_, once_delL k r h.2⟩
      obtain ⟨p, hp, e⟩ := List.mem_map.1 hm
      exact h.1 (List.mem_map.2 ⟨p, mem_delL hp, e⟩)
def Sums (m : List (Int × Int)) : Prop := Once m ∧ ∀ p ∈ m, p.2 ≠ 0
theorem sadd_sums (m : List (Int × Int)) (k c : Int) (h : Sums m) : Sums (sadd m k c) := by
  unfold sadd
  split
  · exact ⟨once_delL k m h.1, fun p hp => h.2 p (mem_delL hp)⟩
  · rename_i hz
    refine ⟨once_setL k _ m h.1, fun p hp => ?_⟩
    rcases mem_setL hp with e | hp
    · subst e; exact hz
    · exact h.2 p hp
theorem sums_law : ∀ (l m : List (Int × Int)), Sums m → Sums (sums l m) ∧ ∀ k, lookL k (sums l m) = lookL k m + tot k l
  | [], m, h => ⟨h, fun k => by simp [tot, sums]⟩
  | (j, x) :: r, m, h => by
    obtain ⟨h1, h2⟩ := sums_law r (sadd m j x) (sadd_sums m j x h)
    have e : sums ((j, x) :: r) m = sums r (sadd m j x) := rfl
    rw [e]
    refine ⟨h1, fun k => ?_⟩
    rw [h2 k, sadd_look _ _ _ _ h.1]
    simp only [tot]; omega
theorem sumsK_law (c : Int) : ∀ (l m : List (Int × Int)), Sums m → Sums (sumsK c l m) ∧ ∀ k, lookL k (sumsK c l m) = lookL k m + c * tot k l
  | [], m, h => ⟨h, fun k => by simp [tot, sumsK]⟩
  | (j, x) :: r, m, h => by
    obtain ⟨h1, h2⟩ := sumsK_law c r (sadd m j (c * x)) (sadd_sums m j (c * x) h)
    have e : sumsK c ((j, x) :: r) m = sumsK c r (sadd m j (c * x)) := rfl
    rw [e]
    refine ⟨h1, fun k => ?_⟩
    rw [h2 k, sadd_look _ _ _ _ h.1]
    simp only [tot, Int.mul_add]
    by_cases e : k = j
    · rw [if_pos e, if_pos e]; omega
    · rw [if_neg e, if_neg e, Int.mul_zero]; omega
theorem look_in {k : Int} : ∀ {m : List (Int × Int)}, (∀ p ∈ m, p.2 ≠ 0) → k ∈ m.map (·.1) → lookL k m ≠ 0
  | [], _, h => by simp at h
  | (j, x) :: r, hn, h => by
    simp only [lookL]
    split
    · exact hn _ (.head _)
    · rename_i c
      simp only [List.map_cons, List.mem_cons] at h
      exact look_in (fun p hp => hn p (.tail _ hp)) (h.resolve_left c)
theorem chainOf_canon (m : List (Int × Int)) : ∀ (ks : List Int) (b : Option Int), ks.Pairwise (· < ·) → (∀ n, b = some n → ∀ k ∈ ks, n < k) → (∀ k ∈ ks, lookL k m ≠ 0) → Canon b (chainOf ks m)
  | [], _, _, _, _ => trivial
  | k :: r, b, hp, hb, hz => by
    rw [List.pairwise_cons] at hp
    exact ⟨fun n hn => hb n hn k (.head _), hz k (.head _), chainOf_canon m r (some k) hp.2 (fun n hn j hj => by cases hn; exact hp.1 j hj) (fun j hj => hz j (.tail _ hj))⟩
theorem chainOf_look (m : List (Int × Int)) (i : Int) : ∀ ks : List Int, lookL i (chainOf ks m) = if i ∈ ks then lookL i m else 0
  | [] => by simp [chainOf, lookL]
  | k :: r => by
    have ih := chainOf_look m i r
    have e : chainOf (k :: r) m = (k, lookL k m) :: chainOf r m := rfl
    rw [e]; simp only [lookL]
    by_cases c : i = k
    · subst c; simp
    · rw [if_neg c, ih]; simp [c]
theorem chain_law (m : List (Int × Int)) (h : Sums m) (ks : List Int) (hp : ks.Pairwise (· < ·)) (hk : ∀ k, k ∈ ks ↔ k ∈ m.map (·.1)) :
    Canon none (chainOf ks m) ∧ ∀ k, lookL k (chainOf ks m) = lookL k m := by
  refine ⟨chainOf_canon m ks none hp (fun n hn => by cases hn) (fun k hk' => look_in h.2 ((hk k).1 hk')), fun k => ?_⟩
  rw [chainOf_look]
  by_cases c : k ∈ ks
  · rw [if_pos c]
  · rw [if_neg c, look_out (fun hh => c ((hk k).2 hh))]
end Tor
namespace Tor
theorem tot_below {k : Int} : ∀ {r : List (Int × Int)} {m : Int}, Canon (some m) r → k ≤ m → tot k r = 0
  | [], _, _, _ => rfl
  | (j, x) :: r, m, h, hk => by
    have := h.1 m rfl
    simp only [tot]
    rw [if_neg (by omega), tot_below h.2.2 (by omega)]; rfl
theorem tot_canon (k : Int) : ∀ (l : List (Int × Int)) (b : Option Int), Canon b l → tot k l = lookL k l
  | [], _, _ => rfl
  | (j, x) :: r, b, h => by
    simp only [tot, lookL]
    by_cases c : k = j
    · subst c; rw [if_pos rfl, if_pos rfl, tot_below h.2.2 (by omega)]; omega
    · rw [if_neg c, if_neg c, tot_canon k r _ h.2.2]; omega
theorem sums_nil : Sums [] := ⟨by simp [Once], fun p hp => by cases hp⟩
theorem make_eq (l : List (Int × Int)) (ks : List Int) (hp : ks.Pairwise (· < ·)) (hk : ∀ k, k ∈ ks ↔ k ∈ (sums l []).map (·.1)) :
    chainOf ks (sums l []) = l.foldl insert26 [] := by
  obtain ⟨s1, s2⟩ := sums_law l [] sums_nil
  obtain ⟨c1, c2⟩ := chain_law _ s1 ks hp hk
  obtain ⟨m1, m2⟩ := make_law l [] trivial
  exact canon_ext _ _ none none c1 m1 fun k => by rw [c2, s2, m2]
theorem add_eq (a l : List (Int × Int)) (c : Int) (ha : Canon none a) (ks : List Int) (hp : ks.Pairwise (· < ·)) (hk : ∀ k, k ∈ ks ↔ k ∈ (sumsK c l (sums a [])).map (·.1)) :
    chainOf ks (sumsK c l (sums a [])) = add26 a l c := by
  obtain ⟨s1, s2⟩ := sums_law a [] sums_nil
  obtain ⟨t1, t2⟩ := sumsK_law c l _ s1
  obtain ⟨c1, c2⟩ := chain_law _ t1 ks hp hk
  obtain ⟨m1, m2⟩ := add_law c l a ha
  refine canon_ext _ _ none none c1 m1 fun k => ?_
  rw [c2, t2, s2, m2, tot_canon k a _ ha]
  simp [lookL]
end Tor
namespace Tor
theorem canon_all : ∀ (l : List (Int × Int)) (b : Option Int), Canon b l → (∀ p ∈ l, p.2 ≠ 0) ∧ l.Pairwise (fun p q => p.1 < q.1) ∧ ∀ m, b = some m → ∀ p ∈ l, m < p.1
  | [], _, _ => ⟨fun p hp => by (cases hp), .nil, fun m hm p hp => by (cases hp)⟩
  | (j, x) :: r, b, h => by
    obtain ⟨i1, i2, i3⟩ := canon_all r _ h.2.2
    refine ⟨fun p hp => ?_, ?_, fun m hm p hp => ?_⟩
    · cases hp with
      | head => exact h.2.1
      | tail _ hp => exact i1 p hp
    · exact List.pairwise_cons.2 ⟨fun q hq => i3 j rfl q hq, i2⟩
    · have h0 := h.1 m hm
      cases hp with
      | head => exact h0
      | tail _ hp => have := i3 j rfl p hp; omega
theorem canon_valid (l : List (Int × Int)) (h : Canon none l) : valid26 l = true := by
  obtain ⟨h1, h2, -⟩ := canon_all l _ h
  unfold valid26
  rw [List.all_eq_true]
  intro i hi
  have hi := List.mem_range.1 hi
  unfold okAt
  rw [← getD_get l i hi]
  have hz := h1 _ (List.getElem_mem hi)
  have hs : (l[i].2).sign ≠ 0 := fun e => hz (Int.sign_eq_zero_iff_zero.1 e)
  rw [show decide (l[i].2.sign ≠ 0) = true by simpa using hs, Bool.true_and]
  by_cases c : i = 0
  · simp [c]
  · have := List.pairwise_iff_getElem.1 h2 (i - 1) i (by omega) hi (by omega)
    rw [← getD_get l (i - 1) (by omega)]
    simp [this]
end Tor
namespace Tor
open Go
def insI (k : Int) : List Int → List Int
  | [] => [k]
  | j :: r => if k ≤ j then k :: j :: r else j :: insI k r
def sortI : List Int → List Int
  | [] => []
  | k :: r => insI k (sortI r)
theorem mem_insI (k x : Int) : ∀ l, x ∈ insI k l ↔ x = k ∨ x ∈ l
  | [] => by simp [insI]
  | j :: r => by
    simp only [insI]
    split
    · simp
    · simp only [List.mem_cons, mem_insI k x r]
      constructor
      · rintro (h | h | h)
        · exact Or.inr (Or.inl h)
        · exact Or.inl h
        · exact Or.inr (Or.inr h)
      · rintro (h | h | h)
        · exact Or.inr (Or.inl h)
        · exact Or.inl h
        · exact Or.inr (Or.inr h)
theorem mem_sortI (x : Int) : ∀ l, x ∈ sortI l ↔ x ∈ l
  | [] => by simp [sortI]
  | k :: r => by simp only [sortI, mem_insI, mem_sortI x r, List.mem_cons]
theorem insI_lt (k : Int) : ∀ l : List Int, l.Pairwise (· < ·) → k ∉ l → (insI k l).Pairwise (· < ·)
  | [], _, _ => by simp [insI]
  | j :: r, h, hk => by
    rw [List.pairwise_cons] at h
    simp only [List.mem_cons, not_or] at hk
    simp only [insI]
    split
    · refine List.pairwise_cons.2 ⟨fun q hq => ?_, List.pairwise_cons.2 h⟩
      cases hq with
      | head => omega
      | tail _ hq => have := h.1 q hq; omega
    · refine List.pairwise_cons.2 ⟨fun q hq => ?_, insI_lt k r h.2 hk.2⟩
      rcases (mem_insI k q r).1 hq with e | e
      · omega
      · exact h.1 q e
theorem sortI_lt : ∀ l : List Int, l.Nodup → (sortI l).Pairwise (· < ·)
  | [], _ => .nil
  | k :: r, h => by
    rw [List.nodup_cons] at h
    exact insI_lt k _ (sortI_lt r h.2) (fun hm => h.1 ((mem_sortI k r).1 hm))
def in64 (n : Int) : Bool := decide (-9223372036854775808 ≤ n ∧ n ≤ 9223372036854775807)
def sortedKeys (H : Heap) : Option AObj → Option (AV × Heap × Bool)
  | some (.map kvs) => if kvs.length ≤ 1000000 ∧ (kvs.all fun p => in64 p.1) = true then some (.isl ((sortI (kvs.map (·.1))).map iA), H, false) else none
  | _ => none
def sortArgs (H : Heap) : List AV → Option (AV × Heap × Bool)
  | [.fn 72 [.bx o]] => sortedKeys H H[o]?
  | _ => none
def E1 : CallF := fun g a H => if g = 56 then sortArgs H a else none
theorem free1 : Free E1 := fun g a H h => if_neg h
theorem keys_kv (m : List (Int × Int)) : (kvM m).map (·.1) = m.map (·.1) := by simp [kvM, Function.comp_def]
theorem srt1 (m : List (Int × Int)) (hl : m.length ≤ 1000000) (hk : ∀ p ∈ m, in64 p.1 = true) : Srt E1 m (sortI (m.map (·.1))) := by
  intro H hH
  have h1 : E1 56 [.fn 72 [.bx 0]] H = sortedKeys H H[0]? := rfl
  rw [h1, hH]
  simp only [sortedKeys]
  rw [if_pos, keys_kv]
  refine ⟨by simpa [kvM] using hl, ?_⟩
  rw [List.all_eq_true]
  intro p hp
  obtain ⟨q, hq, rfl⟩ := List.mem_map.1 hp
  exact hk q hq
end Tor
namespace Tor
open Go
theorem san0 : callN E1 GP 2000 0 [] [] = some (.bool true, [], false) := by kernel_rfl
theorem san1 : call E1 GP 0 [] [] = some (.bool true, [], false) := call_of san0
end Tor
namespace Tor
open Go
theorem cells_bd (l : List (Int × Int)) : Bd 3 ((l.take 6).map cellOf) := by
  intro p hp
  obtain ⟨q, -, rfl⟩ := List.mem_map.1 hp
  simp only [cellOf]
  have h : -3 ≤ q.2.tmod 4 ∧ q.2.tmod 4 ≤ 3 := by
    have h0 : (q.2.tmod 4).natAbs = q.2.natAbs % 4 := Int.natAbs_tmod q.2 4
    omega
  rw [i64w (by omega)]; omega
theorem cells_len (l : List (Int × Int)) : ((l.take 6).map cellOf).length ≤ 6 := by simp; omega
theorem fold_bd {N : Nat} : ∀ (l a : List (Int × Int)) (M : Nat), Bd N l → Bd M a → Bd (M + N * l.length) (l.foldl insert26 a) ∧ (l.foldl insert26 a).length ≤ a.length + l.length
  | [], a, M, _, h => ⟨by simpa using h, by simp⟩
  | p :: r, a, M, hl, h => by
    have hp := hl p (.head _)
    obtain ⟨h1, h2⟩ := fold_bd r (insert26 a p) (M + N) (fun q hq => hl q (.tail _ hq)) (insR_bd hp a _ h)
    have := insR_len p a (decide (p.2 = 0))
    refine ⟨?_, ?_⟩
    · rw [List.foldl_cons, List.length_cons, Nat.mul_succ]; exact bd_mono (by omega) h1
    · rw [List.foldl_cons, List.length_cons]; unfold insert26 at h2 ⊢; omega
theorem setL_len (k y : Int) : ∀ l : List (Int × Int), (setL k y l).length ≤ l.length + 1
  | [] => by simp [setL]
  | (j, x) :: r => by
    have := setL_len k y r
    simp only [setL]; split <;> simp <;> omega
theorem delL_len (k : Int) : ∀ l : List (Int × Int), (delL k l).length ≤ l.length
  | [] => by simp [delL]
  | (j, x) :: r => by
    have := delL_len k r
    simp only [delL]; split <;> simp <;> omega
theorem sadd_len (m : List (Int × Int)) (k c : Int) : (sadd m k c).length ≤ m.length + 1 := by
  have h1 := delL_len k m
  have h2 := setL_len k (lookL k m + c) m
  unfold sadd; split <;> omega
theorem sadd_keys {P : Int → Prop} (m : List (Int × Int)) (k c : Int) (hk : P k) (h : ∀ p ∈ m, P p.1) : ∀ p ∈ sadd m k c, P p.1 := by
  unfold sadd
  split
  · exact fun p hp => h p (mem_delL hp)
  · intro p hp
    rcases mem_setL hp with e | hp
    · subst e; exact hk
    · exact h p hp
theorem sums_keys {P : Int → Prop} : ∀ (l m : List (Int × Int)), (∀ p ∈ l, P p.1) → (∀ p ∈ m, P p.1) → (∀ p ∈ sums l m, P p.1) ∧ (sums l m).length ≤ m.length + l.length
  | [], m, _, h => ⟨h, by simp [sums]⟩
  | (j, x) :: r, m, hl, h => by
    obtain ⟨h1, h2⟩ := sums_keys r (sadd m j x) (fun p hp => hl p (.tail _ hp)) (sadd_keys m j x (hl _ (.head _)) h)
    have := sadd_len m j x
    have e : sums ((j, x) :: r) m = sums r (sadd m j x) := rfl
    rw [e, List.length_cons]; exact ⟨h1, by omega⟩
theorem sumsK_keys {P : Int → Prop} (c : Int) : ∀ (l m : List (Int × Int)), (∀ p ∈ l, P p.1) → (∀ p ∈ m, P p.1) → (∀ p ∈ sumsK c l m, P p.1) ∧ (sumsK c l m).length ≤ m.length + l.length
  | [], m, _, h => ⟨h, by simp [sumsK]⟩
  | (j, x) :: r, m, hl, h => by
    obtain ⟨h1, h2⟩ := sumsK_keys c r (sadd m j (c * x)) (fun p hp => hl p (.tail _ hp)) (sadd_keys m j (c * x) (hl _ (.head _)) h)
    have := sadd_len m j (c * x)
    have e : sumsK c ((j, x) :: r) m = sumsK c r (sadd m j (c * x)) := rfl
    rw [e, List.length_cons]; exact ⟨h1, by omega⟩
end Tor
namespace Tor
open Go
def In (p : Int × Int) : Prop := in64 p.1 = true
theorem cells_in (l : List (Int × Int)) : ∀ p ∈ (l.take 6).map cellOf, in64 p.1 = true := by
  intro p hp
  obtain ⟨q, -, rfl⟩ := List.mem_map.1 hp
  have h : -9223372036854775808 ≤ (cellOf q).1 ∧ (cellOf q).1 ≤ 9223372036854775807 := by
    simp only [cellOf]; rw [IntKind.wrap_i64]; omega
  exact decide_eq_true h
def ksOf (m : List (Int × Int)) : List Int := sortI (m.map (·.1))
theorem ksOf_lt (m : List (Int × Int)) (h : Sums m) : (ksOf m).Pairwise (· < ·) := sortI_lt _ h.1
theorem ksOf_mem (m : List (Int × Int)) : ∀ k, k ∈ ksOf m ↔ k ∈ m.map (·.1) := fun k => mem_sortI k _
theorem insI_len (k : Int) : ∀ l : List Int, (insI k l).length = l.length + 1
  | [] => rfl
  | j :: r => by simp only [insI]; split <;> simp [insI_len k r]
theorem sortI_len : ∀ l : List Int, (sortI l).length = l.length
  | [] => rfl
  | k :: r => by simp [sortI, insI_len, sortI_len r]
theorem made_in (x : List (Int × Int)) (hx : ∀ p ∈ x, in64 p.1 = true) : ∀ p ∈ x.foldl insert26 [], in64 p.1 = true := by
  rw [← make_eq x (ksOf (sums x [])) (ksOf_lt _ (sums_law x [] sums_nil).1) (ksOf_mem _)]
  intro p hp
  obtain ⟨k, hk, rfl⟩ := List.mem_map.1 hp
  obtain ⟨q, hq, e⟩ := List.mem_map.1 ((ksOf_mem _ k).1 hk)
  have := (sums_keys (P := fun n => in64 n = true) x [] hx (fun p hp => by cases hp)).1 q hq
  rw [e] at this; exact this
theorem add_bd {N : Nat} (c : Int) : ∀ (l a : List (Int × Int)) (M : Nat), (∀ p ∈ l, (c * p.2).natAbs ≤ N) → Bd M a → Bd (M + N * l.length) (add26 a l c) ∧ (add26 a l c).length ≤ a.length + l.length
  | [], a, M, _, h => ⟨by simpa [add26] using h, by simp [add26]⟩
  | p :: r, a, M, hl, h => by
    have hp := hl p (.head _)
    have e : add26 a (p :: r) c = add26 (insert26 a (p.1, c * p.2)) r c := rfl
    obtain ⟨h1, h2⟩ := add_bd c r (insert26 a (p.1, c * p.2)) (M + N) (fun q hq => hl q (.tail _ hq)) (insR_bd hp a _ h)
    have := insR_len (p.1, c * p.2) a (decide (c * p.2 = 0))
    rw [e, List.length_cons]
    refine ⟨?_, ?_⟩
    · rw [Nat.mul_succ]; exact bd_mono (by omega) h1
    · have h3 : (insert26 a (p.1, c * p.2)).length ≤ a.length + 1 := this
      omega
end Tor
namespace Tor
open Go
theorem san (H : Heap) : call E1 GP 0 [] H = some (.bool true, H, false) := by
  have h := san1
  rw [call_fun (free1 _ _ _ (by decide)) (f := a0) rfl rfl] at h ⊢
  have hm : a0.mode = .iso := rfl
  rw [hm] at h ⊢
  simp only [callFun] at h ⊢
  cases hr : runIso (run E1 GP) a0 [] with
  | none => rw [hr] at h; simp [withHeap] at h
  | some r =>
    rw [hr] at h
    simp only [withHeap, Option.some.injEq, Prod.mk.injEq] at h
    simp only [withHeap, h.1]
structure Ch (N L : Nat) (a : List (Int × Int)) : Prop where
  can : Canon none a
  bd : Bd N a
  len : a.length ≤ L
  key : ∀ p ∈ a, in64 p.1 = true
theorem ch_sm {N L : Nat} {a : List (Int × Int)} (h : Ch N L a) (hN : N < BIG) : ∀ p ∈ a, Sm p := fun p hp => sm_of hN (h.bd p hp)
theorem ch_add (N M La Lb C : Nat) (a b : List (Int × Int)) (c : Int) (ha : Ch N La a) (hb : Ch M Lb b) (hc : c.natAbs ≤ C) (hLa : La ≤ 1000) (hLb : Lb ≤ 1000) (hC : C < BIG) (hM : M < BIG)
    (hN : N * (La + 1) + C * M * (Lb + 1) < BIG) : (∀ H, call E1 GP 25 [.isl (a.map fA), .isl (b.map fA), Z c] H = some (.isl ((add26 a b c).map fA), H, false)) ∧ Ch (N + C * M * Lb) (La + Lb) (add26 a b c) := by
  have hmul : ∀ p ∈ b, (c * p.2).natAbs ≤ C * M := fun p hp => by
    rw [Int.natAbs_mul]; exact Nat.mul_le_mul hc (hb.bd p hp)
  have la := ha.len
  have lb := hb.len
  obtain ⟨ka, lsa⟩ := sums_keys (P := fun n => in64 n = true) a [] ha.key (fun p hp => by cases hp)
  obtain ⟨kb, lsb⟩ := sumsK_keys (P := fun n => in64 n = true) c b _ hb.key ka
  have sK := (sumsK_law c b _ (sums_law a [] sums_nil).1).1
  have bs : Bd (N * a.length) (sums a []) := bd_mono (by omega) (sums_bd a [] 0 ha.bd (fun p hp => by cases hp))
  simp only [List.length_nil, Nat.zero_add] at lsa
  have q1 : N * (a.length + 1) ≤ N * (La + 1) := Nat.mul_le_mul_left _ (by omega)
  have q2 : C * M * (b.length + 1) ≤ C * M * (Lb + 1) := Nat.mul_le_mul_left _ (by omega)
  have q3 : C * M * b.length ≤ C * M * Lb := Nat.mul_le_mul_left _ (by omega)
  have a1 := c_add free1 a b c N (C * M) ha.bd (by omega) (sm_of (N := C) hC (by simpa using hc)) (ch_sm hb hM) hmul (by omega) (by omega) (ksOf (sumsK c b (sums a []))) (srt1 _ (by omega) kb) (by simp [ksOf, sortI_len]; omega) bs
  have e := add_eq a b c ha.can _ (ksOf_lt _ sK) (ksOf_mem _)
  rw [e] at a1
  obtain ⟨bS, lS⟩ := add_bd c b a N hmul ha.bd
  refine ⟨a1, (add_law c b a ha.can).1, bd_mono (by omega) bS, by omega, ?_⟩
  rw [← e]
  intro p hp
  obtain ⟨k, hk, rfl⟩ := List.mem_map.1 hp
  obtain ⟨q, hq, e2⟩ := List.mem_map.1 ((ksOf_mem _ k).1 hk)
  have := kb q hq
  rw [e2] at this; exact this
theorem ch_make (x : List (Int × Int)) (hx : Bd 3 x) (lx : x.length ≤ 6) (ix : ∀ p ∈ x, in64 p.1 = true) : (∀ H, call E1 GP 22 [.isl (x.map fA)] H = some (.isl ((x.foldl insert26 []).map fA), H, false)) ∧ Ch 18 6 (x.foldl insert26 []) := by
  have hB : 340282366920938463463374607431768211456 ≤ BIG := big_le
  obtain ⟨ba, la⟩ := fold_bd x [] 0 hx (fun p hp => by cases hp)
  obtain ⟨kx, lsx⟩ := sums_keys (P := fun n => in64 n = true) x [] ix (fun p hp => by cases hp)
  have sx := (sums_law x [] sums_nil).1
  simp only [List.length_nil, Nat.zero_add] at lsx la
  have c1 := c_make free1 x 3 hx (by omega) (by omega) (ksOf (sums x [])) (srt1 _ (by omega) kx) (by simp [ksOf, sortI_len]; omega)
  rw [make_eq x _ (ksOf_lt _ sx) (ksOf_mem _)] at c1
  exact ⟨c1, (make_law x [] trivial).1, bd_mono (by omega) ba, by omega, made_in x ix⟩
theorem ch_nil (N L : Nat) : Ch N L [] where
  can := trivial
  bd := by intro p hp; cases hp
  len := Nat.zero_le _
  key := by intro p hp; cases hp
end Tor
namespace Tor
open Go
def bndF (c : List Cel) (out : List (Int × Int)) (p : Int × Int) : List (Int × Int) := add26 out (cellOf? c p.1).b p.2
def bnd26 (c : List Cel) (x : List (Int × Int)) : List (Int × Int) := x.foldl (bndF c) []
structure BndOk (c : List Cel) (x : List (Int × Int)) (N L : Nat) : Prop where
  cl : c.length < 2147483648
  xl : x.length < 1073741824
  ll : ∀ p ∈ x, (cellOf? c p.1).b.length ≤ L
  lb : L < 1073741824
  sx : ∀ p ∈ x, Sm p
  sb : ∀ p ∈ x, ∀ q ∈ (cellOf? c p.1).b, Sm q
  pr : ∀ p ∈ x, ∀ q ∈ (cellOf? c p.1).b, (p.2 * q.2).natAbs ≤ N
  big : N * (L + 1) * (x.length + 1) < BIG
  len : L * x.length < 1073741824
theorem bnd_bd {c : List Cel} {x : List (Int × Int)} {N L : Nat} (h : BndOk c x N L) : ∀ (n i : Nat) (out : List (Int × Int)), x.length = i + n → Bd (N * L * i) out → out.length ≤ L * i →
    Bd (N * L * x.length) ((x.drop i).foldl (bndF c) out) ∧ ((x.drop i).foldl (bndF c) out).length ≤ L * x.length
  | 0, i, out, hi, h1, h2 => by
    have e : i = x.length := by omega
    subst e
    rw [List.drop_length]; exact ⟨h1, h2⟩
  | n + 1, i, out, hi, h1, h2 => by
    have hlt : i < x.length := by omega
    rw [List.drop_eq_getElem_cons hlt, List.foldl_cons]
    have hm : x[i] ∈ x := List.getElem_mem hlt
    obtain ⟨b1, b2⟩ := add_bd x[i].2 (cellOf? c x[i].1).b out (N * L * i) (h.pr _ hm) h1
    have hl := h.ll _ hm
    refine bnd_bd h n (i + 1) _ (by omega) (bd_mono ?_ b1) ?_
    · have : N * (cellOf? c x[i].1).b.length ≤ N * L := Nat.mul_le_mul_left _ hl
      rw [Nat.mul_succ]; omega
    · unfold bndF; rw [Nat.mul_succ]; omega
variable {E : CallF} (hE : Free E)
include hE
theorem bnd26_loop (c : List Cel) (x : List (Int × Int)) (N L : Nat) (h : BndOk c x N L) : ∀ (n i : Nat) (out : List (Int × Int)), x.length = i + n → Bd (N * L * i) out → out.length ≤ L * i →
    run E GP a7l0 { vars := [.isl (c.map cA), .isl (x.map fA), .isl [], .int .i64 0, .int .i64 0, .isl (out.map fA), .int .i64 i, .bool false, .u, .u], heap := [], rs := false } =
      some (.exit 0, { vars := [.isl (c.map cA), .isl (x.map fA), .isl [], .int .i64 0, .int .i64 0, .isl (((x.drop i).foldl (bndF c) out).map fA), .int .i64 x.length, .bool false, .bool false, .u], heap := [], rs := false }) := by
  have hxl := h.xl
  intro n
  induction n with
  | zero =>
    intro i out hi h1 h2
    have e : i = x.length := by omega
    subst e
    have k1 : ¬ (x.length : Int) < (x.length : Int) := by omega
    rw [List.drop_length, List.foldl_nil, a7l0_run]
    simp (maxSteps := 1000000) only [sim, sik, sil, sit, simprocAttr, Int.cast_ofNat_Int, List.take_length, List.length_map, List.contains_cons, List.contains_nil, a7b0, a7r6_ev, k1]
  | succ n ih =>
    intro i out hi h1 h2
    have hlt : i < x.length := by omega
    have k1 : (i : Int) < (x.length : Int) := by omega
    have wi : IntKind.i64.wrap ((i : Int) + 1) = ((i + 1 : Nat) : Int) := i64a (by omega)
    have g1 := fA_get hlt
    have hf := fun H => r25_find hE c x[i].1 h.cl H
    have hm : x[i] ∈ x := List.getElem_mem hlt
    have hl := h.ll _ hm
    have hlb := h.lb
    have hbig := h.big
    have e1 : N * L * i + N * ((cellOf? c x[i].1).b.length + 1) ≤ N * (L + 1) * (x.length + 1) := by
      have a1 : N * ((cellOf? c x[i].1).b.length + 1) ≤ N * (L + 1) := Nat.mul_le_mul_left _ (by omega)
      have a2 : N * L * i ≤ N * (L + 1) * x.length := Nat.mul_le_mul (Nat.mul_le_mul_left _ (by omega)) (by omega)
      have a3 : N * (L + 1) * (x.length + 1) = N * (L + 1) * x.length + N * (L + 1) := Nat.mul_succ _ _
      omega
    have e2 : L * i ≤ L * x.length := Nat.mul_le_mul_left _ (by omega)
    have hlen := h.len
    have hadd := fun H => r26_add hE out (cellOf? c x[i].1).b x[i].2 (N * L * i) N h1 (show Sm x[i] from h.sx _ hm) (h.sb _ hm) (h.pr _ hm) (by omega) (by omega) (by omega) H
    obtain ⟨b1, b2⟩ := add_bd x[i].2 (cellOf? c x[i].1).b out (N * L * i) (h.pr _ hm) h1
    rw [List.drop_eq_getElem_cons hlt, List.foldl_cons, ← ih (i + 1) (bndF c out x[i]) (by omega) (bd_mono (by
      have : N * (cellOf? c x[i].1).b.length ≤ N * L := Nat.mul_le_mul_left _ hl
      rw [Nat.mul_succ]; omega) b1) (by unfold bndF; rw [Nat.mul_succ]; omega)]
    rw [show add26 out (cellOf? c x[i].1).b x[i].2 = bndF c out x[i] from rfl] at hadd
    rw [show (findC c x[i].1).getD zC = cellOf? c x[i].1 from rfl] at hf
    generalize bndF c out x[i] = out' at *
    generalize cellOf? c x[i].1 = f at *
    rw [show cA f = .agg [.int .i64 f.id, .int .i64 f.dim, .isl (f.b.map fA)] from rfl] at hf
    conv => lhs; rw [a7l0_run]
    simp (maxSteps := 1000000) only [sim, sik, sil, sit, simprocAttr, Int.cast_ofNat_Int, List.take_length, List.length_map, List.contains_cons, List.contains_nil, a7b0, a7r6_ev, a7r7_ev, a7r8_ev, a7r9_ev, k1, wi, g1, hf, hadd]
theorem r26_boundary (c : List Cel) (x : List (Int × Int)) (N L : Nat) (hc : c.length < 2147483648) (hx : x.length < 1073741824) (h : (dim26 c x).2 = 0 → BndOk c x N L) (H : Heap) :
    call E GP 7 [.isl (c.map cA), .isl (x.map fA)] H = some (.tup [.isl ((if (dim26 c x).2 = 0 then bnd26 c x else []).map fA), .int .i64 (dim26 c x).2], H, false) := by
  rw [call_fun (hE _ _ _ (by decide)) (f := a7) rfl rfl]
  have hd := fun H => r26_dim hE c x hc (by omega) H
  have hr1 := refs_cA c
  have hr2 := refs_fA x
  by_cases h0 : (dim26 c x).2 = 0
  · have hl := bnd26_loop hE c x N L (h h0) x.length 0 [] (by omega) (by intro p hp; cases hp) (Nat.zero_le _)
    rw [List.drop_zero, show x.foldl (bndF c) [] = bnd26 c x from rfl] at hl
    rw [if_pos h0]
    have hr3 := refs_fA (bnd26 c x)
    have hs3 := solids_fA (bnd26 c x)
    simp only [List.map_nil, Int.ofNat_zero] at hl
    rw [h0] at hd ⊢
    simp (maxSteps := 1000000) only [sim, sik, sil, sit, simprocAttr, Int.cast_ofNat_Int, List.take_length, List.length_map, List.contains_cons, List.contains_nil, a7, a7r0_ev, a7r1_ev, a7r2_ev, a7r4_ev, a7r5_ev, a7r10_ev, hr1, hr2, hd, hl, hr3, hs3, ne_eq, not_true_eq_false]
  · rw [if_neg h0]
    have hn : ¬ ((dim26 c x).2 = 0) := h0
    simp (maxSteps := 1000000) only [sim, sik, sil, sit, simprocAttr, Int.cast_ofNat_Int, List.take_length, List.length_map, List.contains_cons, List.contains_nil, a7, a7r0_ev, a7r1_ev, a7r2_ev, a7r3_ev, hr1, hr2, hd, hn, ne_eq, not_false_eq_true]
theorem r26_cycle (c : List Cel) (x : List (Int × Int)) (N L : Nat) (hc : c.length < 2147483648) (hx : x.length < 1073741824) (h : (dim26 c x).2 = 0 → BndOk c x N L) (H : Heap) :
    call E GP 12 [.isl (c.map cA), .isl (x.map fA)] H = some (.bool (decide ((dim26 c x).2 = 0) && decide (bnd26 c x = [])), H, false) := by
  rw [call_fun (hE _ _ _ (by decide)) (f := a12) rfl rfl]
  have hb := fun H => r26_boundary hE c x N L hc hx h H
  have hr1 := refs_cA c
  have hr2 := refs_fA x
  by_cases h0 : (dim26 c x).2 = 0
  · rw [if_pos h0, h0] at hb
    rw [h0]
    cases hB : bnd26 c x with
    | nil =>
      rw [hB] at hb
      simp only [List.map_nil] at hb
      simp (maxSteps := 1000000) only [sim, sik, sil, sit, simprocAttr, Int.cast_ofNat_Int, List.take_length, List.length_map, List.contains_cons, List.contains_nil, a12, a12r0_ev, a12r1_ev, a12r2_ev, hr1, hr2, hb]
    | cons p r =>
      rw [hB] at hb
      have hn : ¬ (((p :: r).length : Nat) : Int) = 0 := by simp; omega
      have hn2 : ¬ (p :: r = []) := by simp
      generalize p :: r = l at *
      simp (maxSteps := 1000000) only [sim, sik, sil, sit, simprocAttr, Int.cast_ofNat_Int, List.take_length, List.length_map, List.contains_cons, List.contains_nil, a12, a12r0_ev, a12r1_ev, a12r2_ev, hr1, hr2, hb, hn, hn2]
  · rw [if_neg h0] at hb
    simp only [List.map_nil] at hb
    simp (maxSteps := 1000000) only [sim, sik, sil, sit, simprocAttr, Int.cast_ofNat_Int, List.take_length, List.length_map, List.contains_cons, List.contains_nil, a12, a12r0_ev, a12r1_ev, a12r2_ev, hr1, hr2, hb, h0]
end Tor
namespace Tor
open Go
def lastF (id : Int) (v : Int) (p : Int × Int) : Int := if p.1 = id then p.2 else v
def lastL (id : Int) (x : List (Int × Int)) : Int := x.foldl (lastF id) 0
def vecV (c : List Cel) (k : Int) (x : List (Int × Int)) : List Int := (cellsC c k).map fun id => lastL id x
def vec26 (c : List Cel) (k : Int) (x : List (Int × Int)) : List Int × Int :=
  if (dim26 c x).2 ≠ 0 then ([], (dim26 c x).2) else if x ≠ [] ∧ (dim26 c x).1 ≠ k then ([], 260) else (vecV c k x, 0)
variable {E : CallF} (hE : Free E)
include hE
theorem vec_inner (C : AV) (k d : Int) (x : List (Int × Int)) (hx : x.length < 2147483648) (ids : List Int) (i : Nat) (hi : i < ids.length) (S : AV) (H : Heap) (hC : C.under H.length = true) (hS : S.under H.length = true) : ∀ (n j : Nat) (v : Int), x.length = j + n →
    run E GP a9l1 { vars := [C, .int .i64 k, .isl (x.map fA), .isl [], .int .i64 0, .int .i64 d, .int .i64 0, .isl (ids.map iA), S, .int .i64 i, .int .i64 j, .bool false, .bool false, .bool true, .u, .u, Z v], heap := H, rs := false } =
      some (.exit 2, { vars := [C, .int .i64 k, .isl (x.map fA), .isl [], .int .i64 0, .int .i64 d, .int .i64 0, .isl (ids.map iA), S, .int .i64 i, .int .i64 x.length, .bool false, .bool false, .bool true, .bool false, .u, Z ((x.drop j).foldl (lastF (ids.getD i 0)) v)], heap := H, rs := false }) := by
  intro n
  induction n with
  | zero =>
    intro j v h
    have e : j = x.length := by omega
    subst e
    have k1 : ¬ (x.length : Int) < (x.length : Int) := by omega
    rw [List.drop_length, List.foldl_nil, a9l1_run]
    simp (maxSteps := 1000000) only [sim, sik, sil, sit, simprocAttr, Int.cast_ofNat_Int, List.take_length, List.length_map, List.contains_cons, List.contains_nil, a9b1, a9r12_ev, k1]
  | succ n ih =>
    intro j v h
    have hlt : j < x.length := by omega
    have k1 : (j : Int) < (x.length : Int) := by omega
    have wj : IntKind.i64.wrap ((j : Int) + 1) = ((j + 1 : Nat) : Int) := i64a (by omega)
    have g1 := fA_get hlt
    have g2 := iA_get hi
    rw [List.drop_eq_getElem_cons hlt, List.foldl_cons, ← ih (j + 1) _ (by omega)]
    unfold lastF
    generalize ids.getD i 0 = id at *
    by_cases he : x[j].1 = id
    · rw [if_pos he]
      have hb : decide (x[j].1 = id) = true := decide_eq_true he
      conv => lhs; rw [a9l1_run]
      simp (maxSteps := 1000000) only [sim, sik, sil, sit, simprocAttr, Int.cast_ofNat_Int, List.take_length, List.length_map, List.contains_cons, List.contains_nil, a9b1, a9r12_ev, a9r13_ev, a9r14_ev, a9r15_ev, k1, wj, g1, g2, hb, hC, hS]
    · rw [if_neg he]
      have hb : decide (x[j].1 = id) = false := decide_eq_false he
      conv => lhs; rw [a9l1_run]
      simp (maxSteps := 1000000) only [sim, sik, sil, sit, simprocAttr, Int.cast_ofNat_Int, List.take_length, List.length_map, List.contains_cons, List.contains_nil, a9b1, a9r12_ev, a9r13_ev, a9r14_ev, a9r15_ev, k1, wj, g1, g2, hb, hC, hS]
theorem vec_outer (c : List Cel) (k d : Int) (x : List (Int × Int)) (hx : x.length < 2147483648) (ids : List Int) (hids : ids.length < 2147483648) : ∀ (n i : Nat) (out : List Int), ids.length = i + n → out.length = i →
    run E GP a9l0 { vars := [.isl (c.map cA), .int .i64 k, .isl (x.map fA), .isl [], .int .i64 0, .int .i64 d, .int .i64 0, .isl (ids.map iA), .sl 0 i 2 0 i, .int .i64 i, .u, .bool false, .bool false, .u, .u, .u, .u], heap := [.arr i 2 (rowA out)], rs := false } =
      some (.exit 0, { vars := [.isl (c.map cA), .int .i64 k, .isl (x.map fA), .isl [], .int .i64 0, .int .i64 d, .int .i64 0, .isl (ids.map iA), .sl 0 ids.length 2 0 ids.length, .int .i64 ids.length, .u, .bool false, .bool false, .bool false, .u, .u, .u], heap := [.arr ids.length 2 (rowA (out ++ (ids.drop i).map fun id => lastL id x))], rs := false }) := by
  intro n
  induction n with
  | zero =>
    intro i out h ho
    have e : i = ids.length := by omega
    subst e
    have k1 : ¬ (ids.length : Int) < (ids.length : Int) := by omega
    rw [List.drop_length, List.map_nil, List.append_nil, a9l0_run]
    simp (maxSteps := 1000000) only [sim, sik, sil, sit, simprocAttr, Int.cast_ofNat_Int, List.take_length, List.length_map, List.contains_cons, List.contains_nil, a9b0, a9r8_ev, k1]
  | succ n ih =>
    intro i out h ho
    have hlt : i < ids.length := by omega
    have k1 : (i : Int) < (ids.length : Int) := by omega
    have wi : IntKind.i64.wrap ((i : Int) + 1) = ((i + 1 : Nat) : Int) := i64a (by omega)
    have hm : i + 1 ≤ 4294967296 := by omega
    have h14 := fun H => r1_of hE 0 H (by omega) (by omega)
    have hin := vec_inner hE (.isl (c.map cA)) k d x hx ids i hlt (.sl 0 i 2 0 i) [.arr i 2 (rowA out)] (by simp [AV.under]) (by simp [AV.under]) x.length 0 0 (by omega)
    rw [List.drop_zero, show x.foldl (lastF (ids.getD i 0)) 0 = lastL (ids.getD i 0) x from rfl] at hin
    have hd : ids.drop i = ids.getD i 0 :: ids.drop (i + 1) := drop_cons ids i hlt
    have e2 : out ++ (ids.drop i).map (fun id => lastL id x) = (out ++ [lastL (ids.getD i 0) x]) ++ (ids.drop (i + 1)).map (fun id => lastL id x) := by rw [hd]; simp
    rw [e2, ← ih (i + 1) _ (by omega) (by simp [ho])]
    have hra : rowA out ++ [Z (lastL (ids.getD i 0) x)] = rowA (out ++ [lastL (ids.getD i 0) x]) := by simp [rowA]
    have hrl := rowA_len out
    generalize lastL (ids.getD i 0) x = v at *
    simp only [Int.ofNat_zero] at hin
    conv => lhs; rw [a9l0_run]
    simp (maxSteps := 1000000) only [sim, sik, sil, sit, simprocAttr, Int.cast_ofNat_Int, List.take_length, List.length_map, List.contains_cons, List.contains_nil, a9b0, a9r8_ev, a9r9_ev, a9r10_ev, a9r11_ev, a9r16_ev, k1, wi, hm, h14, hin, hra, hrl, ho, maxLenA]
theorem r26_vector (c : List Cel) (k : Int) (x : List (Int × Int)) (hc : c.length < 2147483648) (hx : x.length < 2147483648) (H : Heap) :
    call E GP 9 [.isl (c.map cA), .int .i64 k, .isl (x.map fA)] H = some (.tup [.isl (rowA (vec26 c k x).1), .int .i64 (vec26 c k x).2], H, false) := by
  rw [call_fun (hE _ _ _ (by decide)) (f := a9) rfl rfl]
  have hd := fun H => r26_dim hE c x hc hx H
  have hr1 := refs_cA c
  have hr2 := refs_fA x
  unfold vec26
  by_cases h0 : (dim26 c x).2 = 0
  · rw [if_neg (by simpa using h0)]
    rw [h0] at hd
    have fin : ∀ (hg : ¬ (x ≠ [] ∧ (dim26 c x).1 ≠ k)),
        callFun (run E GP) [.isl (c.map cA), .int .i64 k, .isl (x.map fA)] H a9 a9.mode = some (.tup [.isl (rowA (vecV c k x)), .int .i64 0], H, false) := by
      intro hg
      have hcells := fun H => r25_cells hE c k hc H
      have hlc := cellsC_len c k
      have ho := vec_outer hE c k (dim26 c x).1 x hx (cellsC c k) (by omega) (cellsC c k).length 0 [] (by omega) rfl
      rw [List.drop_zero, List.nil_append, show ((cellsC c k).map fun id => lastL id x) = vecV c k x from rfl] at ho
      have hvl : (rowA (vecV c k x)).length = (cellsC c k).length := by rw [rowA_len]; simp [vecV]
      have htk : List.take (cellsC c k).length (rowA (vecV c k x)) = rowA (vecV c k x) := List.take_of_length_le (by omega)
      have hr3 := refs_rowA (vecV c k x)
      have hs3 := solids_rowA (vecV c k x)
      have hz := fun n H => fz_rowA n H 4 (vecV c k x)
      have hro : rowA [] = [] := rfl
      rw [hro] at ho
      simp only [Int.ofNat_zero] at ho
      by_cases hx0 : (x.length : Int) > 0
      · have hdk : (dim26 c x).1 = k := by
          by_cases hdk : (dim26 c x).1 = k
          · exact hdk
          · exact absurd ⟨by intro e; rw [e] at hx0; simp at hx0, hdk⟩ hg
        rw [hdk] at hd ho
        simp (maxSteps := 1000000) only [sim, sik, sil, sit, simprocAttr, Int.cast_ofNat_Int, List.take_length, List.length_map, List.contains_cons, List.contains_nil, a9, a9r0_ev, a9r1_ev, a9r2_ev, a9r4_ev, a9r6_ev, a9r7_ev, a9r17_ev, hr1, hr2, hd, hx0, hcells, ho, hvl, htk, hr3, hs3, hz, ne_eq, not_true_eq_false]
      · simp (maxSteps := 1000000) only [sim, sik, sil, sit, simprocAttr, Int.cast_ofNat_Int, List.take_length, List.length_map, List.contains_cons, List.contains_nil, a9, a9r0_ev, a9r1_ev, a9r2_ev, a9r4_ev, a9r6_ev, a9r7_ev, a9r17_ev, hr1, hr2, hd, hx0, hcells, ho, hvl, htk, hr3, hs3, hz, ne_eq, not_true_eq_false]
    by_cases hg : x ≠ [] ∧ (dim26 c x).1 ≠ k
    · rw [if_pos hg]
      have hx0 : (x.length : Int) > 0 := by
        have := List.length_pos_iff.2 hg.1; omega
      have hdk : ¬ (dim26 c x).1 = k := hg.2
      have hro : rowA [] = [] := rfl
      simp (maxSteps := 1000000) only [sim, sik, sil, sit, simprocAttr, Int.cast_ofNat_Int, List.take_length, List.length_map, List.contains_cons, List.contains_nil, a9, a9r0_ev, a9r1_ev, a9r2_ev, a9r4_ev, a9r5_ev, hr1, hr2, hd, hx0, hdk, hro, ne_eq, not_true_eq_false]
    · rw [if_neg hg]
      exact fin hg
  · rw [if_pos h0]
    have hn : ¬ ((dim26 c x).2 = 0) := h0
    have hro : rowA [] = [] := rfl
    simp (maxSteps := 1000000) only [sim, sik, sil, sit, simprocAttr, Int.cast_ofNat_Int, List.take_length, List.length_map, List.contains_cons, List.contains_nil, a9, a9r0_ev, a9r1_ev, a9r2_ev, a9r3_ev, hr1, hr2, hd, hn, hro, ne_eq, not_false_eq_true]
theorem r26_row (c : List Cel) (k : Int) (x : List (Int × Int)) (hc : c.length < 2147483648) (hx : x.length < 2147483648) (H : Heap) :
    call E GP 18 [.isl (c.map cA), .int .i64 k, .isl (x.map fA)] H = some (.isl (rowA (vec26 c k x).1), H, false) := by
  rw [call_fun (hE _ _ _ (by decide)) (f := a18) rfl rfl]
  have hv := fun H => r26_vector hE c k x hc hx H
  have hr1 := refs_cA c
  have hr2 := refs_fA x
  have hr3 := refs_rowA (vec26 c k x).1
  have hs3 := solids_rowA (vec26 c k x).1
  simp (maxSteps := 1000000) only [sim, sik, sil, sit, simprocAttr, Int.cast_ofNat_Int, List.take_length, List.length_map, List.contains_cons, List.contains_nil, a18, a18r0_ev, a18r1_ev, a18r2_ev, hr1, hr2, hv, hr3, hs3]
end Tor
namespace Tor
open Go
def chR (ids r : List Int) : List (Int × Int) := (ids.zip r).foldl insert26 []
def chain26 (c : List Cel) (k : Int) (r : List Int) : List (Int × Int) × Int :=
  if r.length ≠ (cellsC c k).length then ([], 50) else (chR (cellsC c k) r, 0)
theorem refs_of_fA (l : List (Int × Int)) : AV.hasRefs (l.map fA) = false := refs_fA l
variable {E : CallF} (hE : Free E)
include hE
theorem chain26_loop (C : AV) (hC : C.under 0 = true) (k : Int) (ids r : List Int) (N : Nat) (hl : ids.length = r.length) (hs : r.length < 2147483647) (hb : ∀ y ∈ r, y.natAbs ≤ N) (hN : N * (r.length + 1) < BIG) : ∀ (n i : Nat) (acc : List (Int × Int)), r.length = i + n → Bd (N * i) acc → acc.length ≤ i →
    run E GP a58l0 { vars := [C, .int .i64 k, .isl (rowA r), .isl [], .int .i64 0, .isl (ids.map iA), .isl (acc.map fA), .int .i64 (i : Nat), .bool false, .u], heap := [], rs := false } =
      some (.exit 0, { vars := [C, .int .i64 k, .isl (rowA r), .isl [], .int .i64 0, .isl (ids.map iA), .isl ((((ids.zip r).drop i).foldl insert26 acc).map fA), .int .i64 r.length, .bool false, .bool false], heap := [], rs := false }) := by
  intro n
  induction n with
  | zero =>
    intro i acc h1 h2 h3
    have hi : i = r.length := by omega
    subst hi
    have k1 : ¬ (r.length : Int) < (r.length : Int) := by omega
    have k2 := rowA_len r
    rw [a58l0_run, List.drop_of_length_le (by simp; omega), List.foldl_nil]
    simp (maxSteps := 1000000) only [sim, sik, sil, sit, simprocAttr, Int.cast_ofNat_Int, List.take_length, List.length_map, List.contains_cons, List.contains_nil, a58b0, a58r6_ev, k2, k1]
  | succ n ih =>
    intro i acc h1 h2 h3
    have hi : i < r.length := by omega
    have hi2 : i < ids.length := by omega
    have k1 : (i : Int) < (r.length : Int) := by omega
    have k2 := rowA_len r
    have g1 := iA_get hi2
    have g2 := rowA_get hi
    have wi : IntKind.i64.wrap ((i : Int) + 1) = ((i + 1 : Nat) : Int) := i64a (by omega)
    have hd : (ids.zip r).drop i = (ids.getD i 0, r.getD i 0) :: (ids.zip r).drop (i + 1) := by
      rw [List.drop_eq_getElem_cons (by simp; omega)]
      simp [List.getElem_zip, List.getD, hi, hi2]
    have hbi : (r.getD i 0).natAbs ≤ N := hb _ (by simp [List.getD, hi])
    have hNi : N * i ≤ N * (r.length + 1) := Nat.mul_le_mul_left _ (by omega)
    have hN1 : N * 1 ≤ N * (r.length + 1) := Nat.mul_le_mul_left _ (by omega)
    have hins := fun H => r26_insert hE acc (ids.getD i 0, r.getD i 0) (sm_of (N := N) (by omega) hbi) (fun p hp => sm_of (N := N * i) (by omega) (h2 p hp)) (by omega) H
    have hacc : Bd (N * (i + 1)) (insert26 acc (ids.getD i 0, r.getD i 0)) := by
      rw [Nat.mul_succ]; exact insR_bd (f := (ids.getD i 0, r.getD i 0)) hbi acc _ h2
    have hlen := insR_len (ids.getD i 0, r.getD i 0) acc (decide (r.getD i 0 = 0))
    rw [hd, List.foldl_cons, ← ih (i + 1) (insert26 acc (ids.getD i 0, r.getD i 0)) (by omega) hacc (by unfold insert26; simp only; omega)]
    generalize insert26 acc (ids.getD i 0, r.getD i 0) = acc' at *
    rw [show fA (ids.getD i 0, r.getD i 0) = .agg [.int .i64 (ids.getD i 0), Z (r.getD i 0)] from rfl] at hins
    conv => lhs; rw [a58l0_run]
    simp (maxSteps := 1000000) only [sim, sik, sil, sit, simprocAttr, Int.cast_ofNat_Int, List.take_length, List.length_map, List.contains_cons, List.contains_nil, a58b0, a58r6_ev, a58r7_ev, a58r8_ev, k1, k2, g1, g2, wi, hins, hC]
theorem r26_chain (c : List Cel) (k : Int) (r : List Int) (N : Nat) (hc : c.length < 2147483647) (hs : r.length < 2147483647) (hb : ∀ y ∈ r, y.natAbs ≤ N) (hN : N * (r.length + 1) < BIG) (H : Heap) :
    call E GP 58 [.isl (c.map cA), .int .i64 k, .isl (rowA r)] H = some (.tup [.isl ((chain26 c k r).1.map fA), .int .i64 (chain26 c k r).2], H, false) := by
  rw [call_fun (hE _ _ _ (by decide)) (f := a58) rfl rfl]
  have hcells := fun H => r25_cells hE c k (by omega) H
  have hlc := cellsC_len c k
  have hr1 := refs_cA c
  have hr2 := refs_rowA r
  have k2 := rowA_len r
  unfold chain26
  by_cases h0 : r.length = (cellsC c k).length
  · rw [if_neg (by simpa using h0)]
    have hl := chain26_loop hE (.isl (c.map cA)) (by simp [AV.under, refs_cA]) k (cellsC c k) r N h0.symm hs hb hN r.length 0 [] (by omega) (by intro p hp; cases hp) (Nat.zero_le _)
    rw [List.drop_zero, show ((cellsC c k).zip r).foldl insert26 [] = chR (cellsC c k) r from rfl] at hl
    simp only [List.map_nil, Int.ofNat_zero] at hl
    have hr3 := refs_fA (chR (cellsC c k) r)
    have hs3 := solids_fA (chR (cellsC c k) r)
    generalize cellsC c k = ids at *
    have hz : ¬ ((r.length : Int) ≠ (ids.length : Int)) := by omega
    have hz2 : (r.length : Int) = (ids.length : Int) := by omega
    simp (maxSteps := 1000000) only [sim, sik, sil, sit, simprocAttr, Int.cast_ofNat_Int, List.take_length, List.length_map, List.contains_cons, List.contains_nil, a58, a58r0_ev, a58r1_ev, a58r2_ev, a58r4_ev, a58r5_ev, a58r9_ev, hr1, hr2, k2, hcells, hl, hr3, hs3, hz2, fz_fAs7, ne_eq, not_true_eq_false]
  · rw [if_pos h0]
    have hz : ¬ (r.length : Int) = ((cellsC c k).length : Int) := by omega
    simp (maxSteps := 1000000) only [sim, sik, sil, sit, simprocAttr, Int.cast_ofNat_Int, List.take_length, List.length_map, List.contains_cons, List.contains_nil, a58, a58r0_ev, a58r1_ev, a58r2_ev, a58r3_ev, hr1, hr2, k2, hcells, hz, ne_eq, not_false_eq_true]
theorem r26_of (c : List Cel) (k : Int) (r : List Int) (N : Nat) (hc : c.length < 2147483647) (hs : r.length < 2147483647) (hb : ∀ y ∈ r, y.natAbs ≤ N) (hN : N * (r.length + 1) < BIG) (H : Heap) :
    call E GP 40 [.isl (c.map cA), .int .i64 k, .isl (rowA r)] H = some (.isl ((chain26 c k r).1.map fA), H, false) := by
  rw [call_fun (hE _ _ _ (by decide)) (f := a40) rfl rfl]
  have hv := fun H => r26_chain hE c k r N hc hs hb hN H
  have hr1 := refs_cA c
  have hr2 := refs_rowA r
  have hr3 := refs_fA (chain26 c k r).1
  have hs3 := solids_fA (chain26 c k r).1
  generalize chain26 c k r = o at *
  simp (maxSteps := 1000000) only [sim, sik, sil, sit, simprocAttr, Int.cast_ofNat_Int, List.take_length, List.length_map, List.contains_cons, List.contains_nil, a40, a40r0_ev, a40r1_ev, a40r2_ev, hr1, hr2, hv, hr3, hs3, fz_fAs7]
end Tor
namespace Tor
open Go
def bA (n : Int) : AV := .int .i8 n
theorem bA_get {l : List Int} {i : Nat} (h : i < l.length) : (l.map bA)[i]? = some (.int .i8 (l.getD i 0)) := by simp [h, bA, List.getD]
theorem refs_bA : ∀ l : List Int, AV.hasRefs (l.map bA) = false
  | [] => rfl
  | x :: r => by simp only [List.map_cons, AV.hasRefs, bA, AV.hasRef, refs_bA r, Bool.or_self]
def z46 : AV := .agg [.int .i64 0, .int .i64 0, .nl]
def fillAt (d : List Int) (C i j : Nat) : Int := (d.getD (i * C + j) 0).tmod 10
def fillRow (d : List Int) (C i : Nat) : List Int := (List.range C).map (fillAt d C i)
def filled (d : List Int) (R C : Nat) : List (List Int) := (List.range R).map (fillRow d C)
theorem fillAt_end {d : List Int} {C i j : Nat} (h : d.length ≤ i * C + j) : fillAt d C i j = 0 := by
  unfold fillAt; rw [List.getD, List.getElem?_eq_none h]; rfl
theorem fill_rest {d : List Int} {C i : Nat} : ∀ (n j : Nat), C = j + n → d.length ≤ i * C + j → (List.range j).map (fillAt d C i) ++ List.replicate n 0 = fillRow d C i
  | 0, j, h, _ => by
    have : j = C := by omega
    subst this; simp [fillRow]
  | n + 1, j, h, hl => by
    rw [← fill_rest n (j + 1) (by omega) (by omega), List.range_succ, List.map_append, List.append_assoc]
    simp only [List.map_cons, List.map_nil, fillAt_end hl]; rfl
variable {E : CallF} (hE : Free E)
include hE
theorem fill_inner (R C : Nat) (hR : R < 65536) (hC : C < 65536) (r0 c0 : Int) (d : List Int) (hd : d.length ≤ 9223372036854775807) (hd8 : ∀ x ∈ d, -128 ≤ x ∧ x ≤ 127) (o : Nat) (rs : List Nat) (hrs : rs.length = R) (i : Nat) (hi : i < R)
    (A : List (List Int)) :
    ∀ (n j : Nat) (x : List Int) (H : Heap) (b : Bool), C = j + n → x = (List.range j).map (fillAt d C i) ++ List.replicate n 0 → HMat H o R C rs (A.set i x) → A.length = R → (hol : o < H.length) →
    ∃ (H' : Heap) (j' : Nat), run E GP a46l1 { vars := [.int .i64 r0, .int .i64 c0, .isl (d.map bA), .int .i64 i, .int .i64 j, .bool true, .u, z46, HV o R R C], heap := H, rs := b } =
      some (.exit 2, { vars := [.int .i64 r0, .int .i64 c0, .isl (d.map bA), .int .i64 i, .int .i64 j', .bool true, .bool false, z46, HV o R R C], heap := H', rs := b }) ∧
      HMat H' o R C rs (A.set i (fillRow d C i)) ∧ Fr rs H H' := by
  intro n
  induction n with
  | zero =>
    intro j x H b h hx hm hA hol
    have hj : j = C := by omega
    subst hj
    have k1 : ¬ (j : Int) < (j : Int) := by omega
    refine ⟨H, j, ?_, by rw [hx] at hm; simpa [fillRow] using hm, Fr.refl _ _⟩
    unfold HV z46
    rw [a46l1_run]
    simp (maxSteps := 1000000) only [sim, sik, sil, sit, simprocAttr, Int.cast_ofNat_Int, List.take_length, List.length_map, List.contains_cons, List.contains_nil, a46b1, a46r6_ev, k1]
  | succ n ih =>
    intro j x H b h hx hm hA hol
    have k1 : (j : Int) < (C : Int) := by omega
    have k3 : (i : Int) < (R : Int) := by omega
    have wi : IntKind.i64.wrap ((j : Int) + 1) = ((j + 1 : Nat) : Int) := i64a (by omega)
    have hmul : i * C + C ≤ R * C := by
      have := Nat.mul_le_mul_right C (show i + 1 ≤ R by omega)
      rw [Nat.succ_mul] at this; exact this
    have hmul2 : R * C ≤ 65536 * 65536 := Nat.mul_le_mul (by omega) (by omega)
    have wm : IntKind.i64.wrap ((i : Int) * (C : Int)) = ((i * C : Nat) : Int) := by
      rw [← Int.natCast_mul]; exact i64w (by omega)
    have wa : IntKind.i64.wrap (((i * C : Nat) : Int) + (j : Int)) = ((i * C + j : Nat) : Int) := by
      rw [← Int.natCast_add]; exact i64w (by omega)
    by_cases hlt : i * C + j < d.length
    · have k2 : ((i * C + j : Nat) : Int) < (d.length : Int) := by omega
      have g1 := bA_get hlt
      have hd1 := hd8 (d.getD (i * C + j) 0) (by simp [List.getD, hlt])
      have t1 := Int.tmod_lt_of_pos (d.getD (i * C + j) 0) (show (0 : Int) < 10 by omega)
      have t2 : -10 < (d.getD (i * C + j) 0).tmod 10 := by
        have := Int.lt_tmod_of_pos (d.getD (i * C + j) 0) (show (0 : Int) < 10 by omega); omega
      have wt : IntKind.i64.wrap ((d.getD (i * C + j) 0).tmod 10) = (d.getD (i * C + j) 0).tmod 10 := i64w (by omega)
      have h14 := fun H => r1_of hE ((d.getD (i * C + j) 0).tmod 10) H (by omega) (by omega)
      have g3 := hm.top
      have g4 := tops_get (C := C) (rs := rs) (i := i) (by omega)
      have hlA : i < A.length := by omega
      have g5 := hm.row i (by omega)
      rw [gets_self _ _ _ _ hlA] at g5
      have hxl : x.length = C := by rw [hx]; simp; omega
      have hjx : j < x.length := by omega
      have g6 := rowA_get hjx
      have hset := rowA_set x j ((d.getD (i * C + j) 0).tmod 10)
      have hrow := hm.setRow (i := i) (by omega) (r := x.set j ((d.getD (i * C + j) 0).tmod 10)) (by simp [hxl])
      rw [List.set_set] at hrow
      have hx2 : x.set j ((d.getD (i * C + j) 0).tmod 10) = (List.range (j + 1)).map (fillAt d C i) ++ List.replicate n 0 := by
        rw [hx, List.set_append_right _ _ (by simp), List.range_succ, List.map_append, List.append_assoc]
        simp [List.replicate_succ, fillAt]
      obtain ⟨H', j', e1, e2, e3⟩ := ih (j + 1) _ _ b (by omega) hx2 hrow hA (by simpa using hol)
      refine ⟨H', j', ?_, e2, (Fr.set (getD_mem (by omega)) _).trans e3⟩
      rw [← e1]
      generalize hdv : (d.getD (i * C + j) 0).tmod 10 = dv at *
      generalize d.getD (i * C + j) 0 = dw at *
      generalize x.getD j 0 = zz at *
      have htk : ∀ (v : AObj), List.take H.length (H.set (rs.getD i 0) v) = H.set (rs.getD i 0) v := fun v => List.take_of_length_le (by simp)
      have hrd := refs_bA d
      unfold HV z46
      conv => lhs; rw [a46l1_run]
      simp (maxSteps := 1000000) only [sim, sik, sil, sit, simprocAttr, Int.cast_ofNat_Int, List.take_length, List.length_map, List.contains_cons, List.contains_nil, a46b1, a46r6_ev, a46r7_ev, a46r8_ev, k1, k2, k3, wi, wm, wa, wt, g1, g3, g4, g5, g6, h14, hset, htk, hrd, hol, hdv]
    · have k2 : ¬ ((i * C + j : Nat) : Int) < (d.length : Int) := by omega
      refine ⟨H, j, ?_, by rw [hx, fill_rest (n + 1) j h (by omega)] at hm; exact hm, Fr.refl _ _⟩
      unfold HV z46
      rw [a46l1_run]
      simp (maxSteps := 1000000) only [sim, sik, sil, sit, simprocAttr, Int.cast_ofNat_Int, List.take_length, List.length_map, List.contains_cons, List.contains_nil, a46b1, a46r6_ev, k1, k2, wm, wa]
theorem fill_outer (R C : Nat) (hR : R < 65536) (hC : C < 65536) (r0 c0 : Int) (d : List Int) (hd : d.length ≤ 9223372036854775807) (hd8 : ∀ x ∈ d, -128 ≤ x ∧ x ≤ 127) (o : Nat) (rs : List Nat) (hrs : rs.length = R) :
    ∀ (n i : Nat) (H : Heap) (b : Bool), R = i + n → HMat H o R C rs ((List.range i).map (fillRow d C) ++ List.replicate n (List.replicate C 0)) → (hol : o < H.length) →
    ∃ H', run E GP a46l0 { vars := [.int .i64 r0, .int .i64 c0, .isl (d.map bA), .int .i64 i, .u, .u, .u, z46, HV o R R C], heap := H, rs := b } =
      some (.exit 0, { vars := [.int .i64 r0, .int .i64 c0, .isl (d.map bA), .int .i64 R, .u, .bool false, .u, z46, HV o R R C], heap := H', rs := b }) ∧
      HMat H' o R C rs (filled d R C) ∧ Fr rs H H' := by
  intro n
  induction n with
  | zero =>
    intro i H b h hm hol
    have hi : i = R := by omega
    subst hi
    have k1 : ¬ (i : Int) < (i : Int) := by omega
    refine ⟨H, ?_, by simpa [filled] using hm, Fr.refl _ _⟩
    unfold HV z46
    rw [a46l0_run]
    simp (maxSteps := 1000000) only [sim, sik, sil, sit, simprocAttr, Int.cast_ofNat_Int, List.take_length, List.length_map, List.contains_cons, List.contains_nil, a46b0, a46r3_ev, k1]
  | succ n ih =>
    intro i H b h hm hol
    have hi : i < R := by omega
    have k1 : (i : Int) < (R : Int) := by omega
    have wi : IntKind.i64.wrap ((i : Int) + 1) = ((i + 1 : Nat) : Int) := i64a (by omega)
    have hset0 : ((List.range i).map (fillRow d C) ++ List.replicate (n + 1) (List.replicate C (0 : Int))).set i (List.replicate C 0) = (List.range i).map (fillRow d C) ++ List.replicate (n + 1) (List.replicate C (0 : Int)) := by
      rw [List.set_append_right _ _ (by simp)]
      simp [List.replicate_succ]
    obtain ⟨H1, j', e1, e2, e3⟩ := fill_inner hE R C hR hC r0 c0 d hd hd8 o rs hrs i hi ((List.range i).map (fillRow d C) ++ List.replicate (n + 1) (List.replicate C (0 : Int))) C 0 (List.replicate C 0) H false (by omega) (by simp) (by rw [hset0]; exact hm) (by simp; omega) hol
    have hB : ((List.range i).map (fillRow d C) ++ List.replicate (n + 1) (List.replicate C (0 : Int))).set i (fillRow d C i) = (List.range (i + 1)).map (fillRow d C) ++ List.replicate n (List.replicate C 0) := by
      rw [List.set_append_right _ _ (by simp)]
      simp [List.range_succ, List.replicate_succ]
    rw [hB] at e2
    obtain ⟨H', f1, f2, f3⟩ := ih (i + 1) H1 b (by omega) e2 (by rw [e3.1]; exact hol)
    refine ⟨H', ?_, f2, e3.trans f3⟩
    rw [← f1]
    have hl1 := e3.1
    have htk : List.take H.length H1 = H1 := List.take_of_length_le (by omega)
    have hrd := refs_bA d
    unfold HV z46 at *
    simp only [Int.ofNat_zero] at e1
    conv => lhs; rw [a46l0_run]
    simp (maxSteps := 1000000) only [sim, sik, sil, sit, simprocAttr, Int.cast_ofNat_Int, List.take_length, List.length_map, List.contains_cons, List.contains_nil, a46b0, a46r3_ev, a46r4_ev, a46r5_ev, k1, wi, e1, htk, hrd, hol, hl1]
omit hE in
theorem clamp16 {n : Nat} (h : n ≤ 16) : IntKind.i64.wrap n = n := i64w (by omega)
theorem r5_filled (R C : Nat) (hR : R ≤ 16) (hC : C ≤ 16) (d : List Int) (hd : d.length ≤ 9223372036854775807) (hd8 : ∀ x ∈ d, -128 ≤ x ∧ x ≤ 127) (H : Heap) :
    call E GP 46 [.int .i64 R, .int .i64 C, .isl (d.map bA)] H = some (MI R C (filled d R C), H, false) := by
  rw [call_fun (hE _ _ _ (by decide)) (f := a46) rfl rfl]
  obtain ⟨b, hb⟩ := r5_new hE R C (by omega) (by omega) []
  obtain ⟨H', e1, e2, e3⟩ := fill_outer hE R C (by omega) (by omega) R C d hd hd8 0 (news 0 R) (news_len _ _) R 0 (newH 0 R C) (false || b) (by omega) (by simpa using newH_mat [] R C) (by rw [newH_len]; omega)
  have hz := fz_HV e2 (news_len _ _) 3
  have hrd := refs_bA d
  have m1 : ¬ (0 : Int) > (R : Int) := by omega
  have m2 : ¬ (0 : Int) > (C : Int) := by omega
  have m3 : ((if (16 : Int) < (R : Int) then 16 else (R : Int)) : Int) = R := by rw [if_neg (by omega)]
  have m4 : ((if (16 : Int) < (C : Int) then 16 else (C : Int)) : Int) = C := by rw [if_neg (by omega)]
  have hrf := refs_rowsI
  have hso := solids_rowsI
  unfold HV z46 MI at *
  simp only [Int.ofNat_zero, List.length_nil, List.nil_append, Bool.false_or] at e1 hb
  simp (maxSteps := 1000000) only [sim, sik, sil, sit, simprocAttr, Int.cast_ofNat_Int, List.take_length, List.length_map, List.contains_cons, List.contains_nil, a46, a46r0_ev, a46r1_ev, a46r2_ev, a46r9_ev, hb, e1, hz, hrd, hrf, hso, m1, m2, m3, m4, foldMM, Bool.false_eq_true]
end Tor
namespace Tor
open Go
def chA (l : List (Int × Int)) : AV := .isl (l.map fA)
theorem refs_chA : ∀ L : List (List (Int × Int)), AV.hasRefs (L.map chA) = false
  | [] => rfl
  | x :: r => by simp only [List.map_cons, AV.hasRefs, chA, AV.hasRef, refs_fA, refs_chA r, Bool.or_self]
theorem solids_chA : ∀ L : List (List (Int × Int)), AV.solids (L.map chA) = true
  | [] => rfl
  | x :: r => by simp only [List.map_cons, AV.solids, chA, AV.solid, AV.hasRef, solids_fA, refs_fA, solids_chA r]; rfl
theorem fz_chA (n : Nat) (H : Heap) (k : Nat) : ∀ L : List (List (Int × Int)), (L.map chA).map (fz n H (k + 4)) = L.map chA
  | [] => rfl
  | x :: r => by simp only [List.map_cons, fz_chA n H k r, chA, fz, fz_fAs]
theorem chA_get {L : List (List (Int × Int))} {i : Nat} (h : i < L.length) : (L.map chA)[i]? = some (.isl ((L.getD i []).map fA)) := by simp [h, chA, List.getD]
def cycOf (c : List Cel) (k : Int) (B : List (List Int)) : List (List (Int × Int)) := B.map fun r => (chain26 c k r).1
variable {E : CallF} (hE : Free E)
include hE
theorem r5_vector (C : Nat) (hC : C ≤ 16) (d : List Int) (hd : d.length ≤ 9223372036854775807) (hd8 : ∀ x ∈ d, -128 ≤ x ∧ x ≤ 127) (H : Heap) :
    call E GP 39 [.isl (d.map bA), .int .i64 C] H = some (.isl (rowA (fillRow d C 0)), H, false) := by
  rw [call_fun (hE _ _ _ (by decide)) (f := a39) rfl rfl]
  have hf := fun H => r5_filled hE 1 C (by omega) hC d hd hd8 H
  have hrd := refs_bA d
  rw [show MI 1 C (filled d 1 C) = .agg [.int .i64 1, .int .i64 C, .isl [.isl (rowA (fillRow d C 0))]] from rfl, show ((1 : Nat) : Int) = 1 from rfl] at hf
  have hr := refs_rowA (fillRow d C 0)
  have hs := solids_rowA (fillRow d C 0)
  have hz := fun n H => fz_rowA n H 5 (fillRow d C 0)
  simp (maxSteps := 1000000) only [sim, sik, sil, sit, simprocAttr, Int.cast_ofNat_Int, List.take_length, List.length_map, List.contains_cons, List.contains_nil, a39, a39r0_ev, a39r1_ev, hrd, hf, hr, hs, hz]
theorem fillAt_bd (d : List Int) (hd8 : ∀ x ∈ d, -128 ≤ x ∧ x ≤ 127) (C i j : Nat) : (fillAt d C i j).natAbs ≤ 9 := by
  unfold fillAt
  have t1 := Int.tmod_lt_of_pos (d.getD (i * C + j) 0) (show (0 : Int) < 10 by omega)
  have t2 := Int.lt_tmod_of_pos (d.getD (i * C + j) 0) (show (0 : Int) < 10 by omega)
  omega
theorem fillRow_bd (d : List Int) (hd8 : ∀ x ∈ d, -128 ≤ x ∧ x ≤ 127) (C i : Nat) : ∀ y ∈ fillRow d C i, y.natAbs ≤ 9 := by
  intro y hy
  simp only [fillRow, List.mem_map] at hy
  obtain ⟨j, _, rfl⟩ := hy
  exact fillAt_bd hE d hd8 C i j
def comb26 (c : List Cel) (k : Int) (d : List Int) : List (Int × Int) := (chain26 c k (fillRow d (cellsC c k).length 0)).1
theorem r26_combination (c : List Cel) (k : Int) (hc : c.length ≤ 16) (d : List Int) (hd : d.length ≤ 9223372036854775807) (hd8 : ∀ x ∈ d, -128 ≤ x ∧ x ≤ 127) (H : Heap) :
    call E GP 15 [.isl (c.map cA), .int .i64 k, .isl (d.map bA)] H = some (.isl ((comb26 c k d).map fA), H, false) := by
  rw [call_fun (hE _ _ _ (by decide)) (f := a15) rfl rfl]
  have hcells := fun H => r25_cells hE c k (by omega) H
  have hlc := cellsC_len c k
  have hv := fun H => r5_vector hE (cellsC c k).length (by omega) d hd hd8 H
  have hlen : (fillRow d (cellsC c k).length 0).length = (cellsC c k).length := by simp [fillRow]
  have ho := fun H => r26_of hE c k (fillRow d (cellsC c k).length 0) 9 (by omega) (by omega) (fillRow_bd hE d hd8 _ _) (by
    have := big_le
    have : 9 * ((fillRow d (cellsC c k).length 0).length + 1) ≤ 9 * 17 := Nat.mul_le_mul_left _ (by omega)
    omega) H
  rw [show (chain26 c k (fillRow d (cellsC c k).length 0)).1 = comb26 c k d from rfl] at ho
  have hrd := refs_bA d
  have hrc := refs_cA c
  have hr3 := refs_fA (comb26 c k d)
  have hs3 := solids_fA (comb26 c k d)
  simp (maxSteps := 1000000) only [sim, sik, sil, sit, simprocAttr, Int.cast_ofNat_Int, List.take_length, List.length_map, List.contains_cons, List.contains_nil, a15, a15r0_ev, a15r1_ev, hrd, hrc, hcells, hv, ho, hr3, hs3, fz_fAs7]
theorem cyc_loop (c : List Cel) (k : Int) (K R' N : Nat) (B : List (List Int)) (hc : c.length < 2147483647) (hB : B.length = K) (hK : K < 2147483647) (hw : ∀ i, i < K → (B.getD i []).length < 2147483647)
    (hb : ∀ i, i < K → ∀ y ∈ B.getD i [], y.natAbs ≤ N) (hN : ∀ i, i < K → N * ((B.getD i []).length + 1) < BIG) : ∀ (n i : Nat) (out : List (List (Int × Int))), K = i + n → out.length = i →
    run E GP a121l0 { vars := [.isl (c.map cA), .int .i64 k, .isl [], .sl 0 out.length 1 0 out.length, .int .i64 i, .bool false, .u, MI K R' B], heap := [.arr out.length 1 (out.map chA)], rs := false } =
      some (.exit 0, { vars := [.isl (c.map cA), .int .i64 k, .isl [], .sl 0 (out ++ cycOf c k (B.drop i)).length 1 0 (out ++ cycOf c k (B.drop i)).length, .int .i64 K, .bool false, .bool false, MI K R' B], heap := [.arr (out ++ cycOf c k (B.drop i)).length 1 ((out ++ cycOf c k (B.drop i)).map chA)], rs := false }) := by
  intro n
  induction n with
  | zero =>
    intro i out h ho
    have hi : i = K := by omega
    subst hi
    have k1 : ¬ (i : Int) < (i : Int) := by omega
    have e : out ++ cycOf c k (B.drop i) = out := by rw [List.drop_of_length_le (by omega)]; simp [cycOf]
    rw [e, a121l0_run]
    unfold MI
    simp (maxSteps := 1000000) only [sim, sik, sil, sit, simprocAttr, Int.cast_ofNat_Int, List.take_length, List.length_map, List.contains_cons, List.contains_nil, a121b0, a121r6_ev, k1]
  | succ n ih =>
    intro i out h ho
    have hi : i < K := by omega
    have k1 : (i : Int) < (K : Int) := by omega
    have wi : IntKind.i64.wrap ((i : Int) + 1) = ((i + 1 : Nat) : Int) := i64a (by omega)
    have hm : out.length + 1 ≤ 4294967296 := by omega
    have g1 := rowsI_get (A := B) (i := i) (by omega)
    have hof := fun H => r26_of hE c k (B.getD i []) N hc (hw i hi) (hb i hi) (hN i hi) H
    have hd : B.drop i = B.getD i [] :: B.drop (i + 1) := by
      rw [List.drop_eq_getElem_cons (by omega)]; simp [List.getD, show i < B.length by omega]
    have e : out ++ cycOf c k (B.drop i) = (out ++ [(chain26 c k (B.getD i [])).1]) ++ cycOf c k (B.drop (i + 1)) := by
      rw [hd]; simp [cycOf]
    rw [e, ← ih (i + 1) (out ++ [(chain26 c k (B.getD i [])).1]) (by omega) (by simp; omega)]
    generalize (chain26 c k (B.getD i [])).1 = z at *
    have el : (out ++ [z]).length = out.length + 1 := by simp
    have em : (out ++ [z]).map chA = out.map chA ++ [.isl (z.map fA)] := by simp [chA]
    rw [el, em]
    have hrB := refs_rowsI B
    have hrc := refs_cA c
    have hrz := refs_fA z
    unfold MI
    conv => lhs; rw [a121l0_run]
    simp (maxSteps := 1000000) only [sim, sik, sil, sit, simprocAttr, Int.cast_ofNat_Int, List.take_length, List.length_map, List.contains_cons, List.contains_nil, a121b0, a121r6_ev, a121r7_ev, a121r8_ev, k1, wi, g1, hof, hm, hrB, hrc, hrz, maxLenA]
theorem r26_cycles (c : List Cel) (k : Int) (K R' N : Nat) (B : List (List Int)) (hc : c.length < 2147483647) (hcb : ∀ x ∈ c, x.b.length < 2147483648) (hB : B.length = K) (hK : K < 2147483647) (hw : ∀ i, i < K → (B.getD i []).length < 2147483647)
    (hb : ∀ i, i < K → ∀ y ∈ B.getD i [], y.natAbs ≤ N) (hN : ∀ i, i < K → N * ((B.getD i []).length + 1) < BIG)
    (hl : 0 ≤ k → ∀ H, call E GP 62 [MI (cellsC c k).length (cellsC c (IntKind.i64.wrap (k - 1))).length (bndC c k)] H = some (MI K R' B, H, false)) (H : Heap) :
    call E GP 121 [.isl (c.map cA), .int .i64 k] H = some (.isl ((if k < 0 then [] else cycOf c k B).map chA), H, false) := by
  rw [call_fun (hE _ _ _ (by decide)) (f := a121) rfl rfl]
  have hrc := refs_cA c
  by_cases h0 : k < 0
  · rw [if_pos h0]
    simp (maxSteps := 1000000) only [sim, sik, sil, sit, simprocAttr, Int.cast_ofNat_Int, List.take_length, List.length_map, List.contains_cons, List.contains_nil, a121, a121r0_ev, a121r1_ev, a121r2_ev, a121r3_ev, hrc, h0, List.map_nil]
  · rw [if_neg h0]
    have hl := hl (by omega)
    have hbd := fun H => r25_boundary hE c (by omega) hcb k H
    have h1 := cyc_loop hE c k K R' N B hc hB hK hw hb hN K 0 [] (by omega) rfl
    rw [List.drop_zero, List.nil_append] at h1
    simp only [Int.ofNat_zero, List.length_nil, List.map_nil] at h1
    have hr3 := refs_chA (cycOf c k B)
    have hs3 := solids_chA (cycOf c k B)
    have hz3 := fun n H => fz_chA n H 3 (cycOf c k B)
    have htk : List.take (cycOf c k B).length ((cycOf c k B).map chA) = (cycOf c k B).map chA := List.take_of_length_le (by simp)
    generalize cycOf c k B = L at *
    have hrB := refs_rowsI
    have hsB := solids_rowsI
    unfold MI at *
    simp (maxSteps := 1000000) only [sim, sik, sil, sit, simprocAttr, Int.cast_ofNat_Int, List.take_length, List.length_map, List.contains_cons, List.contains_nil, a121, a121r0_ev, a121r1_ev, a121r2_ev, a121r4_ev, a121r5_ev, a121r9_ev, hrc, h0, hl, hbd, h1, hrB, hsB, hr3, hs3, hz3, htk]
end Tor
namespace Tor
open Go
structure Dg where
  a : Int
  b : Int
  c : Int
  d : Int
def Dg.ok (x : Dg) : Prop := (-128 ≤ x.a ∧ x.a ≤ 127) ∧ (-128 ≤ x.b ∧ x.b ≤ 127) ∧ (-128 ≤ x.c ∧ x.c ≤ 127) ∧ (-128 ≤ x.d ∧ x.d ≤ 127)
def gA (x : Dg) : AV := .agg [.int .i8 x.a, .int .i8 x.b, .int .i8 x.c, .int .i8 x.d]
def Dg.cs (x : Dg) : List Int := [x.b.tmod 4, x.c.tmod 4, x.d.tmod 4]
def gB (L : List (List (Int × Int))) (e : List Int) : List (Int × Int) := (L.zip e).foldl (fun b p => add26 b p.1 p.2) []
def gDim (x : Dg) : Int := (IntKind.u8.wrap x.a).tmod 4
def gId (c : List Cel) (x : Dg) : Int := if c.length = 0 then 1 else (c.getD (c.length - 1) zC).id + 1 + (IntKind.u8.wrap x.a).tdiv 128
def grown (c : List Cel) (x : Dg) (L : List (List (Int × Int))) : List Cel := c ++ [⟨gId c x, gDim x, gB L x.cs⟩]
theorem u8w (n : Int) : 0 ≤ IntKind.u8.wrap n ∧ IntKind.u8.wrap n ≤ 255 := by
  simp [IntKind.wrap, IntKind.bits, IntKind.signed]; omega
theorem u8id {n : Int} (h : 0 ≤ n ∧ n ≤ 255) : IntKind.u8.wrap n = n := by
  simp [IntKind.wrap, IntKind.bits, IntKind.signed]; omega
def gst (c : List Cel) (x : Dg) (L : List (List (Int × Int))) (dim : Int) (b : List (Int × Int)) (i : Int) (w10 : AV) : St :=
  { vars := [.isl (c.map cA), gA x, .ptr 0 0 [], .isl [], .int .i64 dim, .isl (b.map fA), .int .i64 1, .isl (L.map chA), .int .i64 i, .u, w10, .u], heap := [.var (gA x)], rs := false }
variable {E : CallF} (hE : Free E)
include hE
theorem grow_step0 (c : List Cel) (x : Dg) (hx : x.ok) (L : List (List (Int × Int))) (dim : Int) (b : List (Int × Int)) (hi : 0 < L.length) (hL : L.length < 2147483648)
    (hadd : ∀ H, call E GP 16 [.isl (b.map fA), .isl ((L.getD 0 []).map fA), Z (x.b.tmod 4)] H = some (.isl ((add26 b (L.getD 0 []) (x.b.tmod 4)).map fA), H, false)) :
    run E GP a28l0 (gst c x L dim b 0 .u) = run E GP a28l0 (gst c x L dim (add26 b (L.getD 0 []) (x.b.tmod 4)) 1 .u) := by
  have k1 : (0 : Int) < (L.length : Int) := by omega
  have g1 := chA_get hi
  have hok := hx
  obtain ⟨h0, h1, h2, h3⟩ := hok
  have t1 := Int.tmod_lt_of_pos x.b (show (0 : Int) < 4 by omega)
  have t2 := Int.lt_tmod_of_pos x.b (show (0 : Int) < 4 by omega)
  have wt : IntKind.i64.wrap (x.b.tmod 4) = x.b.tmod 4 := i64w (by omega)
  have h14 := fun H => r1_of hE (x.b.tmod 4) H (by omega) (by omega)
  have w1 : IntKind.i64.wrap 1 = 1 := by decide
  generalize add26 b (L.getD 0 []) (x.b.tmod 4) = b' at *
  generalize L.getD 0 [] = l at *
  have r1 := refs_fA b
  have r2 := refs_fA b'
  have r3 := refs_chA L
  have r4 := refs_cA c
  unfold gst gA
  conv => lhs; rw [a28l0_run]
  simp (maxSteps := 1000000) only [sim, sik, sil, sit, simprocAttr, Int.cast_ofNat_Int, List.take_length, List.length_map, List.contains_cons, List.contains_nil, a28b0, a28r4_ev, a28r5_ev, a28r6_ev, k1, g1, wt, w1, h14, hadd, r1, r2, r3, r4]
theorem grow_step1 (c : List Cel) (x : Dg) (hx : x.ok) (L : List (List (Int × Int))) (dim : Int) (b : List (Int × Int)) (hi : 1 < L.length) (hL : L.length < 2147483648)
    (hadd : ∀ H, call E GP 16 [.isl (b.map fA), .isl ((L.getD 1 []).map fA), Z (x.c.tmod 4)] H = some (.isl ((add26 b (L.getD 1 []) (x.c.tmod 4)).map fA), H, false)) :
    run E GP a28l0 (gst c x L dim b 1 .u) = run E GP a28l0 (gst c x L dim (add26 b (L.getD 1 []) (x.c.tmod 4)) 2 .u) := by
  have k1 : (1 : Int) < (L.length : Int) := by omega
  have g1 := chA_get hi
  have hok := hx
  obtain ⟨h0, h1, h2, h3⟩ := hok
  have t1 := Int.tmod_lt_of_pos x.c (show (0 : Int) < 4 by omega)
  have t2 := Int.lt_tmod_of_pos x.c (show (0 : Int) < 4 by omega)
  have wt : IntKind.i64.wrap (x.c.tmod 4) = x.c.tmod 4 := i64w (by omega)
  have h14 := fun H => r1_of hE (x.c.tmod 4) H (by omega) (by omega)
  have w1 : IntKind.i64.wrap 2 = 2 := by decide
  generalize add26 b (L.getD 1 []) (x.c.tmod 4) = b' at *
  generalize L.getD 1 [] = l at *
  have r1 := refs_fA b
  have r2 := refs_fA b'
  have r3 := refs_chA L
  have r4 := refs_cA c
  unfold gst gA
  conv => lhs; rw [a28l0_run]
  simp (maxSteps := 1000000) only [sim, sik, sil, sit, simprocAttr, Int.cast_ofNat_Int, List.take_length, List.length_map, List.contains_cons, List.contains_nil, a28b0, a28r4_ev, a28r5_ev, a28r6_ev, k1, g1, wt, w1, h14, hadd, r1, r2, r3, r4]
theorem grow_step2 (c : List Cel) (x : Dg) (hx : x.ok) (L : List (List (Int × Int))) (dim : Int) (b : List (Int × Int)) (hi : 2 < L.length) (hL : L.length < 2147483648)
    (hadd : ∀ H, call E GP 16 [.isl (b.map fA), .isl ((L.getD 2 []).map fA), Z (x.d.tmod 4)] H = some (.isl ((add26 b (L.getD 2 []) (x.d.tmod 4)).map fA), H, false)) :
    run E GP a28l0 (gst c x L dim b 2 .u) = run E GP a28l0 (gst c x L dim (add26 b (L.getD 2 []) (x.d.tmod 4)) 3 .u) := by
  have k1 : (2 : Int) < (L.length : Int) := by omega
  have g1 := chA_get hi
  have hok := hx
  obtain ⟨h0, h1, h2, h3⟩ := hok
  have t1 := Int.tmod_lt_of_pos x.d (show (0 : Int) < 4 by omega)
  have t2 := Int.lt_tmod_of_pos x.d (show (0 : Int) < 4 by omega)
  have wt : IntKind.i64.wrap (x.d.tmod 4) = x.d.tmod 4 := i64w (by omega)
  have h14 := fun H => r1_of hE (x.d.tmod 4) H (by omega) (by omega)
  have w1 : IntKind.i64.wrap 3 = 3 := by decide
  generalize add26 b (L.getD 2 []) (x.d.tmod 4) = b' at *
  generalize L.getD 2 [] = l at *
  have r1 := refs_fA b
  have r2 := refs_fA b'
  have r3 := refs_chA L
  have r4 := refs_cA c
  unfold gst gA
  conv => lhs; rw [a28l0_run]
  simp (maxSteps := 1000000) only [sim, sik, sil, sit, simprocAttr, Int.cast_ofNat_Int, List.take_length, List.length_map, List.contains_cons, List.contains_nil, a28b0, a28r4_ev, a28r5_ev, a28r6_ev, k1, g1, wt, w1, h14, hadd, r1, r2, r3, r4]
theorem grow_end (c : List Cel) (x : Dg) (L : List (List (Int × Int))) (dim : Int) (b : List (Int × Int)) (i : Nat) (hi : L.length ≤ i ∨ i = 3) (hi3 : i ≤ 3) :
    run E GP a28l0 (gst c x L dim b i .u) = some (.exit 0, gst c x L dim b i (.bool false)) := by
  unfold gst gA
  rw [a28l0_run]
  by_cases h : L.length ≤ i
  · have k1 : ¬ (i : Int) < (L.length : Int) := by omega
    simp (maxSteps := 1000000) only [sim, sik, sil, sit, simprocAttr, Int.cast_ofNat_Int, List.take_length, List.length_map, List.contains_cons, List.contains_nil, a28b0, a28r4_ev, k1]
  · have e : i = 3 := by omega
    subst e
    have k1 : (3 : Int) < (L.length : Int) := by omega
    simp (maxSteps := 1000000) only [sim, sik, sil, sit, simprocAttr, Int.cast_ofNat_Int, List.take_length, List.length_map, List.contains_cons, List.contains_nil, a28b0, a28r4_ev, k1]
theorem r26_grown (c : List Cel) (x : Dg) (hx : x.ok) (L : List (List (Int × Int))) (N Lc : Nat) (hc : c.length < 2147483647) (hid : ∀ y ∈ c, -1000000000 ≤ y.id ∧ y.id ≤ 1000000000) (hL : L.length < 2147483648)
    (hcyc : ∀ H, call E GP 121 [.isl (c.map cA), .int .i64 (gDim x - 1)] H = some (.isl (L.map chA), H, false))
    (hN : ∀ l ∈ L, Bd N l ∧ l.length ≤ Lc) (hbig : 12 * N * (Lc + 1) < BIG) (hLc : Lc < 100000) (H : Heap) :
    call E GP 28 [.isl (c.map cA), gA x] H = some (.isl ((grown c x L).map cA), H, false) := by
  rw [call_fun (hE _ _ _ (by decide)) (f := a28) rfl rfl]
  have hadd : ∀ (b l : List (Int × Int)) (e : Int) (i : Nat), l ∈ L → i ≤ 3 → -3 ≤ e → e ≤ 3 → Bd (3 * N * Lc * i) b → b.length ≤ Lc * i →
      (∀ H, call E GP 16 [.isl (b.map fA), .isl (l.map fA), Z e] H = some (.isl ((add26 b l e).map fA), H, false)) ∧ Bd (3 * N * Lc * (i + 1)) (add26 b l e) ∧ (add26 b l e).length ≤ Lc * (i + 1) := by
    intro b l e i hl hi he1 he2 hb hbl
    obtain ⟨n1, n2⟩ := hN l hl
    have hp : ∀ p ∈ l, (e * p.2).natAbs ≤ 3 * N := fun p hp => by
      rw [Int.natAbs_mul]; exact Nat.mul_le_mul (by omega) (n1 p hp)
    have m1 : 3 * N * Lc * i ≤ 3 * N * Lc * 3 := Nat.mul_le_mul_left _ hi
    have m2 : 3 * N * (l.length + 1) ≤ 3 * N * (Lc + 1) := Nat.mul_le_mul_left _ (by omega)
    have m3 : 3 * N * Lc * 3 + 3 * N * (Lc + 1) ≤ 12 * N * (Lc + 1) := by
      have e1 : 3 * N * Lc * 3 = 9 * (N * Lc) := by rw [Nat.mul_assoc 3 N Lc]; omega
      have e2 : 3 * N * (Lc + 1) = 3 * (N * Lc) + 3 * N := by rw [Nat.mul_assoc, Nat.mul_add, Nat.mul_one, Nat.mul_add]
      have e3 : 12 * N * (Lc + 1) = 12 * (N * Lc) + 12 * N := by rw [Nat.mul_assoc, Nat.mul_add, Nat.mul_one, Nat.mul_add]
      omega
    have m4 : Lc * i ≤ Lc * 3 := Nat.mul_le_mul_left _ hi
    have hNb : N < BIG := by
      have : N ≤ 12 * N * (Lc + 1) := Nat.le_trans (show N ≤ 12 * N by omega) (Nat.le_mul_of_pos_right _ (by omega))
      omega
    have hab := add_bd e l b (3 * N * Lc * i) hp hb
    have mm : 3 * N * l.length ≤ 3 * N * Lc := Nat.mul_le_mul_left _ n2
    refine ⟨fun H => r26_add hE b l e (3 * N * Lc * i) (3 * N) hb (sm_of (N := 3) (Nat.lt_of_lt_of_le (by decide) big_le) (by simp only; omega)) (fun p hp => sm_of hNb (n1 p hp)) hp (by omega) (by omega) (by omega) H, ?_, ?_⟩
    · refine bd_mono ?_ hab.1
      rw [Nat.mul_succ]; omega
    · have := hab.2
      rw [Nat.mul_succ]; omega
  obtain ⟨h0, h1, h2, h3⟩ := id hx
  have ts : ∀ y : Int, -3 ≤ y.tmod 4 ∧ y.tmod 4 ≤ 3 := fun y => by
    have t1 := Int.tmod_lt_of_pos y (show (0 : Int) < 4 by omega)
    have t2 := Int.lt_tmod_of_pos y (show (0 : Int) < 4 by omega)
    omega
  have b0 : Bd (3 * N * Lc * 0) [] := fun p hp => by cases hp
  have loop : ∃ i : Nat, run E GP a28l0 (gst c x L (gDim x) [] 0 .u) = some (.exit 0, gst c x L (gDim x) (gB L x.cs) i (.bool false)) := by
    unfold gB Dg.cs
    match hLL : L, hL, hN, hadd with
    | [], hL, hN, hadd => exact ⟨0, grow_end hE c x [] (gDim x) [] 0 (.inl (Nat.le_refl _)) (by omega)⟩
    | [l1], hL, hN, hadd =>
      obtain ⟨a1, a2, a3⟩ := hadd [] l1 (x.b.tmod 4) 0 (.head _) (by omega) (ts _).1 (ts _).2 b0 (Nat.zero_le _)
      rw [grow_step0 hE c x hx [l1] (gDim x) [] (by simp) hL a1]
      exact ⟨1, grow_end hE c x [l1] (gDim x) _ 1 (.inl (Nat.le_refl _)) (by omega)⟩
    | [l1, l2], hL, hN, hadd =>
      obtain ⟨a1, a2, a3⟩ := hadd [] l1 (x.b.tmod 4) 0 (.head _) (by omega) (ts _).1 (ts _).2 b0 (Nat.zero_le _)
      obtain ⟨c1, c2, c3⟩ := hadd (add26 [] l1 (x.b.tmod 4)) l2 (x.c.tmod 4) 1 (.tail _ (.head _)) (by omega) (ts _).1 (ts _).2 a2 a3
      rw [grow_step0 hE c x hx [l1, l2] (gDim x) [] (by simp) hL a1]
      refine ⟨2, ?_⟩
      have := grow_step1 hE c x hx [l1, l2] (gDim x) (add26 [] l1 (x.b.tmod 4)) (by simp) hL c1
      exact this.trans (grow_end hE c x [l1, l2] (gDim x) _ 2 (.inl (Nat.le_refl _)) (by omega))
    | l1 :: l2 :: l3 :: r, hL, hN, hadd =>
      obtain ⟨a1, a2, a3⟩ := hadd [] l1 (x.b.tmod 4) 0 (.head _) (by omega) (ts _).1 (ts _).2 b0 (Nat.zero_le _)
      obtain ⟨c1, c2, c3⟩ := hadd (add26 [] l1 (x.b.tmod 4)) l2 (x.c.tmod 4) 1 (.tail _ (.head _)) (by omega) (ts _).1 (ts _).2 a2 a3
      obtain ⟨d1, d2, d3⟩ := hadd (add26 (add26 [] l1 (x.b.tmod 4)) l2 (x.c.tmod 4)) l3 (x.d.tmod 4) 2 (.tail _ (.tail _ (.head _))) (by omega) (ts _).1 (ts _).2 c2 c3
      rw [grow_step0 hE c x hx (l1 :: l2 :: l3 :: r) (gDim x) [] (by simp) hL a1]
      refine ⟨3, ?_⟩
      have e1 := grow_step1 hE c x hx (l1 :: l2 :: l3 :: r) (gDim x) (add26 [] l1 (x.b.tmod 4)) (by simp) hL c1
      have e2 := grow_step2 hE c x hx (l1 :: l2 :: l3 :: r) (gDim x) (add26 (add26 [] l1 (x.b.tmod 4)) l2 (x.c.tmod 4)) (by simp) hL d1
      exact e1.trans (e2.trans (by simpa using grow_end hE c x (l1 :: l2 :: l3 :: r) (gDim x) _ 3 (.inr rfl) (by omega)))
  obtain ⟨i, hl⟩ := loop
  have hu := u8w x.a
  have td1 := Int.tmod_lt_of_pos (IntKind.u8.wrap x.a) (show (0 : Int) < 4 by omega)
  have td2 := Int.tmod_nonneg 4 hu.1
  have wd : IntKind.i64.wrap ((IntKind.u8.wrap x.a).tmod 4) = gDim x := i64w (by omega)
  have wd1 : IntKind.i64.wrap (gDim x - 1) = gDim x - 1 := i64w (by unfold gDim; omega)
  have hr1 := refs_cA c
  have hs1 := solids_cA c
  have hr2 := refs_chA L
  have hr3 := refs_fA (gB L x.cs)
  have hs3 := solids_fA (gB L x.cs)
  have hk := gB L x.cs
  unfold grown gId
  rw [List.map_append]
  generalize gB L x.cs = gb at *
  have hz1 : ∀ n H, (c.map cA).map (fz n H 7) = c.map cA := fun n H => by
    rw [List.map_map]; apply List.map_congr_left; intro y _; exact fz_cA n H 1 y
  have hsz : headSize 3 (c.map cA) = true := by cases c <;> rfl
  unfold gst gA at hl
  simp only [List.map_nil] at hl
  by_cases h0 : c.length = 0
  · have hc0 : c = [] := List.length_eq_zero_iff.1 h0
    rw [if_pos h0]
    subst hc0
    have hg : ¬ ((0 : Int) > 0) := by omega
    simp only [List.map_nil, List.map_cons, List.nil_append, cA] at hl hcyc ⊢
    unfold gA
    simp (maxSteps := 1000000) only [sim, sik, sil, sit, simprocAttr, Int.cast_ofNat_Int, List.take_length, List.length_map, List.contains_cons, List.contains_nil, doBox, a28, a28r0_ev, a28r1_ev, a28r2_ev, a28r3_ev, a28r7_ev, a28r9_ev, a28r10_ev, hr1, hr2, hr3, hs3, hcyc, hl, wd, wd1, List.length_nil, maxLenA, List.nil_append, fz_fAs7, List.map_nil, fz_fAs]
  · rw [if_neg h0]
    have hg : (c.length : Int) > 0 := by omega
    have hlt : c.length - 1 < c.length := by omega
    have hgl := cA_get hlt
    have hidl := hid _ (List.getElem_mem hlt)
    have egd : c.getD (c.length - 1) zC = c[c.length - 1] := by simp [List.getD, hlt]
    rw [egd]
    have wl : IntKind.i64.wrap ((c.length : Int) - 1) = ((c.length - 1 : Nat) : Int) := by rw [i64w (by omega)]; omega
    generalize c[c.length - 1] = last at *
    have hq1 := Int.tdiv_nonneg hu.1 (show (0 : Int) ≤ 128 by omega)
    have hq2 : (IntKind.u8.wrap x.a).tdiv 128 ≤ 1 := by
      rw [Int.tdiv_eq_ediv_of_nonneg hu.1]; omega
    have w2 : IntKind.u8.wrap ((IntKind.u8.wrap x.a).tdiv 128) = (IntKind.u8.wrap x.a).tdiv 128 := u8id (by omega)
    have w3 : IntKind.i64.wrap ((IntKind.u8.wrap x.a).tdiv 128) = (IntKind.u8.wrap x.a).tdiv 128 := i64w (by omega)
    have w4 : IntKind.i64.wrap (last.id + 1) = last.id + 1 := i64w (by omega)
    have w5 : IntKind.i64.wrap (last.id + 1 + (IntKind.u8.wrap x.a).tdiv 128) = last.id + 1 + (IntKind.u8.wrap x.a).tdiv 128 := i64w (by omega)
    have hm1 : c.length ≤ 4294967296 := by omega
    have hm2 : c.length + 1 ≤ 4294967296 := by omega
    have hW : ∃ W : List AV, W = c.map cA ++ [⟨last.id + 1 + (IntKind.u8.wrap x.a).tdiv 128, gDim x, gb⟩].map cA ∧ W.length = c.length + 1 ∧ AV.hasRefs W = false ∧ AV.solids W = true ∧ ∀ n H, W.map (fz n H 7) = W := by
      refine ⟨_, rfl, by simp, ?_, ?_, fun n H => ?_⟩
      · rw [← List.map_append]; exact refs_cA _
      · rw [← List.map_append]; exact solids_cA _
      · rw [← List.map_append, List.map_map]; apply List.map_congr_left; intro y _; exact fz_cA n H 1 y
    obtain ⟨W, hW, hW1, hW2, hW3, hW4⟩ := hW
    rw [← hW]
    simp only [List.map_cons, List.map_nil, cA] at hW
    have hWl : c.length + 1 ≤ W.length := by omega
    have hWt : List.take (c.length + 1) W = W := List.take_of_length_le (by omega)
    unfold gA
    simp (maxSteps := 1000000) only [← hW, hWl, hWt, hW2, hW3, hW4, sim, sik, sil, sit, simprocAttr, Int.cast_ofNat_Int, List.take_length, List.length_map, List.contains_cons, List.contains_nil, doBox, a28, a28r0_ev, a28r1_ev, a28r2_ev, a28r3_ev, a28r7_ev, a28r8_ev, a28r9_ev, a28r10_ev, hr1, hs1, hr2, hr3, hs3, hcyc, hl, wd, wd1, hg, hgl, wl, w2, w3, w4, w5, hm1, hm2, hsz, hz1, maxLenA, List.nil_append, fz_fAs7, List.map_nil, List.map_cons, cA]
end Tor
namespace Tor
open Go
def Sha (R C : Nat) (M : List (List Int)) : Prop := M.length = R ∧ ∀ i, i < R → (M.getD i []).length = C
theorem at2_out {R C : Nat} {M : List (List Int)} (h : Sha R C M) {i t : Nat} (ho : R ≤ i ∨ C ≤ t) : at2 M i t = 0 := by
  unfold at2
  rcases Nat.lt_or_ge i R with hi | hi
  · have hw := h.2 i hi
    have ht : C ≤ t := by omega
    rw [List.getD, List.getElem?_eq_none (by omega)]; rfl
  · have : M.getD i [] = [] := by rw [List.getD, List.getElem?_eq_none (by rw [h.1]; exact hi)]; rfl
    rw [this]; rfl
theorem shp_set {R C : Nat} {M : List (List Int)} (h : Sha R C M) (i : Nat) {r : List Int} (hr : r.length = C) : Sha R C (M.set i r) := by
  refine ⟨by simp [h.1], fun j hj => ?_⟩
  by_cases hij : i = j
  · subst hij; rw [gets_self _ _ _ _ (by rw [h.1]; exact hj)]; exact hr
  · rw [gets_ne _ _ _ _ _ hij]; exact h.2 j hj
theorem shp_map {R C : Nat} {M : List (List Int)} (h : Sha R C M) (f : List Int → List Int) (hf : ∀ x, (f x).length = x.length) : Sha R C (M.map f) := by
  refine ⟨by simp [h.1], fun j hj => ?_⟩
  have hl : j < M.length := by rw [h.1]; exact hj
  have := h.2 j hj
  simp only [List.getD, List.getElem?_map, List.getElem?_eq_getElem hl, Option.map_some, Option.getD_some] at this ⊢
  rw [hf]; exact this
theorem getD_map' {M : List (List Int)} (f : List Int → List Int) (hf : f [] = []) (i : Nat) : (M.map f).getD i [] = f (M.getD i []) := by
  simp only [List.getD, List.getElem?_map]
  cases M[i]? with
  | none => simp [hf]
  | some x => rfl
theorem shp_addRow {R C : Nat} {M : List (List Int)} (h : Sha R C M) {i j : Nat} (hi : i < R) (hj : j < R) (k : Int) : Sha R C (addRow M i j k) :=
  shp_set h i (by rw [List.length_zipWith, h.2 i hi, h.2 j hj, Nat.min_self])
theorem shp_swap {R C : Nat} {M : List (List Int)} (h : Sha R C M) {i j : Nat} (hi : i < R) (hj : j < R) : Sha R C (swapL [] M i j) :=
  shp_set (shp_set h i (h.2 j hj)) j (h.2 i hi)
theorem shp_neg {R C : Nat} {M : List (List Int)} (h : Sha R C M) {i : Nat} (hi : i < R) : Sha R C (negRow M i) :=
  shp_set h i (by rw [List.length_map]; exact h.2 i hi)
theorem shp_subCol {R C : Nat} {M : List (List Int)} (h : Sha R C M) (i j : Nat) (k : Int) : Sha R C (subCol M i j k) := shp_map h _ (by simp)
theorem shp_swapCol {R C : Nat} {M : List (List Int)} (h : Sha R C M) (i j : Nat) : Sha R C (swapCol M i j) := shp_map h _ (fun x => swapL_len 0 x i j)
theorem shp_negCol {R C : Nat} {M : List (List Int)} (h : Sha R C M) (i : Nat) : Sha R C (negColA M i) := shp_map h _ (by simp)
theorem at2_addRow {R C : Nat} {M : List (List Int)} (h : Sha R C M) {i j : Nat} (hi : i < R) (hj : j < R) (k : Int) (a t : Nat) :
    at2 (addRow M i j k) a t = if a = i then at2 M i t + k * at2 M j t else at2 M a t := by
  split
  · rename_i ha
    subst ha
    rcases Nat.lt_or_ge t C with ht | ht
    · exact addRow_same k (by rw [h.1]; exact hi) (by rw [h.2 a hi]; exact ht) (by rw [h.2 j hj]; exact ht)
    · rw [at2_out (shp_addRow h hi hj k) (.inr ht), at2_out h (.inr ht), at2_out h (.inr ht)]; simp
  · rename_i ha
    unfold at2; rw [addRow_other k ha]
def sw (i j a : Nat) : Nat := if a = j then i else if a = i then j else a
theorem at2_swap {R C : Nat} {M : List (List Int)} (h : Sha R C M) {i j : Nat} (hi : i < R) (hj : j < R) (a t : Nat) : at2 (swapL [] M i j) a t = at2 M (sw i j a) t := by
  unfold at2 sw; rw [swapL_get [] M i j a (by rw [h.1]; exact hi) (by rw [h.1]; exact hj)]
theorem at2_neg {R C : Nat} {M : List (List Int)} (h : Sha R C M) {i : Nat} (hi : i < R) (a t : Nat) : at2 (negRow M i) a t = if a = i then -at2 M i t else at2 M a t := by
  unfold at2 negRow
  split
  · rename_i ha
    subst ha
    rw [gets_self _ _ _ _ (by rw [h.1]; exact hi)]
    simp only [List.getD, List.getElem?_map]
    cases (M[a]?.getD [])[t]? <;> simp
  · rename_i ha
    rw [gets_ne _ _ _ _ _ (fun e => ha e.symm)]
theorem at2_subCol {R C : Nat} {M : List (List Int)} (h : Sha R C M) {i j : Nat} (hj : j < C) (k : Int) (a t : Nat) :
    at2 (subCol M i j k) a t = if t = j then at2 M a j - k * at2 M a i else at2 M a t := by
  unfold at2 subCol
  rcases Nat.lt_or_ge a R with ha | ha
  · have hl : a < M.length := by rw [h.1]; exact ha
    have hw := h.2 a ha
    have e : (M.map fun x => x.set j (x.getD j 0 - k * x.getD i 0)).getD a [] = (M.getD a []).set j ((M.getD a []).getD j 0 - k * (M.getD a []).getD i 0) := by
      simp [List.getD, List.getElem?_map, List.getElem?_eq_getElem hl]
    rw [e]
    generalize M.getD a [] = x at *
    split
    · rename_i ht; subst ht; rw [gets_self _ _ _ _ (by omega)]
    · rename_i ht; rw [gets_ne _ _ _ _ _ (fun e => ht e.symm)]
  · have e1 : M.getD a [] = [] := by rw [List.getD, List.getElem?_eq_none (by rw [h.1]; exact ha)]; rfl
    have e2 : (M.map fun x => x.set j (x.getD j 0 - k * x.getD i 0)).getD a [] = [] := by rw [List.getD, List.getElem?_eq_none (by rw [List.length_map, h.1]; exact ha)]; rfl
    rw [e1, e2]; simp [List.getD]
theorem at2_swapCol {R C : Nat} {M : List (List Int)} (h : Sha R C M) {i j : Nat} (hi : i < C) (hj : j < C) (a t : Nat) : at2 (swapCol M i j) a t = at2 M a (sw i j t) := by
  unfold at2 swapCol sw
  rcases Nat.lt_or_ge a R with ha | ha
  · have hl : a < M.length := by rw [h.1]; exact ha
    have hw := h.2 a ha
    have e : (M.map fun x => swapL 0 x i j).getD a [] = swapL 0 (M.getD a []) i j := by simp [List.getD, List.getElem?_map, List.getElem?_eq_getElem hl]
    rw [e, swapL_get 0 _ i j t (by omega) (by omega)]
  · have e1 : M.getD a [] = [] := by rw [List.getD, List.getElem?_eq_none (by rw [h.1]; exact ha)]; rfl
    have e2 : (M.map fun x => swapL 0 x i j).getD a [] = [] := by rw [List.getD, List.getElem?_eq_none (by rw [List.length_map, h.1]; exact ha)]; rfl
    rw [e1, e2]; simp [List.getD]
theorem at2_negCol {R C : Nat} {M : List (List Int)} (h : Sha R C M) {i : Nat} (hi : i < C) (a t : Nat) : at2 (negColA M i) a t = if t = i then -at2 M a i else at2 M a t := by
  unfold at2 negColA
  rcases Nat.lt_or_ge a R with ha | ha
  · have hl : a < M.length := by rw [h.1]; exact ha
    have hw := h.2 a ha
    have e : (M.map fun x => x.set i (-x.getD i 0)).getD a [] = (M.getD a []).set i (-(M.getD a []).getD i 0) := by
      simp [List.getD, List.getElem?_map, List.getElem?_eq_getElem hl]
    rw [e]
    generalize M.getD a [] = x at *
    split
    · rename_i ht; subst ht; rw [gets_self _ _ _ _ (by omega)]
    · rename_i ht; rw [gets_ne _ _ _ _ _ (fun e => ht e.symm)]
  · have e1 : M.getD a [] = [] := by rw [List.getD, List.getElem?_eq_none (by rw [h.1]; exact ha)]; rfl
    have e2 : (M.map fun x => x.set i (-x.getD i 0)).getD a [] = [] := by rw [List.getD, List.getElem?_eq_none (by rw [List.length_map, h.1]; exact ha)]; rfl
    rw [e1, e2]; simp [List.getD]
theorem euc_w {t y fl : Int} {m p q : Nat} (hy : y ≠ 0) (hf : fl = t / y) (hq : 1 ≤ q) :
    (p + fl.natAbs * q) * y.natAbs + q * (t % y).natAbs ≤ p * y.natAbs + q * t.natAbs + 2 * (q * (t % y).natAbs) ∧
    (0 ≤ t → 0 ≤ y → (p + fl.natAbs * q) * y.natAbs + q * (t % y).natAbs = p * y.natAbs + q * t.natAbs) := by
  have e := Int.emod_add_mul_ediv t y
  have n0 := Int.emod_nonneg t hy
  have e1 : (p + fl.natAbs * q) * y.natAbs = p * y.natAbs + q * (fl.natAbs * y.natAbs) := by
    rw [Nat.add_mul, Nat.mul_comm fl.natAbs q, Nat.mul_assoc]
  have e2 : fl.natAbs * y.natAbs = (y * (t / y)).natAbs := by rw [hf, Int.natAbs_mul, Nat.mul_comm]
  generalize hw : y * (t / y) = w at *
  generalize t % y = r at *
  rw [e1, e2]
  constructor
  · have : w.natAbs ≤ t.natAbs + r.natAbs := by omega
    have := Nat.mul_le_mul_left q this
    rw [Nat.mul_add] at this; omega
  · intro h1 h2
    have hwn : 0 ≤ w := by rw [← hw]; exact Int.mul_nonneg h2 (Int.ediv_nonneg h1 h2)
    have : w.natAbs + r.natAbs = t.natAbs := by omega
    have h3 : q * (w.natAbs + r.natAbs) = q * t.natAbs := by rw [this]
    rw [Nat.mul_add] at h3; omega
end Tor
namespace Tor
open Go
structure RelOk (R C : Nat) (Rl : MP) : Prop where
  add : ∀ M U V i j k, Sha R C M → Sha R R U → Sha R R V → i < R → j < R → i ≠ j → Rl M U V → Rl (addRow M i j k) (addRow U i j k) (subCol V i j k)
  swap : ∀ M U V i j, Sha R C M → Sha R R U → Sha R R V → i < R → j < R → i ≠ j → Rl M U V → Rl (swapL [] M i j) (swapL [] U i j) (swapCol V i j)
  neg : ∀ M U V i, Sha R C M → Sha R R U → Sha R R V → i < R → Rl M U V → Rl (negRow M i) (negRow U i) (negColA V i)
structure Base (R C : Nat) (Rl : MP) (c top : Nat) (M U V : List (List Int)) : Prop where
  sM : Sha R C M
  sU : Sha R R U
  sV : Sha R R V
  rl : Rl M U V
  z : ∀ a t, top ≤ a → t < c → at2 M a t = 0
  nz : ∀ j, j < top → ∃ p, p < c ∧ at2 M j p ≠ 0
def Bm (M : List (List Int)) (m : Nat) : Prop := ∀ a t, (at2 M a t).natAbs ≤ m
def B3 (M U V : List (List Int)) (m : Nat) : Prop := Bm M m ∧ Bm U m ∧ Bm V m
theorem bm_mono {M m n} (h : m ≤ n) (hb : Bm M m) : Bm M n := fun a t => Nat.le_trans (hb a t) h
theorem b3_mono {M U V m n} (h : m ≤ n) (hb : B3 M U V m) : B3 M U V n := ⟨bm_mono h hb.1, bm_mono h hb.2.1, bm_mono h hb.2.2⟩
theorem fit_big {x : Int} (h : x.natAbs < BIG) : Fit x := by
  have := big_len h
  unfold Fit; omega
theorem fits_b3 {M U V m} (hm : m < BIG) (h : B3 M U V m) : Fits3 M U V :=
  ⟨fun i t => fit_big (Nat.lt_of_le_of_lt (h.1 i t) hm), fun i t => fit_big (Nat.lt_of_le_of_lt (h.2.1 i t) hm), fun i t => fit_big (Nat.lt_of_le_of_lt (h.2.2 i t) hm)⟩
def flq (M : List (List Int)) (top i c : Nat) : Int := at2 M top c / at2 M i c
theorem sw_eq (i j a : Nat) : sw i j a = if a = j then i else if a = i then j else a := rfl
theorem at2_eucG {R C : Nat} {X M : List (List Int)} (h : Sha R C X) {top i c : Nat} (ht : top < R) (hi : i < R) (hne : top ≠ i) (a s : Nat) :
    at2 (if at2 M top c = 0 then swapL [] X top i else swapL [] (addRow X top i (-(at2 M top c / at2 M i c))) top i) a s =
      if a = i then at2 X top s - flq M top i c * at2 X i s else if a = top then at2 X i s else at2 X a s := by
  unfold flq
  by_cases h0 : at2 M top c = 0
  · rw [if_pos h0, at2_swap h ht hi, h0, Int.zero_ediv, Int.zero_mul, Int.sub_zero]
    unfold sw; split
    · rfl
    · split <;> rfl
  · rw [if_neg h0, at2_swap (shp_addRow h ht hi _) ht hi, at2_addRow h ht hi]
    unfold sw
    by_cases e1 : a = i
    · rw [if_pos e1, if_pos rfl, if_pos e1, Int.neg_mul]; rfl
    · rw [if_neg e1, if_neg e1]
      by_cases e2 : a = top
      · rw [if_pos e2, if_pos e2, if_neg (fun e => hne e.symm)]
      · rw [if_neg e2, if_neg e2, if_neg e2]
theorem at2_eucV {R : Nat} {V M : List (List Int)} (h : Sha R R V) {top i c : Nat} (ht : top < R) (hi : i < R) (hne : top ≠ i) (a s : Nat) :
    at2 (eucV M V top i c) a s = if s = top then at2 V a i + flq M top i c * at2 V a top else if s = i then at2 V a top else at2 V a s := by
  unfold flq eucV
  by_cases h0 : at2 M top c = 0
  · rw [if_pos h0, at2_swapCol h ht hi, h0, Int.zero_ediv, Int.zero_mul, Int.add_zero]
    unfold sw
    by_cases e1 : s = i
    · rw [if_pos e1, if_neg (by omega), if_pos e1]
    · rw [if_neg e1, if_neg e1]; split <;> rfl
  · rw [if_neg h0, at2_swapCol (shp_subCol h _ _ _) ht hi, at2_subCol h hi]
    unfold sw
    by_cases e1 : s = i
    · rw [if_pos e1, if_neg hne, if_neg (by omega), if_pos e1]
    · rw [if_neg e1, if_neg e1]
      by_cases e2 : s = top
      · rw [if_pos e2, if_pos rfl, if_pos e2, Int.neg_mul, Int.sub_neg]
      · rw [if_neg e2, if_neg e1, if_neg e2]
def Wt (M : List (List Int)) (m top i p q : Nat) : Prop := ∀ a t, (at2 M a t).natAbs ≤ (if a = top then p else if a = i then q else 1) * m
def WtC (V : List (List Int)) (m top i p q : Nat) : Prop := ∀ a t, (at2 V a t).natAbs ≤ (if t = top then q else if t = i then p else 1) * m
theorem lin_le {x y f : Int} {p q m : Nat} (hx : x.natAbs ≤ p * m) (hy : y.natAbs ≤ q * m) : (x - f * y).natAbs ≤ (p + f.natAbs * q) * m ∧ (x + f * y).natAbs ≤ (p + f.natAbs * q) * m := by
  have h1 : (f * y).natAbs ≤ f.natAbs * (q * m) := by rw [Int.natAbs_mul]; exact Nat.mul_le_mul_left _ hy
  have h2 : (p + f.natAbs * q) * m = p * m + f.natAbs * (q * m) := by rw [Nat.add_mul, Nat.mul_assoc]
  constructor <;> omega
theorem wt_euc {R C : Nat} {X M : List (List Int)} (h : Sha R C X) {top i c : Nat} (ht : top < R) (hi : i < R) (hne : top ≠ i) {m p q : Nat} (hw : Wt X m top i p q) :
    Wt (if at2 M top c = 0 then swapL [] X top i else swapL [] (addRow X top i (-(at2 M top c / at2 M i c))) top i) m top i q (p + (flq M top i c).natAbs * q) := by
  intro a s
  rw [at2_eucG h ht hi hne]
  have h1 := hw top s
  have h2 := hw i s
  have h3 := hw a s
  rw [if_pos rfl] at h1
  rw [if_neg (fun e => hne e.symm), if_pos rfl] at h2
  by_cases e1 : a = i
  · rw [if_pos e1, if_neg (by omega), if_pos e1]; exact (lin_le h1 h2).1
  · rw [if_neg e1]
    by_cases e2 : a = top
    · rw [if_pos e2, if_pos e2]; exact h2
    · rw [if_neg e2, if_neg e1] at h3
      rw [if_neg e2, if_neg e2, if_neg e1]; exact h3
theorem wtC_euc {R : Nat} {V M : List (List Int)} (h : Sha R R V) {top i c : Nat} (ht : top < R) (hi : i < R) (hne : top ≠ i) {m p q : Nat} (hw : WtC V m top i p q) :
    WtC (eucV M V top i c) m top i q (p + (flq M top i c).natAbs * q) := by
  intro a s
  rw [at2_eucV h ht hi hne]
  have h1 := hw a top
  have h2 := hw a i
  have h3 := hw a s
  rw [if_pos rfl] at h1
  rw [if_neg (fun e => hne e.symm), if_pos rfl] at h2
  by_cases e2 : s = top
  · rw [if_pos e2, if_pos e2]; exact (lin_le h2 h1).2
  · rw [if_neg e2, if_neg e2]
    by_cases e1 : s = i
    · rw [if_pos e1, if_pos e1]; exact h1
    · rw [if_neg e2, if_neg e1] at h3
      rw [if_neg e1, if_neg e1]; exact h3
theorem base_euc {R C : Nat} {Rl : MP} (hR : RelOk R C Rl) {c top i : Nat} {M U V} (ht : top < R) (hi : i < R) (hti : top < i) (h : Base R C Rl c top M U V) :
    Base R C Rl c top (eucM M top i c) (eucU M U top i c) (eucV M V top i c) := by
  have hne : top ≠ i := by omega
  have hm : ∀ a s, at2 (eucM M top i c) a s = if a = i then at2 M top s - flq M top i c * at2 M i s else if a = top then at2 M i s else at2 M a s := fun a s => by
    unfold eucM; exact at2_eucG h.sM ht hi hne a s
  refine ⟨?_, ?_, ?_, ?_, fun a t ha htc => ?_, fun j hj => ?_⟩
  · unfold eucM; split
    · exact shp_swap h.sM ht hi
    · exact shp_swap (shp_addRow h.sM ht hi _) ht hi
  · unfold eucU; split
    · exact shp_swap h.sU ht hi
    · exact shp_swap (shp_addRow h.sU ht hi _) ht hi
  · unfold eucV; split
    · exact shp_swapCol h.sV _ _
    · exact shp_swapCol (shp_subCol h.sV _ _ _) _ _
  · unfold eucM eucU eucV; split
    · exact hR.swap _ _ _ _ _ h.sM h.sU h.sV ht hi hne h.rl
    · exact hR.swap _ _ _ _ _ (shp_addRow h.sM ht hi _) (shp_addRow h.sU ht hi _) (shp_subCol h.sV _ _ _) ht hi hne (hR.add _ _ _ _ _ _ h.sM h.sU h.sV ht hi hne h.rl)
  · rw [hm, h.z top t (Nat.le_refl _) htc, h.z i t (by omega) htc, h.z a t ha htc]; simp
  · obtain ⟨p, hp, hv⟩ := h.nz j hj
    exact ⟨p, hp, by rw [hm, if_neg (by omega), if_neg (by omega)]; exact hv⟩
structure Mid (R C : Nat) (Rl : MP) (c top i m : Nat) (M U V : List (List Int)) : Prop where
  b : Base R C Rl c top M U V
  zc : ∀ a, top < a → a < i → at2 M a c = 0
  t0 : at2 M top c ≠ 0
  y0 : 0 ≤ at2 M i c
  w : ∃ p q, p ≤ 12 * m ∧ q ≤ 12 * m ∧ Wt M m top i p q ∧ Wt U m top i p q ∧ WtC V m top i p q ∧
    ((p * (at2 M i c).natAbs + q * (at2 M top c).natAbs ≤ 4 * m ∧ (at2 M i c).natAbs ≤ (at2 M top c).natAbs) ∨
     (p * (at2 M i c).natAbs + q * (at2 M top c).natAbs ≤ 12 * m ∧ 0 ≤ at2 M top c))
theorem wt_bm {M m top i p q} (hp : p ≤ 12 * m) (hq : q ≤ 12 * m) (hm : 1 ≤ m) (h : Wt M m top i p q) : Bm M (12 * m * m) := by
  intro a t
  refine Nat.le_trans (h a t) (Nat.mul_le_mul_right m ?_)
  split
  · exact hp
  · split
    · exact hq
    · omega
theorem wtC_bm {M m top i p q} (hp : p ≤ 12 * m) (hq : q ≤ 12 * m) (hm : 1 ≤ m) (h : WtC M m top i p q) : Bm M (12 * m * m) := by
  intro a t
  refine Nat.le_trans (h a t) (Nat.mul_le_mul_right m ?_)
  split
  · exact hq
  · split
    · exact hp
    · omega
theorem mid_b3 {R C Rl c top i m M U V} (hm : 1 ≤ m) (h : Mid R C Rl c top i m M U V) : B3 M U V (12 * m * m) := by
  obtain ⟨p, q, hp, hq, w1, w2, w3, _⟩ := h.w
  exact ⟨wt_bm hp hq hm w1, wt_bm hp hq hm w2, wtC_bm hp hq hm w3⟩
theorem q_le {q t w : Nat} (ht : t ≠ 0) (h : q * t ≤ w) : q ≤ w := Nat.le_trans (Nat.le_mul_of_pos_right q (by omega)) h
theorem mid_first {R C : Nat} {Rl : MP} (hR : RelOk R C Rl) {c top i m : Nat} {M U V} (ht : top < R) (hi : i < R) (hti : top < i) (hm : 1 ≤ m) (h : Base R C Rl c top M U V) (hz : ∀ a, top < a → a < i → at2 M a c = 0)
    (hb : B3 M U V m) (hy : at2 M i c ≠ 0) : Mid R C Rl c top i m (eucM M top i c) (eucU M U top i c) (eucV M V top i c) := by
  have hne : top ≠ i := by omega
  have hmm : ∀ a s, at2 (eucM M top i c) a s = if a = i then at2 M top s - flq M top i c * at2 M i s else if a = top then at2 M i s else at2 M a s := fun a s => by
    unfold eucM; exact at2_eucG h.sM ht hi hne a s
  have et : at2 (eucM M top i c) top c = at2 M i c := by rw [hmm, if_neg (by omega), if_pos rfl]
  have ey : at2 (eucM M top i c) i c = at2 M top c % at2 M i c := by
    rw [hmm, if_pos rfl, Int.emod_def]; unfold flq; rw [Int.mul_comm]
  have n0 := Int.emod_nonneg (at2 M top c) hy
  have n1 := Int.emod_lt (a := at2 M top c) hy
  have W1 : ∀ X : List (List Int), Bm X m → Wt X m top i 1 1 := fun X hX a t => by
    have := hX a t; simp only [ite_self, Nat.one_mul]; exact this
  have W2 : ∀ X : List (List Int), Bm X m → WtC X m top i 1 1 := fun X hX a t => by
    have := hX a t; simp only [ite_self, Nat.one_mul]; exact this
  have k1 := (euc_w (t := at2 M top c) (y := at2 M i c) (fl := flq M top i c) (m := m) (p := 1) (q := 1) hy rfl (Nat.le_refl _)).1
  have b1 := hb.1 top c
  have b2 := hb.1 i c
  refine ⟨base_euc hR ht hi hti h, fun a h1 h2 => by rw [hmm, if_neg (by omega), if_neg (by omega)]; exact hz a h1 h2, by rw [et]; exact hy, by rw [ey]; exact n0,
    1, 1 + (flq M top i c).natAbs * 1, by omega, ?_, wt_euc h.sM ht hi hne (W1 _ hb.1), wt_euc h.sU ht hi hne (W1 _ hb.2.1), wtC_euc h.sV ht hi hne (W2 _ hb.2.2), .inl ?_⟩
  · have hn : (at2 M i c).natAbs ≠ 0 := by omega
    have : (1 + (flq M top i c).natAbs * 1) * (at2 M i c).natAbs ≤ 12 * m := by omega
    exact q_le hn this
  · rw [et, ey]
    constructor
    · omega
    · omega
theorem mid_next {R C : Nat} {Rl : MP} (hR : RelOk R C Rl) {c top i m : Nat} {M U V} (ht : top < R) (hi : i < R) (hti : top < i) (hm : 1 ≤ m) (h : Mid R C Rl c top i m M U V)
    (hy : at2 M i c ≠ 0) : Mid R C Rl c top i m (eucM M top i c) (eucU M U top i c) (eucV M V top i c) := by
  have hne : top ≠ i := by omega
  have hmm : ∀ a s, at2 (eucM M top i c) a s = if a = i then at2 M top s - flq M top i c * at2 M i s else if a = top then at2 M i s else at2 M a s := fun a s => by
    unfold eucM; exact at2_eucG h.b.sM ht hi hne a s
  have et : at2 (eucM M top i c) top c = at2 M i c := by rw [hmm, if_neg (by omega), if_pos rfl]
  have ey : at2 (eucM M top i c) i c = at2 M top c % at2 M i c := by
    rw [hmm, if_pos rfl, Int.emod_def]; unfold flq; rw [Int.mul_comm]
  have n0 := Int.emod_nonneg (at2 M top c) hy
  have n1 := Int.emod_lt (a := at2 M top c) hy
  have y0 := h.y0
  obtain ⟨p, q, hp, hq, w1, w2, w3, hs⟩ := h.w
  have hq1 : 1 ≤ q ∨ q = 0 := by omega
  have kk := euc_w (t := at2 M top c) (y := at2 M i c) (fl := flq M top i c) (m := m) (p := p) (q := q) hy rfl
  have fin : (p + (flq M top i c).natAbs * q) * (at2 M i c).natAbs + q * (at2 M top c % at2 M i c).natAbs ≤ 12 * m := by
    rcases hq1 with hq1 | hq0
    · rcases hs with ⟨s1, s2⟩ | ⟨s1, s2⟩
      · have k1 := (kk hq1).1
        have : q * (at2 M top c % at2 M i c).natAbs ≤ q * (at2 M top c).natAbs := Nat.mul_le_mul_left _ (by omega)
        omega
      · have k1 := (kk hq1).2 s2 y0
        omega
    · subst hq0
      simp only [Nat.mul_zero, Nat.zero_mul, Nat.add_zero] at *
      rcases hs with ⟨s1, s2⟩ | ⟨s1, s2⟩ <;> omega
  refine ⟨base_euc hR ht hi hti h.b, fun a h1 h2 => by rw [hmm, if_neg (by omega), if_neg (by omega)]; exact h.zc a h1 h2, by rw [et]; exact hy, by rw [ey]; exact n0,
    q, p + (flq M top i c).natAbs * q, hq, ?_, wt_euc h.b.sM ht hi hne w1, wt_euc h.b.sU ht hi hne w2, wtC_euc h.b.sV ht hi hne w3, .inr ?_⟩
  · have hn : (at2 M i c).natAbs ≠ 0 := by omega
    exact q_le hn (Nat.le_trans (Nat.le_add_right _ _) fin)
  · rw [et, ey]
    exact ⟨by omega, y0⟩
end Tor
