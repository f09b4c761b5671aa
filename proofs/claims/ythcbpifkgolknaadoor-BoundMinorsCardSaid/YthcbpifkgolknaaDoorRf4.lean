/-
  Walks of ranges over functions (4).
  Conditions: none.
-/
import Derived.Test.YthcbpifkgolknaaDoorRf3
import Derived.Scope
import Derived.WalkMore
namespace Go.Proofs.YthcbpifkgolknaaDoor
open Go Go.RowKit Go.Shelf Tor
attribute [local go_sem] Oper.semAt_some

theorem wpIn_scope {F : Fence} {n : Nat} {P : Program} {Q : Exit → Act → World → Prop} {a : Act} {w : World} {c : Code} (h : c.wpIn F n P (Exit.noGoto Q) a w) : (Code.scope c).wpIn F n P Q a w := by
  intro b k cs hro hb hr
  have h0 : (lone (b.atR a (.code (.scope c) :: k)) cs w).fenced P F := fenced_calm hb hr rfl
  have s0 : step P (lone (b.atR a (.code (.scope c) :: k)) cs w) = .next (lone (b.atR a (.code c :: .inScope c :: k)) cs w) := step_lone_go (by simp [stepG, stepG.exec, Frame.atR])
  obtain ⟨e, a₁, w₁, hq, harr⟩ := h b (.inScope c :: k) cs hro hb hr
  cases e with
  | normal =>
    have s1 : step P (lone (b.atR a₁ (.inScope c :: k)) cs w₁) = .next (lone (b.atR a₁ k) cs w₁) := step_lone_go (by simp [stepG, stepG.exec, Frame.atR])
    exact ⟨.normal, a₁, w₁, hq, .head h0 s0 (StepsIn.trans harr (.one (fenced_calm hb hr rfl) s1))⟩
  | exit id => exact ⟨.exit id, a₁, w₁, hq, .of_steps (.one h0 s0) ⟨fun k' hk => harr.1 k' (by simp [exitTo, hk]), fun hr hk => harr.2 hr (by simpa [exitTo] using hk)⟩⟩
  | goto l => exact hq.elim
  | ret => exact ⟨_, a₁, w₁, hq, .of_steps (.one h0 s0) harr⟩
  | panic ch => exact ⟨_, a₁, w₁, hq, .of_steps (.one h0 s0) harr⟩
  | outgrown => exact ⟨_, a₁, w₁, hq, .of_steps (.one h0 s0) harr⟩

set_option maxRecDepth 100000 in
set_option maxHeartbeats 2000000 in
theorem primes29 (pr : Nat → Bool) (hP : ∀ (m : Nat) w, m ≤ 2147483648 → QT w → Calls Tryd.prog 94 #[.int .u64 m] w fun e w' => e = .returned (.bool (pr m)) ∧ Below w.heap.size w w') (m : Nat) (k : Int) (w : World) (hQ : QT w) :
    Calls Tryd.prog 29 #[.int .u64 m, .int .i64 k] w fun e W' => ∃ v, e = .returned v ∧ W'.ownsRow w.heap.size 59 1 v ((allBelow pr (min m 2147483648)).take k.toNat).length (((allBelow pr (min m 2147483648)).take k.toNat).map (fun x : Nat => Value.int .u64 (x : Int))) ∧ Below w.heap.size w W' := by
  refine (callsIn_wide (n := 9)).1 ?_
  obtain ⟨i0, hi, hz0, hz1, hz2⟩ := info_parts info59
  refine callsIn_of_wp_marks Tryd.func29 rfl trivial ?_ rfl
  simp only [Tryd.ntmps29, List.size_toArray, List.length_cons, List.length_nil, Nat.reduceAdd, Nat.reduceSub, Array.replicate_succ, Array.replicate_zero, List.push_toArray, List.append_toArray, List.nil_append, List.cons_append]
  by_cases hk : k ≤ 0
  · have hk0 : k.toNat = 0 := by omega
    rw [hk0, List.take_zero]
    gi_wp2
    refine wpIn_scope ?_
    gi_wp2
    rw [Exit.noGoto_ret]
    exact ⟨_, results_tmp rfl _ _ _, _, rfl, World.ownsRow_nil _ _ _ _, ((Below.refl _ w).alloc (Nat.le_refl _) _).alloc (by simp) _⟩
  · have hk' : ¬ k ≤ 0 := hk
    gi_wp2
    refine wpIn_scope ?_
    gi_wp2
    refine wpIn_label ?_
    gi_wp2
    refine ⟨trivial, (below48 _ _ _).mono ?_⟩
    rintro e w' ⟨rfl, rfl⟩
    gi_wp2
    have bK := ((Boxed.new w 3 (.int .i64 k)).alloc (.cells #[.slice none 0 0] 60)).alloc (.cells #[.int .u64 (m : Int)] 59)
    have bO := (Boxed.new (w.alloc (.cells #[.int .i64 k] 3)) 60 (.slice none 0 0)).alloc (.cells #[.int .u64 (m : Int)] 59)
    have bM := Boxed.new ((w.alloc (.cells #[.int .i64 k] 3)).alloc (.cells #[.slice none 0 0] 60)) 59 (.int .u64 (m : Int))
    rw [World.size_alloc] at bO
    rw [World.size_alloc, World.size_alloc] at bM
    have hB0 : Below w.heap.size w (((w.alloc (.cells #[.int .i64 k] 3)).alloc (.cells #[.slice none 0 0] 60)).alloc (.cells #[.int .u64 (m : Int)] 59)) := (((Below.refl _ w).alloc (Nat.le_refl _) _).alloc (by simp) _).alloc (by simp; omega) _
    have hs0 : (((w.alloc (.cells #[.int .i64 k] 3)).alloc (.cells #[.slice none 0 0] 60)).alloc (.cells #[.int .u64 (m : Int)] 59)).heap.size = w.heap.size + 3 := by simp
    have hlen := allBelow_len pr (min m 2147483648)
    generalize ((w.alloc (.cells #[.int .i64 k] 3)).alloc (.cells #[.slice none 0 0] 60)).alloc (.cells #[.int .u64 (m : Int)] 59) = W0 at bK bO bM hB0 hs0 ⊢
    refine wpIn_rangeFunc_ownG rfl (by omega) (gf := 65) (lb := #[.pointer (some ⟨w.heap.size + 1 + 1, 0, none⟩)]) rfl trivial enters65
      (below_stops _ pr hP (w.heap.size + 1 + 1) w.heap.size m W0 (by omega) bM.cell (hQ.below hB0 hQ.pos) hQ.pos) belowK_t (belowK_b (by omega)) (Below.refl _ _) (fun _ => rfl)
      (fun pre V => (∃ v, Boxed V (w.heap.size + 1) 60 v ∧ V.ownsRow w.heap.size 59 1 v pre.length (pre.map fun x : Nat => Value.int .u64 (x : Int)) ∧ pre.length < k.toNat) ∧ Boxed V w.heap.size 3 (.int .i64 k) ∧ Below w.heap.size w V)
      (fun c pre V => c = .exit 0 ∧ (∃ v, Boxed V (w.heap.size + 1) 60 v ∧ V.ownsRow w.heap.size 59 1 v pre.length (pre.map fun x : Nat => Value.int .u64 (x : Int)) ∧ pre.length = k.toNat) ∧ Below w.heap.size w V)
      ?_ ?_ ⟨⟨_, bO, World.ownsRow_nil _ _ _ _, by simp; omega⟩, bK, hB0⟩
      (fun x => { tmps := #[.int .u64 m, .int .i64 k, undef, .pointer (some ⟨w.heap.size, 0, none⟩), .slice none 0 0, .pointer (some ⟨w.heap.size + 1, 0, none⟩), .int .u64 (x : Int), .int .i64 k, .bool (decide (k ≤ 0)), undef, .int .u64 m, .func (.func 65) #[] #[.pointer (some ⟨w.heap.size + 1 + 1, 0, none⟩)], .int .u64 (x : Int), undef, undef, undef, undef, undef, undef, undef, undef, undef], defers := [] }) ?assign ?body ?done ?stop
    case assign =>
      intro l x W K hK
      gi_wp2
      exact hK
    case body =>
      rintro l pre x W ⟨⟨v, hv, hrow, hlt⟩, hkb, hB⟩ hlt2
      have hc := hv.cell
      have hpm : pre.length < 2147483648 := by omega
      have hck := hkb.cell
      gi_wp2_with (gi_at_builtin; refine wpListIn_append_own _ rfl _ _ 60 rfl w.heap.size 59 i0 (.int .u64 0) 1 8 Tryd.underlying60 hi hz0 hz1 hz2 rfl (by decide) _ _ _ rfl (hrow.alloc _) ⟨W.heap.size, 0, none⟩ 1 1 [.int .u64 (x : Int)] rfl rfl (cell_one_new _ _ _) (by simp [Value.oneCell']) (by unfold maxLen; omega) (by omega) (by have := hB.size; simp; omega) ?_; intro v' w1 hown' hgrow _; obtain ⟨g', cap', rfl⟩ := ownsRow_succ hown'; obtain ⟨hv1, hv2, hr2, hk2, hb2⟩ := hv.appended (by decide) hrow hB.size (by omega) hown' hgrow; have hc1 := hv1.cell; have hf1 := hv1.frozen; have hc2 := hv2.cell; have hkb2 := ((hkb.alloc _).kept hgrow (hkb.not_row (by decide) hrow)).other (B' := w.heap.size + 1) (by omega) (.slice (some ⟨g', 0, none⟩) (pre.length + 1) cap'); have hck2 := hkb2.cell)
      · have hx : (pre.length : Int) + 1 = k := by first | assumption | (rename_i hx; simpa using hx)
        exact ⟨hk2.from _, rfl, ⟨_, hv2, by simpa using hr2, by simp; omega⟩, hB.trans hb2⟩
      · have hx : ¬ (pre.length : Int) + 1 = k := by first | assumption | (rename_i hx; simpa using hx)
        exact ⟨hk2.from _, hb2, ⟨_, hv2, by simpa using hr2, by simp; omega⟩, hkb2, hB.trans hb2⟩
    case done =>
      rintro D ys V hD rfl ⟨⟨v, hv, hrow, hlt⟩, hkb, hB⟩ hK
      have hc := hv.cell
      have htk : List.take k.toNat (allBelow pr (min m 2147483648)) = allBelow pr (min m 2147483648) := List.take_of_length_le (by omega)
      gi_wp2
      rw [Exit.noGoto_ret]
      refine ⟨by simp, .inl ⟨_, _, rfl, run_takeDeferred hK, ?_⟩⟩
      rw [htk]
      exact ⟨_, results_tmp rfl _ _ _, v, rfl, ownsRow_putObj hrow _ hK rfl, hB.trans (below_put hK (by omega) _)⟩
    case stop =>
      rintro D c pre V hD hpre ⟨rfl, ⟨v, hv, hrow, hl⟩, hB⟩ hK
      have hc := hv.cell
      have htk := List.prefix_iff_eq_take.1 hpre
      rw [hl] at htk
      gi_wp2
      rw [Exit.noGoto_ret]
      refine ⟨by simp, .inl ⟨_, _, rfl, run_takeDeferred hK, ?_⟩⟩
      rw [← htk]
      exact ⟨_, results_tmp rfl _ _ _, v, rfl, ownsRow_putObj hrow _ hK rfl, hB.trans (below_put hK (by omega) _)⟩
    · exact OwnFrom.and (Own.from (holdsRow_own w.heap.size (w.heap.size + 1) 60 59 1 (fun pre : List Nat => pre.length) (fun pre => pre.map fun x : Nat => Value.int .u64 (x : Int)) (fun pre v => pre.length < k.toNat)) _) (OwnFrom.and (Own.from (boxed_own w.heap.size 3 (fun _ => .int .i64 k)) _) (ownFrom_below (Nat.le_refl _) (by omega)))
    · intro c
      exact OwnFrom.and (ownFrom_pure _ _) (OwnFrom.and (Own.from (holdsRow_own w.heap.size (w.heap.size + 1) 60 59 1 (fun pre : List Nat => pre.length) (fun pre => pre.map fun x : Nat => Value.int .u64 (x : Int)) (fun pre v => pre.length = k.toNat)) _) (ownFrom_below (Nat.le_refl _) (by omega)))
end Go.Proofs.YthcbpifkgolknaaDoor
