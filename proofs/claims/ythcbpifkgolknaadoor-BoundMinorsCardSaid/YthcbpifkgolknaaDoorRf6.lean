/-
  Walks of ranges over functions (6).
  Conditions: none.
-/
import Derived.Test.YthcbpifkgolknaaDoorRf5
namespace Go.Proofs.YthcbpifkgolknaaDoor
open Go Go.RowKit Go.Shelf Tor
attribute [local go_sem] Oper.semAt_some

def prodL (l : List Nat) : Int := l.foldl (fun (z : Int) (p : Nat) => z * (p : Int)) 1
def needS (b : Int) (l : List Nat) : Prop := ∀ rest, needGo b 1 (l ++ rest) = (needGo b (prodL l) rest).map (l ++ ·)

theorem needS_nil (b : Int) : needS b [] := fun rest => by
  show needGo b 1 rest = (needGo b 1 rest).map _
  cases needGo b 1 rest <;> rfl
theorem prodL_snoc (l : List Nat) (x : Nat) : prodL (l ++ [x]) = prodL l * x := by simp [prodL]
theorem needS_snoc {b : Int} {l : List Nat} {x : Nat} (h : needS b l) (hx : ¬ prodL l * x > 2 * b) : needS b (l ++ [x]) := fun rest => by
  rw [List.append_assoc, h, prodL_snoc]
  simp only [List.cons_append, List.nil_append, needGo, if_neg hx, Option.map_map]
  congr 1
  funext q
  simp
theorem needS_end {b : Int} {l : List Nat} {x : Nat} (h : needS b l) (hx : prodL l * x > 2 * b) (rest : List Nat) : needGo b 1 (l ++ [x] ++ rest) = some (l ++ [x]) := by
  rw [List.append_assoc, h]
  simp only [List.cons_append, List.nil_append, needGo, if_pos hx, Option.map_some]

theorem Boxed2.otherB {W : World} {B B' : Nat} {t : TypeId} {v : Value} (h : Boxed W B t v) (hne : B ≠ B') (off : Nat) (u : Value) : Boxed (W.setCell ⟨B', off, none⟩ u) B t v := (Below.heap_setCell W ⟨B', off, none⟩ u _ hne).trans h

theorem Boxed2.not_row {W : World} {B : Nat} {t e : TypeId} {c d : Value} (h : Boxed2 W B t c d) (hte : t ≠ e) {base size k : Nat} {v : Value} {xs : List Value} (hr : W.ownsRow base e size v k xs) : some B ≠ v.ownBlock := by
  rcases hr.2 with ⟨rfl, _⟩ | ⟨g, cap, cur, rfl, _, hgb, _⟩
  · simp [Value.ownBlock]
  · intro e'
    obtain rfl : B = g := by simpa [Value.ownBlock] using e'
    rw [show W.heap[B]? = _ from h] at hgb
    simp at hgb
    exact hte hgb.2

theorem ownsRow_cells {X Y : World} {base e size k : Nat} {v : Value} {xs : List Value} (h : X.ownsRow base e size v k xs) (hk : ∀ g o, v.ownBlock = some g → X.heap[g]? = some o → o.isCells = true → Y.heap[g]? = X.heap[g]?) : Y.ownsRow base e size v k xs := by
  refine ⟨h.1, h.2.imp id ?_⟩
  rintro ⟨g, cap, cur, rfl, y1, y2, y3⟩
  exact ⟨g, cap, cur, rfl, y1, (hk g _ rfl y2 rfl).trans y2, y3⟩

/-- Between two rounds. -/
def NI (pr : Nat → Bool) (b : Int) (w : World) (sb : Bool) (ab : Option Addr) (lb cb B5 B6 : Nat) (pre : List P32) (V : World) : Prop :=
  ∃ v, Boxed V B6 60 v ∧ V.ownsRow w.heap.size 59 1 v pre.length (pre.map fun x => Value.int .u64 (x.1 : Int)) ∧ ∃ A sp ap np cp,
    A 0 ∧ (∀ x, A x → x < V.heap.size ∧ x ≠ w.heap.size ∧ x ≠ w.heap.size + 1 ∧ x ≠ B5 ∧ x ≠ B6 ∧ some x ≠ v.ownBlock) ∧ IntR A V (.agg #[.bool sp, .slice ap np cp]) (prodL (pre.map (·.1))) ∧ IntR A V (.agg #[.bool sb, .slice ab lb cb]) b ∧
    Boxed2 V B5 32 (.bool sp) (.slice ap np cp) ∧ Boxed2 V w.heap.size 32 (.bool sb) (.slice ab lb cb) ∧ (∃ u, Boxed V (w.heap.size + 1) 60 u) ∧ Below w.heap.size w V ∧ needS b (pre.map (·.1)) ∧ 1 ≤ prodL (pre.map (·.1)) ∧ prodL (pre.map (·.1)) ≤ 2 * b

def NX (b : Int) (w : World) (c : Code) (pre : List P32) (V : World) : Prop :=
  c = .ret ∧ (∃ v, Boxed V (w.heap.size + 1) 60 v ∧ V.ownsRow w.heap.size 59 1 v pre.length (pre.map fun x => Value.int .u64 (x.1 : Int)) ∧ ∀ rest, needGo b 1 (pre.map (·.1) ++ rest) = some (pre.map (·.1))) ∧ Below w.heap.size w V

set_option maxRecDepth 100000 in
set_option maxHeartbeats 4000000 in
theorem needed33 (pr : Nat → Bool) (hP : ∀ (m : Nat) w, m ≤ 2147483648 → QT w → Calls Tryd.prog 94 #[.int .u64 m] w fun e w' => e = .returned (.bool (pr m)) ∧ Below w.heap.size w w') (b : Int) (hN : NeedC Tryd.prog 43 51 50 b)
    (m : Nat) (w : World) (A : Nat → Prop) (hA : ∀ x, A x → x < w.heap.size) (sb : Bool) (ab : Option Addr) (lb cb : Nat) (hb : IntR A w (.agg #[.bool sb, .slice ab lb cb]) b) (hQ : QT w) :
    Calls Tryd.prog 33 #[.agg #[.bool sb, .slice ab lb cb], .int .u64 m] w fun e W' => ∃ v, e = .returned v ∧ W'.ownsRow w.heap.size 59 1 v (needRes pr b m).length ((needRes pr b m).map (fun x : Nat => Value.int .u64 (x : Int))) ∧ Below w.heap.size w W' := by
  refine (callsIn_wide (n := 9)).1 ?_
  obtain ⟨i0, hi, hz0, hz1, hz2⟩ := info_parts info59
  refine callsIn_of_wp_marks Tryd.func33 rfl trivial ?_ rfl
  simp only [Tryd.ntmps33, List.size_toArray, List.length_cons, List.length_nil, Nat.reduceAdd, Nat.reduceSub, Array.replicate_succ, Array.replicate_zero, List.push_toArray, List.append_toArray, List.nil_append, List.cons_append]
  gi_wp2
  refine ⟨trivial, (callsIn_wide.2 (hN.one _ (hQ.below (((Below.refl _ w).alloc (Nat.le_refl _) _).alloc (by simp) _) hQ.pos))).mono ?_⟩
  rintro e w1 ⟨v1, rfl, hI1, hb1⟩
  obtain ⟨s1, a1, n1, c1, rfl⟩ := hI1.shape
  have hs1 := hb1.size
  rw [World.size_alloc, World.size_alloc] at hs1
  have q2 := (((Boxed2.new w 32 (.bool sb) (.slice ab lb cb)).alloc (.cells #[.slice none 0 0] 60)).below hb1).alloc (.cells #[.bool s1, .slice a1 n1 c1] 32)
  have q4 := (Boxed.below (Boxed.new (w.alloc (.cells #[.bool sb, .slice ab lb cb] 32)) 60 (.slice none 0 0)) hb1).alloc (.cells #[.bool s1, .slice a1 n1 c1] 32)
  rw [World.size_alloc] at q4
  have q5 := Boxed2.new w1 32 (.bool s1) (.slice a1 n1 c1)
  have e20 := q2.cell0
  have e21 := q2.cell1
  gi_wp2
  obtain ⟨W2, hW2⟩ : ∃ W2, w1.alloc (.cells #[.bool s1, .slice a1 n1 c1] 32) = W2 := ⟨_, rfl⟩
  have hz2' : W2.heap.size = w1.heap.size + 1 := by rw [← hW2]; simp
  have hB12 : Below w1.heap.size w1 W2 := by rw [← hW2]; exact (Below.refl _ _).alloc (Nat.le_refl _) _
  have hBw : Below w.heap.size w W2 := (((Below.refl _ w).alloc (Nat.le_refl _) _).alloc (by simp) _).trans ((hb1.mono (by simp; omega)).trans (hB12.mono (by omega)))
  rw [hW2] at q2 q4 q5 e20 e21 ⊢
  -- the blocks of the two numbers
  have iB : IntR (fun x => (x < w.heap.size ∨ w.heap.size + 2 ≤ x ∧ x < w1.heap.size)) W2 (.agg #[.bool sb, .slice ab lb cb]) b :=
    (hb.keep fun x o hx _ _ => hBw.block x (hA x hx)).mono fun x hx => .inl (hA x hx)
  have i1 : IntR (fun x => (x < w.heap.size ∨ w.heap.size + 2 ≤ x ∧ x < w1.heap.size)) W2 (.agg #[.bool s1, .slice a1 n1 c1]) 1 :=
    ((hI1.restrict).mono fun x hx => by
      have := hQ.pos
      rcases hx.1 with h | h
      · exact .inl (by omega)
      · exact .inr ⟨by simp at h; omega, hx.2⟩).below hB12
  refine ⟨trivial, (callsIn_wide.2 (hN.gt _ W2 _ 1 _ (hQ.below hBw hQ.pos) (.inl hQ.pos) (by omega) (.inr rfl) i1 iB (fun x hx => by omega))).mono ?_⟩
  rintro e W3 ⟨rfl, hb3⟩
  have hB3 : Below w.heap.size w W3 := hBw.trans (hb3.mono (by omega))
  have p2 := q2.below hb3
  have p4 := Boxed.below q4 hb3
  have p5 := q5.below hb3
  by_cases h1b : 1 > 2 * b
  · simp only [decide_eq_true h1b]
    have hc4 := p4.cell
    have hf4 := p4.frozen
    gi_wp2
    have hr : needRes pr b m = [] := if_pos h1b
    have hc5 := (p4.set (.slice none 0 0)).cell
    rw [hr]
    refine ⟨.slice none 0 0, ?_, _, rfl, World.ownsRow_nil _ _ _ _, hB3.setCell (p := ⟨w.heap.size + 1, 0, none⟩) (by simp) _⟩
    simp [results, Tryd.f33, go_sem, hc5]
  · simp only [decide_eq_false h1b]
    gi_wp2
    refine ⟨trivial, (below48 _ _ _).mono ?_⟩
    rintro e w' ⟨rfl, rfl⟩
    gi_wp2
    obtain ⟨W4, hW4⟩ : ∃ W4, (W3.alloc (.cells #[.slice none 0 0] 60)).alloc (.cells #[.int .u64 (m : Int)] 59) = W4 := ⟨_, rfl⟩
    have hz4 : W4.heap.size = W3.heap.size + 2 := by rw [← hW4]; simp
    have hB34 : Below W3.heap.size W3 W4 := by rw [← hW4]; exact ((Below.refl _ _).alloc (Nat.le_refl _) _).alloc (by simp) _
    have p6 : Boxed W4 W3.heap.size 60 (.slice none 0 0) := by rw [← hW4]; exact (Boxed.new W3 60 (.slice none 0 0)).alloc _
    have pM : Boxed W4 (W3.heap.size + 1) 59 (.int .u64 (m : Int)) := by
      rw [← hW4]; have := Boxed.new (W3.alloc (.cells #[.slice none 0 0] 60)) 59 (.int .u64 (m : Int)); rwa [World.size_alloc] at this
    have hs3 := hb3.size
    have hB4 : Below w.heap.size w W4 := hB3.trans (hB34.mono (by omega))
    have r2 := p2.below hB34
    have r4 := Boxed.below p4 hB34
    have r5 := p5.below hB34
    have jB := (iB.below hb3).below hB34
    have j1 := (i1.below hb3).below hB34
    rw [hW4]
    refine wpIn_rangeFunc_ownG rfl (by omega) (gf := 65) (lb := #[.pointer (some ⟨W3.heap.size + 1, 0, none⟩)]) rfl trivial enters65
      (below_stopsP _ pr hP (W3.heap.size + 1) w.heap.size m W4 (by omega) pM.cell (hQ.below hB4 hQ.pos) hQ.pos) belowK_t (belowK_b (by omega)) (Below.refl _ _) (fun _ => rfl)
      (NI pr b w sb ab lb cb w1.heap.size W3.heap.size) (NX b w) ?_ ?_ ⟨_, p6, World.ownsRow_nil _ _ _ _, _, s1, a1, n1, c1, .inl hQ.pos, ?_, ?_, jB, r5, r2, ⟨_, r4⟩, hB4, ?_, ?_, ?_⟩
      (fun x => { tmps := #[.agg #[.bool sb, .slice ab lb cb], .int .u64 m, .pointer (some ⟨w.heap.size, 0, none⟩), undef, .pointer (some ⟨w.heap.size + 1, 0, none⟩), .pointer (some ⟨w1.heap.size, 0, none⟩), .pointer (some ⟨W3.heap.size, 0, none⟩), .int .u64 (x.1 : Int), .agg #[.bool s1, .slice a1 n1 c1], .agg #[.bool s1, .slice a1 n1 c1], .agg #[.bool sb, .slice ab lb cb], .bool false, .int .u64 m, .func (.func 65) #[] #[.pointer (some ⟨W3.heap.size + 1, 0, none⟩)], .int .u64 (x.1 : Int), undef, undef, undef, undef, undef, undef, undef, undef, undef, undef, undef], defers := [] }) ?assign ?body ?done ?stop
    case assign =>
      intro l x W K hK
      gi_wp2
      exact hK
    case body =>
      rintro l pre x V ⟨v, hv, hrow, A, sp, ap, np, cp, hA0, hA, iP, iV, h5, h2, ⟨u4, h4⟩, hB, hS, hp1, hp2⟩ hlt2
      have hc := hv.cell
      have hpm : pre.length < 2147483648 := by have := allBelow_len pr (min m 2147483648); omega
      have hn5 := h5.not_row (by decide) hrow
      have hn2 := h2.not_row (by decide) hrow
      have hn4 := h4.not_row (by decide) hrow
      gi_wp2_with (gi_at_builtin; refine wpListIn_append_own2 _ rfl _ _ 60 rfl w.heap.size 59 i0 (.int .u64 0) 1 8 Tryd.underlying60 hi hz0 hz1 hz2 rfl (by decide) _ _ _ rfl (hrow.alloc _) ⟨V.heap.size, 0, none⟩ 1 1 [.int .u64 (x.1 : Int)] rfl rfl (cell_one_new _ _ _) (by simp [Value.oneCell']) (by unfold maxLen; omega) (by omega) (by have := hB.size; simp; omega) ?_; intro v' V1 hown' hgrow hfresh; obtain ⟨g', cap', rfl⟩ := ownsRow_succ hown'; obtain ⟨hv1, hv2, hr2, hk2, hb2⟩ := hv.appended (by decide) hrow hB.size (by omega) hown' hgrow; have hc1 := hv1.cell; have hf1 := hv1.frozen; have hkeep : ∀ k, k < V.heap.size → some k ≠ v.ownBlock → k ≠ W3.heap.size → (V1.setCell ⟨W3.heap.size, 0, none⟩ (.slice (some ⟨g', 0, none⟩) (pre.length + 1) cap')).heap[k]? = V.heap[k]? := (fun k hk1 hk2 hk3 => (Below.heap_setCell _ ⟨W3.heap.size, 0, none⟩ _ k hk3).trans ((hgrow.block k (by simp; omega) hk2).trans (Below.heap_alloc _ _ _ hk1))); have e5 : Boxed2 (V1.setCell ⟨W3.heap.size, 0, none⟩ (.slice (some ⟨g', 0, none⟩) (pre.length + 1) cap')) w1.heap.size 32 (.bool sp) (.slice ap np cp) := (hkeep _ (hlt h5) hn5 (by omega)).trans h5; have e50 := e5.cell0; have e51 := e5.cell1)
      have hsz2 := hb2.size
      have e2 : Boxed2 _ w.heap.size 32 (.bool sb) (.slice ab lb cb) := (hkeep _ (hlt h2) hn2 (by omega)).trans h2
      have e4 : Boxed _ (w.heap.size + 1) 60 u4 := (hkeep _ (hlt h4) hn4 (by omega)).trans h4
      have iP2 := iP.keep fun y o hy ho hoc => hkeep y (hA y hy).1 (hA y hy).2.2.2.2.2 (hA y hy).2.2.2.2.1
      have iV2 := iV.keep fun y o hy ho hoc => hkeep y (hA y hy).1 (hA y hy).2.2.2.2.2 (hA y hy).2.2.2.2.1
      obtain ⟨V2, hV2⟩ : ∃ V2, V1.setCell ⟨W3.heap.size, 0, none⟩ (.slice (some ⟨g', 0, none⟩) (pre.length + 1) cap') = V2 := ⟨_, rfl⟩
      rw [hV2] at hsz2 e2 e4 e5 iP2 iV2 hv2 hr2 hk2 hb2 ⊢
      have hl5 := hlt h5
      have hl2 := hlt h2
      have hl6 := hv.lt
      refine ⟨trivial, (CallsIn.inRound l (callsIn_wide.2 (hN.times A V2 _ _ x.1 (hQ.below (hB.trans hb2) hQ.pos) hA0 iP2 (fun y hy => Nat.lt_of_lt_of_le (hA y hy).1 hsz2) hp1 hp2 x.2.1 x.2.2))).mono ?_⟩
      rintro e V3 ⟨v3, rfl, iP3, hb3'⟩
      obtain ⟨s3, a3, n3, c3, rfl⟩ := iP3.shape
      have hsz3 := hb3'.size
      have f5 := e5.below hb3'
      have f2 := e2.below hb3'
      have f4 := Boxed.below e4 hb3'
      have f6 := Boxed.below hv2 hb3'
      have f50 := f5.cell0
      have f51 := f5.cell1
      have f5f := f5.frozen
      have f5g := f5.frozen1
      have k5 := f5.set (.bool s3) (.slice a3 n3 c3)
      have k2 := (f2.other (B' := w1.heap.size) (by omega) 0 (.bool s3)).other (B' := w1.heap.size) (by omega) 1 (.slice a3 n3 c3)
      have k4 := Boxed2.otherB (Boxed2.otherB f4 (B' := w1.heap.size) (by omega) 0 (.bool s3)) (B' := w1.heap.size) (by omega) 1 (.slice a3 n3 c3)
      have k6 := Boxed2.otherB (Boxed2.otherB f6 (B' := w1.heap.size) (by omega) 0 (.bool s3)) (B' := w1.heap.size) (by omega) 1 (.slice a3 n3 c3)
      have k50 := k5.cell0
      have k51 := k5.cell1
      have k20 := k2.cell0
      have k21 := k2.cell1
      have g51 := (f5.set0 (.bool s3)).cell1
      have g5g := (f5.set0 (.bool s3)).frozen1
      gi_wp2
      obtain ⟨V4, hV4⟩ : ∃ V4, (V3.setCell ⟨w1.heap.size, 0, none⟩ (.bool s3)).setCell ⟨w1.heap.size, 1, none⟩ (.slice a3 n3 c3) = V4 := ⟨_, rfl⟩
      have hsz4 : V4.heap.size = V3.heap.size := by rw [← hV4]; exact (Array.size_modify ..).trans (Array.size_modify ..)
      have hoth : ∀ k, k ≠ w1.heap.size → V4.heap[k]? = V3.heap[k]? := fun k hk => by
        rw [← hV4]; exact (Below.heap_setCell _ ⟨w1.heap.size, 1, none⟩ _ k hk).trans (Below.heap_setCell _ ⟨w1.heap.size, 0, none⟩ _ k hk)
      have hb34 : Below w.heap.size V3 V4 := by
        rw [← hV4]; exact ((Below.refl _ _).setCell (p := ⟨w1.heap.size, 0, none⟩) (show w.heap.size ≤ w1.heap.size by omega) _).setCell (p := ⟨w1.heap.size, 1, none⟩) (show w.heap.size ≤ w1.heap.size by omega) _
      have hk34 : KeepsOthers V3 V4 := by rw [← hV4]; exact (KeepsOthers.setCell _ _ _).trans (KeepsOthers.setCell _ _ _)
      rw [hV4] at k5 k2 k4 k6 k50 k51 k20 k21 ⊢
      have hwV := hB.size
      have hb24 : Below w.heap.size V2 V4 := (hb3'.mono (by omega)).trans hb34
      have hg2 := hr2.lt g' rfl
      have hgf : some g' = v.ownBlock ∨ g' = V.heap.size + 1 := by
        rcases hfresh with h | h
        · exact .inl h
        · right; simpa [Value.ownBlock] using h
      have hg5 : g' ≠ w1.heap.size := by
        rcases hgf with h | h
        · intro e; subst e; exact hn5 h
        · omega
      have hp3 : 1 ≤ prodL (pre.map (·.1)) * (x.1 : Int) := by
        have h1 : (1 : Int) ≤ (x.1 : Int) := by have := x.2.1; omega
        have := Int.mul_le_mul hp1 h1 (by omega) (by omega)
        omega
      have hp4 : prodL (pre.map (·.1)) * (x.1 : Int) ≤ 2 * b * 2147483648 := Int.mul_le_mul hp2 (by have := x.2.2; omega) (by omega) (by omega)
      have hAlt : ∀ y, (A y ∨ V2.heap.size ≤ y) ∧ y < V3.heap.size → y ≠ w.heap.size ∧ y ≠ w.heap.size + 1 ∧ y ≠ w1.heap.size ∧ y ≠ W3.heap.size ∧ y ≠ g' := by
        rintro y ⟨hy | hy, hy2⟩
        · obtain ⟨a1, a2, a3, a4, a5, a6⟩ := hA y hy
          refine ⟨a2, a3, a4, a5, ?_⟩
          intro e; subst e
          rcases hgf with h | h
          · exact a6 h
          · omega
        · exact ⟨by omega, by omega, by omega, by omega, by omega⟩
      have iP4 : IntR (fun y => (A y ∨ V2.heap.size ≤ y) ∧ y < V3.heap.size) V4 (.agg #[.bool s3, .slice a3 n3 c3]) (prodL (pre.map (·.1)) * (x.1 : Int)) :=
        iP3.restrict.keep fun y o hy _ _ => hoth y (hAlt y hy).2.2.1
      have iV4 : IntR (fun y => (A y ∨ V2.heap.size ≤ y) ∧ y < V3.heap.size) V4 (.agg #[.bool sb, .slice ab lb cb]) b :=
        ((iV2.below hb3').restrict.keep fun y o hy _ _ => hoth y (hA y hy.1).2.2.2.1).mono fun y hy => ⟨.inl hy.1, hy.2⟩
      refine ⟨trivial, (CallsIn.inRound l (callsIn_wide.2 (hN.gt _ V4 _ _ _ (hQ.below (hB.trans (hb2.trans hb24)) hQ.pos) ⟨.inl hA0, by omega⟩ hp3 (.inl hp4) iP4 iV4 (fun y hy => by have := hy.2; omega)))).mono ?_⟩
      rintro e V5 ⟨rfl, hb5⟩
      have l5 := k5.below hb5
      have l2 := k2.below hb5
      have l4 := Boxed.below k4 hb5
      have l6 := Boxed.below k6 hb5
      have hbV5 : Below w.heap.size V V5 := hb2.trans (hb24.trans (hb5.mono (by omega)))
      have hkb : ∀ {X Y : World}, Below X.heap.size X Y → KeepsOthers X Y := fun h => ⟨h.size, fun k o hk _ => (h.block k (hlt hk)).trans hk⟩
      have hk5 : KeepsOthers V V5 := ((hk2.trans (hkb hb3')).trans hk34).trans (hkb hb5)
      have hr5 : V5.ownsRow w.heap.size 59 1 (.slice (some ⟨g', 0, none⟩) (pre.length + 1) cap') (pre.length + 1) ((pre.map fun x => Value.int .u64 (x.1 : Int)) ++ [.int .u64 (x.1 : Int)]) := by
        obtain ⟨q1, q2⟩ := hr2
        refine ⟨q1, q2.imp id ?_⟩
        rintro ⟨g, cap, cur, e, y1, y2, y3⟩
        obtain rfl : g' = g := by simp at e; exact e.1
        exact ⟨g', cap, cur, e, y1, ((hb5.block _ (by omega)).trans ((hoth g' hg5).trans (hb3'.block _ (by omega)))).trans y2, y3⟩
      have emap : (pre ++ [x]).map (fun x : P32 => x.1) = pre.map (·.1) ++ [x.1] := by simp
      by_cases hgt : prodL (pre.map (·.1)) * (x.1 : Int) > 2 * b
      · simp only [decide_eq_true hgt]
        have c6 := l6.cell
        have c4 := l4.cell
        have c4f := l4.frozen
        gi_wp2
        have hg4 : g' ≠ w.heap.size + 1 := by
          rcases hgf with h | h
          · intro e; subst e; exact hn4 h
          · omega
        refine ⟨(hk5.trans (KeepsOthers.setCell _ _ _)).from _, rfl, ⟨_, l4.set _, ?_, fun rest => by rw [emap]; exact needS_end hS hgt rest⟩, (hB.trans hbV5).setCell (p := ⟨w.heap.size + 1, 0, none⟩) (by simp) _⟩
        have := ownsRow_cells (Y := V5.setCell ⟨w.heap.size + 1, 0, none⟩ (.slice (some ⟨g', 0, none⟩) (pre.length + 1) cap')) hr5 (fun g o e _ _ => by
          simp only [Value.ownBlock, Option.some.injEq] at e
          subst e; exact Below.heap_setCell _ ⟨w.heap.size + 1, 0, none⟩ _ _ hg4)
        simpa using this
      · simp only [decide_eq_false hgt]
        gi_wp2
        refine ⟨hk5.from _, hbV5, ⟨_, l6, by simpa using hr5, _, s3, a3, n3, c3, ⟨.inl hA0, by omega⟩, fun y hy => ?_, by rw [emap, prodL_snoc]; exact iP4.below hb5, iV4.below hb5, l5, l2, ⟨_, l4⟩, hB.trans hbV5, by rw [emap]; exact needS_snoc hS (by omega), by rw [emap, prodL_snoc]; exact hp3, by rw [emap, prodL_snoc]; omega⟩⟩
        obtain ⟨y1, y2, y3, y4, y5⟩ := hAlt y hy
        have := hb5.size
        exact ⟨by have := hy.2; omega, y1, y2, y3, y4, by simp only [Value.ownBlock, ne_eq, Option.some.injEq]; exact y5⟩
    case done =>
      rintro D ys V hD hys ⟨v, hv, hrow, A, sp, ap, np, cp, hA0, hA, iP, iV, h5, h2, ⟨u4, h4⟩, hB, hS, hp1, hp2⟩ hK
      have c4 := h4.cell
      have c4f := h4.frozen
      gi_wp2
      have hr : needRes pr b m = [] := by
        unfold needRes
        rw [if_neg (by omega), ← hys]
        have := hS []
        rw [List.append_nil] at this
        rw [this]; rfl
      have hv0 := h4.set (.slice none 0 0)
      have hK' := (KeepsOthers.setCell V ⟨w.heap.size + 1, 0, none⟩ (.slice none 0 0)).same _ _ hK rfl
      refine ⟨by simp, .inl ⟨_, _, rfl, run_takeDeferred hK', ?_⟩⟩
      have hc5 : ((V.setCell ⟨w.heap.size + 1, 0, none⟩ (.slice none 0 0)).putObj D (.deferred none)).cell? ⟨w.heap.size + 1, 0, none⟩ = some (.slice none 0 0) :=
        Boxed.cell ((World.putObj_heap_other (by omega)).trans hv0)
      rw [hr]
      refine ⟨.slice none 0 0, ?_, _, rfl, World.ownsRow_nil _ _ _ _, (hB.setCell (p := ⟨w.heap.size + 1, 0, none⟩) (by simp) _).trans (below_put hK' (by omega) _)⟩
      simp [results, Tryd.f33, go_sem, hc5]
    case stop =>
      rintro D c pre V hD ⟨rest, hpre⟩ ⟨rfl, ⟨v, h4, hrow, hS⟩, hB⟩ hK
      gi_wp2
      have hr : needRes pr b m = pre.map (·.1) := by
        unfold needRes
        rw [if_neg (by omega), ← hpre, hS]; rfl
      refine ⟨by simp, .inl ⟨_, _, rfl, run_takeDeferred hK, ?_⟩⟩
      have hc5 : (V.putObj D (.deferred none)).cell? ⟨w.heap.size + 1, 0, none⟩ = some v := Boxed.cell ((World.putObj_heap_other (by omega)).trans h4)
      rw [hr]
      refine ⟨v, ?_, _, rfl, by simpa [Function.comp_def] using ownsRow_putObj hrow _ hK rfl, hB.trans (below_put hK (by omega) _)⟩
      simp [results, Tryd.f33, go_sem, hc5]
    · rintro pre X Y row ⟨v, hv, hrow, A, sp, ap, np, cp, hA0, hA, iP, iV, h5, h2, ⟨u4, h4⟩, hB, hS, hp1, hp2⟩ hg hr
      have kc : ∀ (k : Nat) (o : Obj), X.heap[k]? = some o → o.isCells = true → Y.heap[k]? = X.heap[k]? := fun k o ho hc => grownBy_keeps_cells hg (fun r e => (hr r e).2) ho hc
      exact ⟨v, (kc _ _ hv rfl).trans hv, ownsRow_cells hrow (fun g o _ ho hc => kc g o ho hc), A, sp, ap, np, cp, hA0, fun y hy => ⟨Nat.lt_of_lt_of_le (hA y hy).1 hg.size, (hA y hy).2⟩, iP.keep (fun y o _ ho hc => kc y o ho hc), iV.keep (fun y o _ ho hc => kc y o ho hc),
        (kc _ _ h5 rfl).trans h5, (kc _ _ h2 rfl).trans h2, ⟨u4, (kc _ _ h4 rfl).trans h4⟩, hB.grown hg (Nat.le_trans (by omega) hB.size) (fun k e => by have := (hr k e).1; omega), hS, hp1, hp2⟩
    · rintro c pre X Y row ⟨hc0, ⟨v, h4, hrow, hS⟩, hB⟩ hg hr
      have kc : ∀ (k : Nat) (o : Obj), X.heap[k]? = some o → o.isCells = true → Y.heap[k]? = X.heap[k]? := fun k o ho hc => grownBy_keeps_cells hg (fun r e => (hr r e).2) ho hc
      exact ⟨hc0, ⟨v, (kc _ _ h4 rfl).trans h4, ownsRow_cells hrow (fun g o _ ho hc => kc g o ho hc), hS⟩, hB.grown hg (Nat.le_trans (by omega) hB.size) (fun k e => by have := (hr k e).1; omega)⟩
    · rintro x (hx | hx)
      · refine ⟨by omega, by omega, by omega, by omega, by omega, by simp [Value.ownBlock]⟩
      · refine ⟨by omega, by omega, by omega, by omega, by omega, by simp [Value.ownBlock]⟩
    · exact j1
    · exact needS_nil b
    · exact Int.le_refl _
    · show (1 : Int) ≤ 2 * b
      omega
end Go.Proofs.YthcbpifkgolknaaDoor
