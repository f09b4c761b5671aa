/-
  Walks of ranges over functions (2).
  Conditions: none.
-/
import Derived.Test.YthcbpifkgolknaaDoorRf1
namespace Go.Proofs.YthcbpifkgolknaaDoor
open Go Go.RowKit Go.Shelf Tor
attribute [local go_sem] Oper.semAt_some

theorem enters93 (args : Array Value) (w : World) : (callFunc 93 args).run Tryd.prog w = .ok (.enter 93 args) w := enters_of Tryd.func93 (by kernel_rfl) rfl args w

theorem hlt {W : World} {k : Nat} {o : Obj} (h : W.heap[k]? = some o) : k < W.heap.size := (Array.getElem?_eq_some_iff.1 h).1

theorem below_put {n0 k : Nat} {W : World} {o : Obj} (h : W.heap[k]? = some o) (hn : n0 ≤ k) (o' : Obj) : Below n0 W (W.putObj k o') :=
  (Below.refl n0 W).grown (grownBy_putObj' W k o') (by have := hlt h; omega) (fun j e => by cases e; omega)

structure JF (Bf T l D tf : Nat) (fv : Value) (rec : Loop) (n0 : Nat) (w0 W : World) : Prop where
  f : W.heap[Bf]? = some (.cells #[fv] tf (0, 0))
  t : ∃ v, W.heap[T]? = some (.cells #[v] 59 (0, 0))
  l : W.heap[l]? = some (.loop rec)
  d : W.heap[D]? = some (.deferred (some []))
  b : Below n0 w0 W

theorem JF.below {Bf T l D tf : Nat} {fv : Value} {rec : Loop} {n0 : Nat} {w0 W W' : World} (h : JF Bf T l D tf fv rec n0 w0 W) (hn : n0 ≤ w0.heap.size) (hb : Below W.heap.size W W') : JF Bf T l D tf fv rec n0 w0 W' :=
  ⟨(hb.block _ (hlt h.f)).trans h.f, h.t.imp fun v hv => (hb.block _ (hlt hv)).trans hv, (hb.block _ (hlt h.l)).trans h.l, (hb.block _ (hlt h.d)).trans h.d, h.b.trans (hb.mono (Nat.le_trans hn h.b.size))⟩

theorem JF.set {Bf T l D tf : Nat} {fv : Value} {rec : Loop} {n0 : Nat} {w0 W : World} {Bn : Nat} (h : JF Bf T l D tf fv rec n0 w0 W) (v : Value) (h1 : Bf ≠ Bn) (h2 : T ≠ Bn) (h3 : l ≠ Bn) (h4 : D ≠ Bn) (h5 : n0 ≤ Bn) : JF Bf T l D tf fv rec n0 w0 (W.setCell ⟨Bn, 0, none⟩ v) :=
  ⟨(Below.heap_setCell W ⟨Bn, 0, none⟩ v _ h1).trans h.f, h.t.imp fun v' hv => (Below.heap_setCell W ⟨Bn, 0, none⟩ v _ h2).trans hv, (Below.heap_setCell W ⟨Bn, 0, none⟩ v _ h3).trans h.l, (Below.heap_setCell W ⟨Bn, 0, none⟩ v _ h4).trans h.d, h.b.setCell (p := ⟨Bn, 0, none⟩) h5 _⟩

/-- A range over a function whose first round returns. -/
theorem range_once {P : Program} {n : Nat} {g : Operand} {ps : Array Tmp} {assign body : Code} {Q : Exit → Act → World → Prop} {a : Act} {w : World} {gf : Nat} {lb : Array Value}
    (hg : a.eval g = .func (.func gf) #[] lb) (eg : ∀ args w, (callFunc gf args).run P w = .ok (.enter gf args) w) (hps : ps.size = 1)
    (I : World → Prop) (Ix : Nat → World → Prop)
    (hI : ∀ W k o o', I W → W.heap[k]? = some o → o.isCells = false → w.heap.size ≤ k → I (W.putObj k o'))
    (hIx : ∀ x W k o o', Ix x W → W.heap[k]? = some o → o.isCells = false → w.heap.size ≤ k → Ix x (W.putObj k o'))
    (hIa : ∀ W o, I W → I (W.alloc o)) (h0 : I w) (a₁ : Nat → Act)
    (hassign : ∀ (l : Nat) (x : Nat) (W : World) (K : Act → World → Prop), K (a₁ x) W →
      assign.wpIn (Fence.wide.inRound l) (n - 1 - 1) P (Exit.then K (fun _ _ _ => False)) { tmps := (ps.zip #[.int .u64 (x : Int)]).foldl (fun t (p, v) => t.setIfInBounds p v) a.tmps, defers := [] } W)
    (hbody : ∀ (l : Nat) (x : Nat) (W : World), I W → body.wpIn (Fence.wide.inRound l) (n - 1 - 1) P (fun e _ W' => e = .ret ∧ KeepsOthers W W' ∧ Ix x W') (a₁ x) W)
    (r : Nat)
    (hseq : ∀ (l D : Nat) (rec : LoopState → Option Code → Loop) (W1 : World), l = w.heap.size + 1 → D = w.heap.size → I W1 → Below w.heap.size w W1 → W1.heap[l]? = some (.loop (rec .ready none)) → W1.heap[D]? = some (.deferred (some [])) →
      (∀ (x : Nat) (W : World), (I W ∧ W.heap[l]? = some (.loop (rec .ready none)) ∧ W.heap[D]? = some (.deferred (some []))) → YieldAt Fence.wide (n - 1 - 1) P l #[.int .u64 (x : Int)] W fun e W' =>
        e = .returned (.bool false) ∧ (Ix x W' ∧ W'.heap[l]? = some (.loop (rec .done (some .ret))) ∧ W'.heap[D]? = some (.deferred (some [])))) →
      CallsIn Fence.wide (n - 1) P gf (#[.func (.yield l) #[] #[]] ++ lb) W1 fun e W' => (∃ v, e = .returned v) ∧
        ((r = 0 ∧ (I W' ∧ W'.heap[l]? = some (.loop (rec .ready none)) ∧ W'.heap[D]? = some (.deferred (some [])))) ∨
         (r ≠ 0 ∧ (Ix r W' ∧ W'.heap[l]? = some (.loop (rec .done (some .ret))) ∧ W'.heap[D]? = some (.deferred (some []))))))
    (hdone : ∀ (D : Nat) (W : World), r = 0 → D = w.heap.size → I W → W.heap[D]? = some (.deferred (some [])) → Q .normal { a with defers := { target := .collected D, args := #[] } :: a.defers } W)
    (hstop : ∀ (D : Nat) (W : World), r ≠ 0 → D = w.heap.size → Ix r W → W.heap[D]? = some (.deferred (some [])) → Code.ret.wpIn Fence.wide n P Q { a with defers := { target := .collected D, args := #[] } :: a.defers } W) :
    (Code.rangeFunc g ps assign body).wpIn Fence.wide n P Q a w := by
  refine wpIn_rangeFunc ?_
  intro fn hfn
  obtain ⟨rec, hrec⟩ : ∃ rec : LoopState → Option Code → Loop, rec = fun st pe => { state := st, pending := pe, fn, tmps := a.tmps, params := ps, assign, body, defers := w.heap.size } := ⟨_, rfl⟩
  obtain ⟨W1, hW1⟩ : ∃ W1, (w.alloc (.deferred (some []))).alloc (.loop (rec .ready none)) = W1 := ⟨_, rfl⟩
  have hL1 : W1.heap[w.heap.size + 1]? = some (.loop (rec .ready none)) := by
    rw [← hW1]; have := World.alloc_heap_new (w.alloc (.deferred (some []))) (.loop (rec .ready none)); rwa [World.size_alloc] at this
  have hK1 : W1.heap[w.heap.size]? = some (.deferred (some [])) := by
    rw [← hW1]; exact (Below.heap_alloc _ _ _ (by simp)).trans (World.alloc_heap_new w _)
  have hI1 : I W1 := by rw [← hW1]; exact hIa _ _ (hIa _ _ h0)
  have hb1 : Below w.heap.size w W1 := by rw [← hW1]; exact ((Below.refl _ w).alloc (Nat.le_refl _) _).alloc (by simp) _
  refine ⟨w.heap.size + 1, [{ target := .collected w.heap.size, args := #[] }], W1, { target := .fn (.func gf) lb, args := #[.func (.yield (w.heap.size + 1)) #[] #[]] }, W1, gf,
    #[.func (.yield (w.heap.size + 1)) #[] #[]] ++ lb, W1, ?_, ?_, ?_, ?_, fun h => (by cases h), ?_⟩
  · rw [← hW1, hrec]; exact run_enterLoop_outer _ _ _ _ _
  · simp only [resolve, hg]
    simp [go_sem]
  · intro f' hf'; trivial
  · simp [invoke, go_sem, eg]
  · refine (hseq (w.heap.size + 1) w.heap.size rec W1 rfl rfl hI1 hb1 hL1 hK1 ?_).mono ?_
    · rintro x W ⟨hi, hl, hk⟩
      have hlt : w.heap.size + 1 < W.heap.size := hlt hl
      have hy := run_yield (P := P) (args := #[.int .u64 (x : Int)]) hl (by rw [hrec]; simp [hps])
      rw [hrec] at hy
      refine ⟨fn, _, assign, body, hy, roundIn_of_wpIn hfn (hassign _ x W _ ⟨_, run_beginRound hl (by rw [hrec]), ?_⟩)⟩
      have hl2 : (W.putObj (w.heap.size + 1) (.loop { rec .ready none with state := .busy })).heap[w.heap.size + 1]? = some (.loop { rec .ready none with state := .busy }) := World.putObj_heap_same hlt
      have hk2 : (W.putObj (w.heap.size + 1) (.loop { rec .ready none with state := .busy })).heap[w.heap.size]? = some (.deferred (some [])) := (World.putObj_heap_other (by omega)).trans hk
      refine wpIn_mono (hbody _ x _ (hI _ _ _ _ hi hl rfl (by omega))) ?_
      rintro e a3 W3 ⟨rfl, hk3, hi3⟩
      have hl3 := hk3.same _ _ hl2 rfl
      have hr := run_endRound (P := P) (some .ret) hl3
      rw [hrec] at hr ⊢
      rw [hrec] at hl3
      exact ⟨_, _, hr, rfl, hIx _ _ _ _ _ hi3 hl3 rfl (by omega), World.putObj_heap_same (Array.getElem?_eq_some_iff.1 hl3).1, (World.putObj_heap_other (by omega)).trans (hk3.same _ _ hk2 rfl)⟩
    · rintro e W2 ⟨⟨v, rfl⟩, (⟨h1, hi, hl, hk⟩ | ⟨h1, hi, hl, hk⟩)⟩
      · exact ⟨none, _, by have := run_endLoop (P := P) hl (by rw [hrec]; simp); rw [hrec] at this; exact this, hdone _ _ h1 rfl (hI _ _ _ _ hi hl rfl (by omega)) ((World.putObj_heap_other (by omega)).trans hk)⟩
      · exact ⟨some .ret, _, by have := run_endLoop (P := P) hl (by rw [hrec]; simp); rw [hrec] at this; exact this, hstop _ _ h1 rfl (hIx _ _ _ _ _ hi hl rfl (by omega)) ((World.putObj_heap_other (by omega)).trans hk)⟩

set_option maxRecDepth 100000 in
set_option maxHeartbeats 2000000 in
theorem first74 (n : Nat) (pr : Nat → Bool) (hP : ∀ (m : Nat) w, m ≤ 2147483648 → QT w → Calls Tryd.prog 94 #[.int .u64 m] w fun e w' => e = .returned (.bool (pr m)) ∧ Below w.heap.size w w')
    (Bf Bn n0 m tf tn : Nat) (hm : m ≤ 2147483648) (w0 w : World) (hcf : Boxed w Bf tf (.func (.func 76) #[] #[])) (hc : Boxed w Bn tn (.int .u64 m))
    (hBn : n0 ≤ Bn) (hw0 : n0 ≤ w0.heap.size) (hB : Below n0 w0 w) (hne : Bf ≠ Bn) (hQ : QT w0) (hn1 : 0 < n0) :
    CallsIn Fence.wide n Tryd.prog 74 #[.func (.func 93) #[] #[.pointer (some ⟨Bf, 0, none⟩), .pointer (some ⟨Bn, 0, none⟩)]] w fun e w' => e = .returned (.int .u64 (befGo pr m)) ∧ Below n0 w0 w' := by
  refine callsIn_of_wp_marks Tryd.func74 rfl trivial ?_ rfl
  simp only [Tryd.ntmps74, List.size_toArray, List.length_cons, List.length_nil, Nat.reduceAdd, Nat.reduceSub, Array.replicate_succ, Array.replicate_zero, List.push_toArray, List.append_toArray, List.nil_append, List.cons_append]
  gi_wp2
  have bT := Boxed.new w 59 (.int .u64 0)
  have bF := hcf.alloc (.cells #[.int .u64 0] 59)
  have bN := hc.alloc (.cells #[.int .u64 0] 59)
  have hltn := hc.lt
  have hltf := hcf.lt
  obtain ⟨W, hW⟩ : ∃ W, w.alloc (.cells #[.int .u64 0] 59) = W := ⟨_, rfl⟩
  have hsz : W.heap.size = w.heap.size + 1 := by rw [← hW]; simp
  have hBW : Below n0 w0 W := by rw [← hW]; exact hB.alloc (Nat.le_trans hw0 hB.size) _
  have hn0 : n0 ≤ w.heap.size := Nat.le_trans hw0 hB.size
  rw [hW] at bT bF bN ⊢
  refine range_once (gf := 93) (lb := #[.pointer (some ⟨Bf, 0, none⟩), .pointer (some ⟨Bn, 0, none⟩)]) rfl enters93 rfl
    (fun V => Boxed V Bf tf (.func (.func 76) #[] #[]) ∧ (∃ v, Boxed V w.heap.size 59 v) ∧ Below n0 w0 V) (fun x V => Boxed V w.heap.size 59 (.int .u64 (x : Int)) ∧ Below n0 w0 V)
    ?_ ?_ ?_ ⟨bF, ⟨_, bT⟩, hBW⟩ (fun x => { tmps := #[.func (.func 93) #[] #[.pointer (some ⟨Bf, 0, none⟩), .pointer (some ⟨Bn, 0, none⟩)], undef, .pointer (some ⟨w.heap.size, 0, none⟩), .int .u64 (x : Int), .func (.func 93) #[] #[.pointer (some ⟨Bf, 0, none⟩), .pointer (some ⟨Bn, 0, none⟩)], .int .u64 (x : Int), undef], defers := [] })
    ?assign ?body (befGo pr m) ?seq ?done ?stop
  case assign =>
    intro l x W K hK
    gi_wp2
    exact hK
  case body =>
    rintro l x V ⟨_, ⟨v, hv⟩, hb⟩
    have hcv := hv.cell
    have hfv := hv.frozen
    gi_wp2
    exact ⟨KeepsOthers.setCell _ _ _, hv.set _, hb.setCell (p := ⟨w.heap.size, 0, none⟩) hn0 _⟩
  case seq =>
    rintro l D rec W1 rfl rfl ⟨i1, i2, i3⟩ hb1 hl hk hY
    have hnB : Boxed W1 Bn tn (.int .u64 m) := (hb1.block _ (by omega)).trans bN
    refine primes93 _ pr hP (W.heap.size + 1) Bf Bn (fun V => (Boxed V Bf tf (.func (.func 76) #[] #[]) ∧ (∃ v, Boxed V w.heap.size 59 v) ∧ Below n0 w0 V) ∧ V.heap[W.heap.size + 1]? = some (.loop (rec .ready none)) ∧ V.heap[W.heap.size]? = some (.deferred (some [])))
      (fun x V => (Boxed V w.heap.size 59 (.int .u64 (x : Int)) ∧ Below n0 w0 V) ∧ V.heap[W.heap.size + 1]? = some (.loop (rec .done (some .ret))) ∧ V.heap[W.heap.size]? = some (.deferred (some []))) ?_ ?_ (fun V hV => hQ.below hV.1.2.2 hn1) ?_ hY m hm W1 hnB.cell hnB.frozen ⟨⟨i1, i2, i3⟩, hl, hk⟩
    · rintro V V' ⟨⟨q1, ⟨v, q2⟩, q3⟩, q4, q5⟩ hb
      exact ⟨⟨(hb.block _ (hlt q1)).trans q1, ⟨v, (hb.block _ (hlt q2)).trans q2⟩, q3.trans (hb.mono (Nat.le_trans hw0 q3.size))⟩, (hb.block _ (hlt q4)).trans q4, (hb.block _ (hlt q5)).trans q5⟩
    · rintro V u ⟨⟨q1, ⟨v, q2⟩, q3⟩, q4, q5⟩
      exact ⟨⟨(Below.heap_setCell V ⟨Bn, 0, none⟩ u _ hne).trans q1, ⟨v, (Below.heap_setCell V ⟨Bn, 0, none⟩ u _ (by show w.heap.size ≠ Bn; omega)).trans q2⟩, q3.setCell (p := ⟨Bn, 0, none⟩) hBn _⟩,
        (Below.heap_setCell V ⟨Bn, 0, none⟩ u _ (by show W.heap.size + 1 ≠ Bn; omega)).trans q4, (Below.heap_setCell V ⟨Bn, 0, none⟩ u _ (by show W.heap.size ≠ Bn; omega)).trans q5⟩
    · rintro V ⟨⟨q1, _⟩, _⟩
      exact q1.cell
  case done =>
    rintro D V h1 rfl ⟨_, ⟨v, hv⟩, hb⟩ hK
    have hcv := hv.cell
    have hfv := hv.frozen
    gi_wp2
    have hv0 := hv.set (.int .u64 0)
    have hK' := (KeepsOthers.setCell V ⟨w.heap.size, 0, none⟩ (.int .u64 0)).same _ _ hK rfl
    refine ⟨by simp, .inl ⟨_, _, rfl, run_takeDeferred hK', ?_⟩⟩
    have hc5 : ((V.setCell ⟨w.heap.size, 0, none⟩ (.int .u64 0)).putObj W.heap.size (.deferred none)).cell? ⟨w.heap.size, 0, none⟩ = some (.int .u64 0) :=
      Boxed.cell ((World.putObj_heap_other (by omega)).trans hv0)
    refine ⟨.int .u64 0, ?_, by rw [h1]; rfl, (hb.setCell (p := ⟨w.heap.size, 0, none⟩) hn0 _).trans (below_put hK' (by omega) _)⟩
    simp [results, Tryd.f74, go_sem, hc5]
  case stop =>
    rintro D V h1 rfl ⟨hv, hb⟩ hK
    gi_wp2
    refine ⟨by simp, .inl ⟨_, _, rfl, run_takeDeferred hK, ?_⟩⟩
    have hc5 : (V.putObj W.heap.size (.deferred none)).cell? ⟨w.heap.size, 0, none⟩ = some (.int .u64 (befGo pr m)) := Boxed.cell ((World.putObj_heap_other (by omega)).trans hv)
    refine ⟨.int .u64 (befGo pr m), ?_, rfl, hb.trans (below_put hK (by omega) _)⟩
    simp [results, Tryd.f74, go_sem, hc5]
  · rintro V k o o' ⟨q1, ⟨v, q2⟩, q3⟩ hk ho hge
    exact ⟨(World.putObj_heap_other (by omega)).trans q1, ⟨v, (World.putObj_heap_other (by omega)).trans q2⟩, q3.trans (below_put hk (by omega) _)⟩
  · rintro x V k o o' ⟨q2, q3⟩ hk ho hge
    exact ⟨(World.putObj_heap_other (by omega)).trans q2, q3.trans (below_put hk (by omega) _)⟩
  · rintro V o ⟨q1, ⟨v, q2⟩, q3⟩
    exact ⟨q1.alloc _, ⟨v, q2.alloc _⟩, q3.alloc (Nat.le_trans hw0 q3.size) _⟩

set_option maxRecDepth 100000 in
set_option maxHeartbeats 1000000 in
theorem primes75 (n : Nat) (m : Int) (w : World) :
    CallsIn Fence.wide n Tryd.prog 75 #[.int .u64 m, .func (.func 76) #[] #[]] w fun e w' => e = .returned (.func (.func 93) #[] #[.pointer (some ⟨w.heap.size + 1, 0, none⟩), .pointer (some ⟨w.heap.size, 0, none⟩)]) ∧
      w' = (w.alloc (.cells #[.int .u64 m] 59)).alloc (.cells #[.func (.func 76) #[] #[]] 98) := by
  refine callsIn_of_wp Tryd.func75 rfl trivial ?_ rfl
  simp only [Tryd.ntmps75, List.size_toArray, List.length_cons, List.length_nil, Nat.reduceAdd, Nat.reduceSub, Array.replicate_succ, Array.replicate_zero, List.push_toArray, List.append_toArray, List.nil_append, List.cons_append]
  gi_wp2
  go_ret
  exact ⟨rfl, rfl⟩

set_option maxRecDepth 100000 in
set_option maxHeartbeats 1000000 in
theorem before66 (pr : Nat → Bool) (hP : ∀ (m : Nat) w, m ≤ 2147483648 → QT w → Calls Tryd.prog 94 #[.int .u64 m] w fun e w' => e = .returned (.bool (pr m)) ∧ Below w.heap.size w w') (m : Nat) (w : World) (hQ : QT w) :
    Calls Tryd.prog 66 #[.int .u64 m] w fun e w' => e = .returned (.int .u64 (befGo pr (min m 2147483648))) ∧ Below w.heap.size w w' := by
  refine (callsIn_wide (n := 3)).1 ?_
  have hf : ∀ (q : Nat) (n : Nat), q ≤ 2147483648 → CallsIn Fence.wide n Tryd.prog 74 #[.func (.func 93) #[] #[.pointer (some ⟨w.heap.size + 1, 0, none⟩), .pointer (some ⟨w.heap.size, 0, none⟩)]] ((w.alloc (.cells #[.int .u64 q] 59)).alloc (.cells #[.func (.func 76) #[] #[]] 98)) fun e w' => e = .returned (.int .u64 (befGo pr q)) ∧ Below w.heap.size w w' := fun q n hq => by
    have b1 := (Boxed.new w 59 (.int .u64 (q : Int))).alloc (.cells #[.func (.func 76) #[] #[]] 98)
    have b2 := Boxed.new (w.alloc (.cells #[.int .u64 (q : Int)] 59)) 98 (.func (.func 76) #[] #[])
    rw [World.size_alloc] at b2
    exact first74 n pr hP (w.heap.size + 1) w.heap.size w.heap.size q 98 59 hq w _ b2 b1 (Nat.le_refl _) (Nat.le_refl _) (((Below.refl _ w).alloc (Nat.le_refl _) _).alloc (by simp) _) (by omega) hQ hQ.pos
  refine callsIn_of_wp Tryd.func66 rfl trivial ?_ rfl
  simp only [Tryd.ntmps66, List.size_toArray, List.length_cons, List.length_nil, Nat.reduceAdd, Nat.reduceSub, Array.replicate_succ, Array.replicate_zero, List.push_toArray, List.append_toArray, List.nil_append, List.cons_append]
  by_cases hm : m ≤ 2147483648
  · have hmin : min m 2147483648 = m := by omega
    rw [hmin]
    have h1 : (m : Int) ≤ 2147483648 := by omega
    have h2 : ¬ (2147483648 : Int) < (m : Int) := by omega
    gi_wp2
    refine ⟨trivial, (primes75 _ _ _).mono ?_⟩
    rintro e w' ⟨rfl, rfl⟩
    gi_wp2
    refine ⟨trivial, (hf m _ (by omega)).mono ?_⟩
    rintro e w' ⟨rfl, hb⟩
    gi_wp2
    go_ret
    exact ⟨rfl, hb⟩
  · have hmin : min m 2147483648 = 2147483648 := by omega
    rw [hmin]
    have h1 : ¬ (m : Int) ≤ 2147483648 := by omega
    have h2 : (2147483648 : Int) < (m : Int) := by omega
    gi_wp2
    refine ⟨trivial, (primes75 _ _ _).mono ?_⟩
    rintro e w' ⟨rfl, rfl⟩
    gi_wp2
    refine ⟨trivial, (hf 2147483648 _ (by omega)).mono ?_⟩
    rintro e w' ⟨rfl, hb⟩
    gi_wp2
    go_ret
    exact ⟨rfl, hb⟩
end Go.Proofs.YthcbpifkgolknaaDoor
