/-
  Walks of ranges over functions (3).
  Conditions: none.
-/
import Derived.Test.YthcbpifkgolknaaDoorRf2
namespace Go.Proofs.YthcbpifkgolknaaDoor
open Go Go.RowKit Go.Shelf Tor
attribute [local go_sem] Oper.semAt_some

set_option maxRecDepth 100000 in
set_option maxHeartbeats 1000000 in
theorem below65 (n : Nat) (pr : Nat → Bool) (hP : ∀ (m : Nat) w, m ≤ 2147483648 → QT w → Calls Tryd.prog 94 #[.int .u64 m] w fun e w' => e = .returned (.bool (pr m)) ∧ Below w.heap.size w w')
    (l B n₀ m : Nat) (J Jx : List Nat → World → Prop) (hJB : ∀ pre W W', J pre W → Below W.heap.size W W' → J pre W')
    (hY : ∀ pre (x : Nat) W, 1 ≤ x → x ≤ 2147483648 → J pre W → pre.length < (allBelow pr (min m 2147483648)).length → YieldAt Fence.wide (n - 1) Tryd.prog l #[.int .u64 (x : Int)] W fun e W' =>
      (e = .returned (.bool true) ∧ J (pre ++ [x]) W' ∧ Below n₀ W W') ∨ (e = .returned (.bool false) ∧ Jx (pre ++ [x]) W'))
    (W : World) (hB : W.cell? ⟨B, 0, none⟩ = some (.int .u64 m)) (h0 : J [] W) (hQ : QT W) (hn1 : 0 < n₀) :
    CallsIn Fence.wide n Tryd.prog 65 #[.func (.yield l) #[] #[], .pointer (some ⟨B, 0, none⟩)] W fun e W' => (∃ v, e = .returned v) ∧
      ((∃ ys, ys = allBelow pr (min m 2147483648) ∧ J ys W') ∨ (∃ pre, pre <+: allBelow pr (min m 2147483648) ∧ Jx pre W')) := by
  refine callsIn_of_wp Tryd.func65 rfl trivial ?_ rfl
  simp only [Tryd.ntmps65, List.size_toArray, List.length_cons, List.length_nil, Nat.reduceAdd, Nat.reduceSub, Array.replicate_succ, Array.replicate_zero, List.push_toArray, List.append_toArray, List.nil_append, List.cons_append]
  gi_wp2
  refine ⟨trivial, fun h => (by cases h), (callsIn_wide.2 (before66 pr hP m _ hQ)).mono ?_⟩
  rintro e w1 ⟨rfl, hb1⟩
  gi_wp2
  gi_loopw [3] (fun p wr => ∃ (pre : List Nat) (q : Nat), p = .int .u64 q ∧ q ≤ 2147483648 ∧ allBelow pr (min m 2147483648) = pre ++ (if q = 0 then [] else q :: allBelow pr q) ∧ J pre wr ∧ QT wr)
    (fun p _ => intN p)
  case atStart =>
    refine ⟨[], _, rfl, ?_, ?_, hJB _ _ _ h0 hb1, hQ.below hb1 hQ.pos⟩
    · by_cases h : befGo pr (min m 2147483648) = 0
      · omega
      · have := befGo_lt pr _ h; omega
    · rw [allBelow_eq]; rfl
  case round =>
    obtain ⟨pre, q, rfl, hq, hx, hJs, hQr⟩ := hrel
    by_cases h0 : q = 0
    · subst h0
      rw [if_pos rfl, List.append_nil] at hx
      gi_wp2
      all_goals first
        | (exfalso; exact absurd ‹some undef = some (Value.bool _)› (by simp [undef]))
        | (refine ⟨fun _ h => (by cases h), ?_⟩
           gi_wp2
           go_end0
           exact ⟨⟨_, rfl⟩, .inl ⟨pre, hx.symm, hJs⟩⟩)
    · rw [if_neg h0] at hx
      have h1 : (q : Int) > 0 := by omega
      have h1' : (0 : Int) < (q : Int) := by omega
      obtain ⟨fn, tmps, assign, body, hy, hR⟩ := hY pre q wr (by omega) hq hJs (by rw [hx]; simp)
      gi_wp2
      refine ⟨fun h => (by cases h), ?_⟩
      refine hR.mono ?_
      rintro e W3 (⟨rfl, hJ3, hk3⟩ | ⟨rfl, hJx3⟩)
      · gi_wp2
        refine ⟨trivial, fun h => (by cases h), (callsIn_wide.2 (before66 pr hP q _ (hQr.below hk3 hn1))).mono ?_⟩
        rintro e w4 ⟨rfl, hb4⟩
        have hmin : min q 2147483648 = q := by omega
        rw [hmin]
        gi_wp2
        go_roundw
        case rel =>
          refine ⟨pre ++ [q], befGo pr q, rfl, ?_, ?_, hJB _ _ _ hJ3 hb4, (hQr.below hk3 hn1).below hb4 (hQr.below hk3 hn1).pos⟩
          · by_cases h : befGo pr q = 0
            · omega
            · have := befGo_lt pr _ h; omega
          · rw [hx, allBelow_eq pr q]; simp
        case measure =>
          simp only [intN]
          by_cases h : befGo pr q = 0
          · omega
          · have := befGo_lt pr _ h; omega
      · gi_wp2
        refine bodyPost_end (results_none rfl _ _ _) rfl ?_
        exact ⟨⟨_, rfl⟩, .inr ⟨pre ++ [q], ⟨allBelow pr q, by rw [hx]; simp⟩, hJx3⟩⟩

set_option maxRecDepth 100000 in
theorem below48 (n : Nat) (m : Int) (w : World) :
    CallsIn Fence.wide n Tryd.prog 48 #[.int .u64 m] w fun e w' => e = .returned (.func (.func 65) #[] #[.pointer (some ⟨w.heap.size, 0, none⟩)]) ∧ w' = w.alloc (.cells #[.int .u64 m] 59) := by
  refine callsIn_of_wp Tryd.func48 rfl trivial ?_ rfl
  simp only [Tryd.ntmps48, List.size_toArray, List.length_cons, List.length_nil, Nat.reduceAdd, Nat.reduceSub, Array.replicate_succ, Array.replicate_zero, List.push_toArray, List.append_toArray, List.nil_append, List.cons_append]
  gi_wp2
  go_ret
  exact ⟨rfl, rfl⟩

theorem below_stops (n : Nat) (pr : Nat → Bool) (hP : ∀ (m : Nat) w, m ≤ 2147483648 → QT w → Calls Tryd.prog 94 #[.int .u64 m] w fun e w' => e = .returned (.bool (pr m)) ∧ Below w.heap.size w w')
    (B n₀ m : Nat) (w : World) (hlt : B < w.heap.size) (hB : w.cell? ⟨B, 0, none⟩ = some (.int .u64 m)) (hQ : QT w) (hn1 : 0 < n₀) :
    SeqStopsK Fence.wide n Tryd.prog 65 #[.pointer (some ⟨B, 0, none⟩)] (fun x : Nat => #[Value.int .u64 (x : Int)]) (Below n₀) (fun ys => ys = allBelow pr (min m 2147483648)) (fun pre => pre <+: allBelow pr (min m 2147483648)) (allBelow pr (min m 2147483648)).length w :=
  fun l J Jx W hW hJ _ hY h0 => below65 n pr hP l B n₀ m J Jx (fun pre V V' hj hb => hJ pre V V' none hj ⟨hb.os, hb.tape, hb.output, hb.size, fun k hk _ => hb.block k hk⟩ (fun r e => by cases e)) (fun pre x W _ _ => hY pre x W) W ((hW.cell (p := ⟨B, 0, none⟩) hlt).trans hB) h0 (hQ.below hW hQ.pos) hn1

/-- The numbers that come: not 0, and not great. -/
abbrev P32 := { x : Nat // 1 ≤ x ∧ x ≤ 2147483648 }

theorem below_stopsP (n : Nat) (pr : Nat → Bool) (hP : ∀ (m : Nat) w, m ≤ 2147483648 → QT w → Calls Tryd.prog 94 #[.int .u64 m] w fun e w' => e = .returned (.bool (pr m)) ∧ Below w.heap.size w w')
    (B n₀ m : Nat) (w : World) (hlt : B < w.heap.size) (hB : w.cell? ⟨B, 0, none⟩ = some (.int .u64 m)) (hQ : QT w) (hn1 : 0 < n₀) :
    SeqStopsK Fence.wide n Tryd.prog 65 #[.pointer (some ⟨B, 0, none⟩)] (fun x : P32 => #[Value.int .u64 (x.1 : Int)]) (Below n₀) (fun ys => ys.map (·.1) = allBelow pr (min m 2147483648)) (fun pre => pre.map (·.1) <+: allBelow pr (min m 2147483648)) (allBelow pr (min m 2147483648)).length w := by
  intro l J Jx W hW hJ _ hY h0
  refine (below65 n pr hP l B n₀ m (fun pre V => ∃ q : List P32, q.map (·.1) = pre ∧ J q V) (fun pre V => ∃ q : List P32, q.map (·.1) = pre ∧ Jx q V)
    (fun pre V V' hj hb => ?_) ?_ W ((hW.cell (p := ⟨B, 0, none⟩) hlt).trans hB) ⟨[], rfl, h0⟩ (hQ.below hW hQ.pos) hn1).mono ?_
  · obtain ⟨q, hq, hj⟩ := hj
    exact ⟨q, hq, hJ q V V' none hj ⟨hb.os, hb.tape, hb.output, hb.size, fun k hk _ => hb.block k hk⟩ (fun r e => by cases e)⟩
  · rintro pre x V h1 h2 ⟨q, rfl, hj⟩ hlen
    obtain ⟨fn, tmps, assign, body, hy, hR⟩ := hY q ⟨x, h1, h2⟩ V hj (by simpa using hlen)
    refine ⟨fn, tmps, assign, body, hy, hR.mono ?_⟩
    rintro e W' (⟨rfl, h3, h4⟩ | ⟨rfl, h3⟩)
    · exact .inl ⟨rfl, ⟨_, by simp, h3⟩, h4⟩
    · exact .inr ⟨rfl, _, by simp, h3⟩
  · rintro e W' ⟨hv, ⟨ys, rfl, q, hq, hj⟩ | ⟨pre, hp, q, rfl, hj⟩⟩
    · exact ⟨hv, .inl ⟨q, hq, hj⟩⟩
    · exact ⟨hv, .inr ⟨q, hp, hj⟩⟩

theorem enters65 (args : Array Value) (w : World) : (callFunc 65 args).run Tryd.prog w = .ok (.enter 65 args) w := enters_of Tryd.func65 (by kernel_rfl) rfl args w
theorem info59 : (Tryd.prog.info? 59).map (fun i => (i.zero, i.size, i.bytes)) = some (some (.int .u64 0), 1, 8) := by kernel_rfl
end Go.Proofs.YthcbpifkgolknaaDoor
