/-
  Walks of ranges over functions (1).
  Conditions: none.
-/
import Derived.RangeFuncNested
import Derived.RangeFuncBound
import Derived.RangeFuncCalls
import Derived.RangeFuncLeaves
import Derived.RangeFuncBox
import Derived.Shelf.Abstract
import Derived.Shelf.RegionOpen
import Derived.WalkKit
import Derived.OwnWalkIn
import Derived.TacticsInMore
import Derived.LoopNIn
import Derived.LoopIn
import Derived.Maps.AppendAt
import Derived.Test.YthcbpifkgolknaaDoorProg
import Derived.Test.YthcbpifkgolknaaDoorM01
import Derived.Test.YthcbpifkgolknaaDoorM02
import Derived.Test.YthcbpifkgolknaaDoorM03
import Derived.Test.YthcbpifkgolknaaDoorM04
import Derived.Test.YthcbpifkgolknaaDoorM05
import Derived.Test.YthcbpifkgolknaaDoorM06
import Derived.Test.YthcbpifkgolknaaDoorM07
import Derived.Test.YthcbpifkgolknaaDoorM08
import Derived.Test.YthcbpifkgolknaaDoorM09
namespace Go.Proofs.YthcbpifkgolknaaDoor
open Go Go.RowKit Go.Shelf Tor
attribute [local go_sem] Oper.semAt_some

set_option maxRecDepth 100000 in
theorem step76 (F : Fence) (n : Nat) (h : F.fn 76) (hro : F.round = none) (m : Int) (w : World) :
    CallsIn F n Tryd.prog 76 #[.int .u64 m] w fun e w' => e = .returned (.tuple #[.int .u64 (IntKind.u64.wrap (m - 1)), .bool (decide (m > 2))]) ∧ w' = w := by
  refine callsIn_of_wp Tryd.func76 rfl h ?_ hro
  simp only [Tryd.ntmps76, List.size_toArray, List.length_cons, List.length_nil, Nat.reduceAdd, Nat.reduceSub, Array.replicate_succ, Array.replicate_zero, List.push_toArray, List.append_toArray, List.nil_append, List.cons_append]
  gi_wp2
  refine bodyPost_ret (results_tmp2 rfl _ _ _) rfl ?_
  exact ⟨rfl, rfl⟩

theorem cell_lt {w : World} {a : Addr} {v : Value} (h : w.cell? a = some v) : a.block < w.heap.size := by
  obtain ⟨o, ho, _⟩ := not_walk_of_cell h
  exact (Array.getElem?_eq_some_iff.1 ho).1

def tzT (i : Nat) : Int := tzTab.getD i 0
/-- The variable's cells. -/
abbrev QT (w : World) : Prop := QTw w
theorem _root_.Tor.QTw.below {w w' : World} {B : Nat} (h : QT w) (hb : Below B w w') (hB : 0 < B) : QT w' := fun i hi => (hb.cell (p := ⟨0, i, none⟩) hB).trans (h i hi)
theorem _root_.Tor.QTw.pos {w : World} (h : QT w) : 0 < w.heap.size := Nat.lt_of_le_of_lt (Nat.zero_le _) (cell_lt (h 0 (by decide)))

def intN : Value → Nat
  | .int _ n => n.toNat
  | _ => 0

set_option maxRecDepth 100000 in
set_option maxHeartbeats 1000000 in
theorem primes93 (n : Nat) (pr : Nat → Bool) (hP : ∀ (m : Nat) w, m ≤ 2147483648 → QT w → Calls Tryd.prog 94 #[.int .u64 m] w fun e w' => e = .returned (.bool (pr m)) ∧ Below w.heap.size w w')
    (l Bf Bn : Nat) (J : World → Prop) (Jx : Nat → World → Prop)
    (hJB : ∀ W W', J W → Below W.heap.size W W' → J W') (hJs : ∀ W v, J W → J (W.setCell ⟨Bn, 0, none⟩ v))
    (hJQ : ∀ W, J W → QT W) (hJc : ∀ W, J W → W.cell? ⟨Bf, 0, none⟩ = some (.func (.func 76) #[] #[]))
    (hY : ∀ (x : Nat) W, J W → YieldAt Fence.wide (n - 1) Tryd.prog l #[.int .u64 x] W fun e W' => e = .returned (.bool false) ∧ Jx x W')
    (m : Nat) (hm : m ≤ 2147483648) (W : World) (hc : W.cell? ⟨Bn, 0, none⟩ = some (.int .u64 m)) (hf : W.frozen? ⟨Bn, 0, none⟩ = false) (h0 : J W) :
    CallsIn Fence.wide n Tryd.prog 93 #[.func (.yield l) #[] #[], .pointer (some ⟨Bf, 0, none⟩), .pointer (some ⟨Bn, 0, none⟩)] W fun e W' => (∃ v, e = .returned v) ∧
      ((befGo pr m = 0 ∧ J W') ∨ (befGo pr m ≠ 0 ∧ Jx (befGo pr m) W')) := by
  refine callsIn_of_wp Tryd.func93 rfl trivial ?_ rfl
  simp only [Tryd.ntmps93, List.size_toArray, List.length_cons, List.length_nil, Nat.reduceAdd, Nat.reduceSub, Array.replicate_succ, Array.replicate_zero, List.push_toArray, List.append_toArray, List.nil_append, List.cons_append]
  gi_wp2
  gi_loopw [] (fun wr => ∃ k : Nat, wr.cell? ⟨Bn, 0, none⟩ = some (.int .u64 k) ∧ wr.frozen? ⟨Bn, 0, none⟩ = false ∧ k ≤ 2147483648 ∧ befGo pr k = befGo pr m ∧ J wr)
    (fun wr => ((wr.cell? ⟨Bn, 0, none⟩).elim 0 intN))
  case atStart => exact ⟨m, hc, hf, hm, rfl, h0⟩
  case round =>
    obtain ⟨k, hc, hf, hk, hb, hJ⟩ := hrel
    have hcf := hJc _ hJ
    rcases k with _ | k
    · have h2 : ¬ ((0 : Nat) : Int) > 2 := by decide
      gi_wp2_with (refine ⟨trivial, fun h => (by cases h), ?_⟩; refine (step76 Fence.wide _ trivial rfl 0 _).mono ?_; rintro e w' ⟨rfl, rfl⟩)
      refine ⟨trivial, ?_⟩
      gi_wp2
      all_goals first
        | (exfalso; exact absurd ‹some undef = some (Value.bool _)› (by simp [undef]))
        | (refine ⟨fun _ h => (by cases h), ?_⟩
           gi_wp2
           refine bodyPost_ret (results_none rfl _ _ _) rfl ?_
           exact ⟨⟨_, rfl⟩, .inl ⟨hb.symm, hJ⟩⟩)
    · have hk2 : ((k + 1 : Nat) : Int) - 1 = (k : Int) := by omega
      have hkw : IntKind.u64.wrap (((k + 1 : Nat) : Int) - 1) = (k : Int) := by rw [hk2]; show (k : Int) % 18446744073709551616 = k; omega
      by_cases h2 : k + 1 ≤ 2
      · have h2' : ¬ ((k + 1 : Nat) : Int) > 2 := by omega
        gi_wp2_with (refine ⟨trivial, fun h => (by cases h), ?_⟩; refine (step76 Fence.wide _ trivial rfl ((k + 1 : Nat) : Int) _).mono ?_; rintro e w' ⟨rfl, rfl⟩; simp only [decide_eq_false h2', hkw])
        refine ⟨trivial, ?_⟩
        gi_wp2
        all_goals first
          | (exfalso; exact absurd ‹some undef = some (Value.bool _)› (by simp [undef]))
          | (refine ⟨fun _ h => (by cases h), ?_⟩
             gi_wp2
             refine bodyPost_ret (results_none rfl _ _ _) rfl ?_
             refine ⟨⟨_, rfl⟩, .inl ⟨?_, hJ⟩⟩
             rw [← hb, befGo, if_pos h2])
      · have h2' : ((k + 1 : Nat) : Int) > 2 := by omega
        cases hpr : pr k with
        | false =>
          gi_wp2_with (refine ⟨trivial, fun h => (by cases h), ?_⟩; refine (step76 Fence.wide _ trivial rfl ((k + 1 : Nat) : Int) _).mono ?_; rintro e w' ⟨rfl, rfl⟩; simp only [decide_eq_true h2', hkw])
          refine ⟨trivial, fun h => (by cases h), ?_⟩
          refine (callsIn_wide.2 (hP k _ (by omega) (hJQ _ hJ))).mono ?_
          rintro e w2 ⟨rfl, hB⟩
          simp only [hpr]
          have hc2 := (hB.cell (p := ⟨Bn, 0, none⟩) (cell_lt hc)).trans hc
          have hf2 := (hB.frozen (p := ⟨Bn, 0, none⟩) (cell_lt hc)).trans hf
          have hJ2 := hJB _ _ hJ hB
          gi_wp2
          all_goals first
            | (exfalso; exact absurd ‹some undef = some (Value.bool _)› (by simp [undef]))
            | (refine ⟨fun _ h => (by cases h), ?_⟩
               gi_wp2
               go_roundw
               case rel => exact ⟨k, World.cell?_setCell_same _ _ _ hc2, by rw [World.frozen?_setCell]; exact hf2, by omega, by rw [← hb, befGo, if_neg h2, hpr]; rfl, hJs _ _ hJ2⟩
               case measure => rw [World.cell?_setCell_same _ _ _ hc2, hc]; simp only [Option.elim, intN]; omega)
        | true =>
          gi_wp2_with (refine ⟨trivial, fun h => (by cases h), ?_⟩; refine (step76 Fence.wide _ trivial rfl ((k + 1 : Nat) : Int) _).mono ?_; rintro e w' ⟨rfl, rfl⟩; simp only [decide_eq_true h2', hkw])
          refine ⟨trivial, fun h => (by cases h), ?_⟩
          refine (callsIn_wide.2 (hP k _ (by omega) (hJQ _ hJ))).mono ?_
          rintro e w2 ⟨rfl, hB⟩
          simp only [hpr]
          have hJ2 := hJB _ _ hJ hB
          obtain ⟨fn, tmps, assign, body, hy, hR⟩ := hY k w2 hJ2
          gi_wp2
          refine ⟨fun h => (by cases h), ?_⟩
          refine hR.mono ?_
          rintro e W3 ⟨rfl, hJx⟩
          gi_wp2
          refine bodyPost_ret (results_none rfl _ _ _) rfl ?_
          have he : befGo pr m = k := by rw [← hb, befGo, if_neg h2, if_pos hpr]
          exact ⟨⟨_, rfl⟩, .inr ⟨by omega, by rw [he]; exact hJx⟩⟩
end Go.Proofs.YthcbpifkgolknaaDoor
