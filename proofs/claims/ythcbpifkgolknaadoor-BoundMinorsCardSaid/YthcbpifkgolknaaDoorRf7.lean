/-
  Walks of ranges over functions (7).
  Conditions: none.
-/
import Derived.Test.YthcbpifkgolknaaDoorRf1
import Derived.Test.YthcbpifkgolknaaDoorM01
import Derived.Test.YthcbpifkgolknaaDoorM02
import Derived.Test.YthcbpifkgolknaaDoorM03
import Derived.Test.YthcbpifkgolknaaDoorM04
import Derived.Test.YthcbpifkgolknaaDoorM05
import Derived.Test.YthcbpifkgolknaaDoorM06
import Derived.Test.YthcbpifkgolknaaDoorM07
import Derived.Test.YthcbpifkgolknaaDoorM08
import Derived.Test.YthcbpifkgolknaaDoorM09
namespace Go.Proofs.YthcbpifkgolknaaDoor
open Go Go.RowKit Go.Shelf Tor
attribute [local go_sem] Oper.semAt_some

set_option maxRecDepth 100000 in
set_option maxHeartbeats 1000000 in
theorem tz111 (n : Nat) (w : World) (hT : QT w) :
    Calls Tryd.prog 111 #[.int .u64 n] w fun e w' => e = .returned (.int .i64 (if n = 0 then 64 else IntKind.i64.wrap (tzTab.getD (tzI n).toNat 0))) ∧ w' = w := by
  refine (callsIn_wide (n := 3)).1 ?_
  refine callsIn_of_wp Tryd.func111 rfl trivial ?_ rfl
  simp only [Tryd.ntmps111, List.size_toArray, List.length_cons, List.length_nil, Nat.reduceAdd, Nat.reduceSub, Array.replicate_succ, Array.replicate_zero, List.push_toArray, List.append_toArray, List.nil_append, List.cons_append]
  by_cases h0 : n = 0
  · subst h0
    gi_wp2
    go_ret
    exact ⟨rfl, rfl⟩
  · have h0' : ¬ (n : Int) = 0 := by omega
    have hi := tzI_lt n
    have ht := hT (tzI n).toNat (by omega)
    rw [if_neg h0]
    unfold tzI at hi ht ⊢
    gi_wp2
    go_ret
    refine ⟨?_, rfl⟩
    have hw : ∀ x, IntKind.i64.wrap x = wrap64 x := fun x => by
      unfold wrap64 IntKind.wrap
      simp only [IntKind.signed, IntKind.bits]
      simp
      omega
    rw [hw]
    rfl
end Go.Proofs.YthcbpifkgolknaaDoor
