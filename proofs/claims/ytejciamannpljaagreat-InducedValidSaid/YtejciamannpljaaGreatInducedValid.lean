/-
  The law torsion/torsionlaw29.InducedValid answers true at every input, and each argument reads afterwards as it read before.
  Conditions: none.
-/
import Derived.Test.YtejciamannpljaaGreatTie
import Derived.WalkKit
import Derived.ProofKit
import Derived.OpenShut
import Derived.ShutString
import Derived.ChangeOld
import Derived.Below
namespace Go.Proofs.YtejciamannpljaaGreat.lawInducedValid
open Go.ChangeShapes Go.WideShapes Go.ChangeAt Go.RowKit Tor
set_option linter.unusedVariables false

set_option maxRecDepth 100000 in
theorem lifted (os : Os) (started : os.Started) (H : Type) (enc : TypeId × Value → H) :
    ReturnsInHanded {} Tryz.checked os 4 .any (Rows.inducedValidSpec.pre6 enc Tryz.prog Tryz.f4 Rows.inducedValidRow.domain false) (Rows.inducedValidSpec.post enc Tryz.prog Tryz.f4 false true false false) := by
  refine returnsInHanded_of_change (C := Tryz.checked) own started (by kernel_rfl) Tryz.func4
    (ChangeSpec.witness6 (enc := enc) (C := Tryz.checked) false ⟨#[], #[.agg #[.int .u8 0, .slice none 0 0, .int .u8 0, .int .i8 0, .slice none 0 0], .agg #[.int .u8 0, .int .u8 0, .int .i8 0, .int .i8 0]], []⟩ 8 (by kernel_rfl) (by kernel_rfl) (by kernel_rfl) (by kernel_rfl)) ?_
  intro W base args ds gs before hval0 hW hcnd _
  have hW' := hW
  obtain ⟨p, q, hA0, hV, rfl, hfz, hnd⟩ := hW
  have hA : DataW.TrodAll enc Tryz.prog W 0 (fun _ => true) true Tryz.f4.params.toList args.toList ds p := hA0
  obtain ⟨xs, hf, hr⟩ := open_all (ι := iota) [.agg [.agg [.int .u8, .sl (.agg [.int .i8, .int .i8, .int .i8, .int .i8])], .int .u8, .int .i8, .sl (.int .i8)], .agg [.int .u8, .int .u8, .agg [.int .i8, .int .i8]]] _ _ _ _ (by kernel_rfl) (fun j t v ht hv => hval0 j t v (by simpa using ht) (by simpa using hv)) hA
  have hc := law_calls tied2 (Tor.law222 xs hf) hr (enters_of Tryz.func4 (by kernel_rfl) rfl)
  rw [Array.toArray_toList] at hc
  have hlt := places_lt hA
  have hA2 := hA
  rw [Tryz.params4] at hA2
  obtain ⟨v0, vs0, d0, ds0, p0, q0, _, rfl, _, _, r0⟩ := trodAll_cons hA2
  obtain ⟨v1, vs1, d1, ds1, p1, q1, _, rfl, _, _, r1⟩ := trodAll_cons r0
  obtain ⟨_, rfl, _⟩ := trodAll_nil r1
  obtain ⟨rfl, rfl⟩ := trodVars_none hV
  clear hA0 hval0
  refine hc.mono fun e W' ⟨he, bel⟩ => ?_
  subst he
  exact ⟨_, rfl, _, _, _, [], _, [], hW', trodAll_mk1 (shut_bool Tryz.underlying4 _), keep_all laidOut bel _ _ _ _ (by kernel_rfl) hlt hA, rfl, bel.frame _, fun h => by cases h⟩

theorem over : Rows.inducedValidRow.holds Tryz.pinned (OpenSpec.ofChange Rows.inducedValidSpec) :=
  OpenClaim.holds_of_wide 4 Tryz.f4 rfl rfl rfl rfl rfl rfl rfl ⟨rfl, rfl, rfl, rfl, rfl⟩ rfl rfl rfl rfl rfl (by kernel_rfl) Tryz.func4 (by kernel_rfl)
    (of_decide_eq_true (by kernel_rfl)) (by unfold Func.isWrapper; first | (rw [if_pos (by decide +kernel)]; kernel_rfl) | (rw [if_neg (by decide +kernel)]; exact ⟨rfl, rfl⟩))
    (fun os started H enc _ => lifted os started H enc)

theorem proved : Rows.InducedValidSaid := over
end Go.Proofs.YtejciamannpljaaGreat.lawInducedValid
