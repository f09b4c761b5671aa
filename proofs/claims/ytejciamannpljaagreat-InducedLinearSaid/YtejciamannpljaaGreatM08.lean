/-
  A part of the proof: an abstract machine for the program, its soundness, and what the functions compute (Gd3, Gd4, Gd5, Pk4, Pk6, Gd6, Sim, Ops, Ops2, Ops3).
  Conditions: none.
-/
import Derived.Test.YtejciamannpljaaGreatM03
import Derived.Test.YtejciamannpljaaGreatM05
import Derived.Test.YtejciamannpljaaGreatM06
import Derived.Test.YtejciamannpljaaGreatM07
import Derived.MapKept
import GoSem.Dispatch
set_option linter.unusedSectionVars false
set_option linter.unusedVariables false
set_option linter.unusedSimpArgs false
set_option linter.defProp false
namespace Tor
open Go
theorem cellsC_app (c : List Cel) (x : Cel) (k : Int) : cellsC (c ++ [x]) k = cellsC c k ++ (if x.dim = k then [x.id] else []) := by
  unfold cellsC
  rw [List.filter_append, List.map_append]
  congr 1
  by_cases h : x.dim = k <;> simp [h]
theorem cell_app {c : List Cel} {x : Cel} {i : Int} (h : ∃ y ∈ c, y.id = i) : cellOf? (c ++ [x]) i = cellOf? c i := by
  unfold cellOf? findC
  rw [List.find?_append]
  cases hf : c.find? (fun x => decide (x.id = i)) with
  | some y => rfl
  | none =>
    obtain ⟨y, hy, he⟩ := h
    have := List.find?_eq_none.1 hf y hy
    simp [he] at this
theorem lin_congr {f g : Int → Int} : ∀ {l : List (Int × Int)}, (∀ p ∈ l, f p.1 = g p.1) → lin f l = lin g l
  | [], _ => rfl
  | p :: r, h => by simp only [lin]; rw [h p (.head _), lin_congr (fun q hq => h q (.tail _ hq))]
theorem gB_law (P : Int → Prop) (N Lc : Nat) (f : Int → Int) : ∀ (L : List (List (Int × Int))) (es : List Int) (i : Nat) (b : List (Int × Int)), (∀ e ∈ es, -3 ≤ e ∧ e ≤ 3) →
    (∀ l ∈ L, Bd N l ∧ l.length ≤ Lc ∧ Canon none l ∧ (∀ p ∈ l, P p.1) ∧ lin f l = 0) → Bd (3 * N * Lc * i) b → b.length ≤ Lc * i → Canon none b → (∀ p ∈ b, P p.1) → lin f b = 0 →
    ∀ b', b' = (L.zip es).foldl (fun b p => add26 b p.1 p.2) b → Bd (3 * N * Lc * (i + es.length)) b' ∧ b'.length ≤ Lc * (i + es.length) ∧ Canon none b' ∧ (∀ p ∈ b', P p.1) ∧ lin f b' = 0
  | [], es, i, b, he, hL, h1, h2, h3, h4, h5, b', hb => by
    rw [hb]
    show Bd _ b ∧ b.length ≤ _ ∧ Canon none b ∧ (∀ p ∈ b, P p.1) ∧ lin f b = 0
    exact ⟨bd_mono (Nat.mul_le_mul_left _ (by omega)) h1, Nat.le_trans h2 (Nat.mul_le_mul_left _ (by omega)), h3, h4, h5⟩
  | l :: L, [], i, b, he, hL, h1, h2, h3, h4, h5, b', hb => by
    rw [hb]
    show Bd _ b ∧ b.length ≤ _ ∧ Canon none b ∧ (∀ p ∈ b, P p.1) ∧ lin f b = 0
    exact ⟨bd_mono (Nat.mul_le_mul_left _ (by omega)) h1, Nat.le_trans h2 (Nat.mul_le_mul_left _ (by omega)), h3, h4, h5⟩
  | l :: L, e :: es, i, b, he, hL, h1, h2, h3, h4, h5, b', hb => by
    obtain ⟨g1, g2, g3, g4, g5⟩ := hL l (.head _)
    have he1 := he e (.head _)
    have hp : ∀ p ∈ l, (e * p.2).natAbs ≤ 3 * N := fun p hp => by
      rw [Int.natAbs_mul]; exact Nat.mul_le_mul (by omega) (g1 p hp)
    obtain ⟨a1, a2⟩ := add_bd e l b (3 * N * Lc * i) hp h1
    have mm : 3 * N * l.length ≤ 3 * N * Lc := Nat.mul_le_mul_left _ g2
    have := gB_law P N Lc f L es (i + 1) (add26 b l e) (fun x hx => he x (.tail _ hx)) (fun x hx => hL x (.tail _ hx))
      (bd_mono (by rw [Nat.mul_succ]; omega) a1) (by rw [Nat.mul_succ]; omega) (add_law e l b h3).1 (add_keys e l b g4 h4) (by rw [lin_add, h5, g5]; omega) b' (by rw [hb, List.zip_cons_cons, List.foldl_cons])
    rw [List.length_cons]
    have e1 : i + 1 + es.length = i + (es.length + 1) := by omega
    rw [e1] at this
    exact this
theorem last_max {c : List Cel} (h : c.Pairwise (fun x y => x.id < y.id)) (hc : 0 < c.length) : ∀ y ∈ c, y.id ≤ (c.getD (c.length - 1) zC).id := by
  intro y hy
  obtain ⟨i, hi, rfl⟩ := List.mem_iff_getElem.1 hy
  have e : c.getD (c.length - 1) zC = c[c.length - 1] := by simp [List.getD, show c.length - 1 < c.length by omega]
  rw [e]
  rcases Nat.lt_or_ge i (c.length - 1) with h1 | h1
  · have := List.pairwise_iff_getElem.1 h i (c.length - 1) hi (by omega) h1
    omega
  · have : i = c.length - 1 := by omega
    subst this; exact Int.le_refl _
theorem grow_n (s : GS) (d k : Nat) (hd : d ≤ 3) : (s.grow d).n k = s.n k + (if d = k then 1 else 0) := by
  rcases d with _ | _ | _ | _ | d
  · rcases k with _ | _ | _ | _ | k <;> simp [GS.grow, GS.n]
  · rcases k with _ | _ | _ | _ | k <;> simp [GS.grow, GS.n]
  · rcases k with _ | _ | _ | _ | k <;> simp [GS.grow, GS.n]
  · rcases k with _ | _ | _ | _ | k <;> simp [GS.grow, GS.n]
  · omega
theorem grow_b (s : GS) (d k : Nat) : s.b k ≤ (s.grow d).b k := by
  rcases d with _ | _ | _ | _ | d
  · rcases k with _ | _ | _ | _ | k <;> simp [GS.grow, GS.b]
  · rcases k with _ | _ | _ | _ | k <;> simp [GS.grow, GS.b] <;> omega
  · rcases k with _ | _ | _ | _ | k <;> simp [GS.grow, GS.b] <;> omega
  · rcases k with _ | _ | _ | _ | k <;> simp [GS.grow, GS.b] <;> omega
  · exact Nat.le_refl _
theorem grow_k (s : GS) (d : Nat) (h1 : 1 ≤ d) (h3 : d ≤ 3) : s.kb (d - 1) + 8 ≤ (s.grow d).b d := by
  rcases d with _ | _ | _ | _ | d
  · omega
  · simp [GS.grow, GS.b]; omega
  · simp [GS.grow, GS.b]; omega
  · simp [GS.grow, GS.b]; omega
  · omega
variable {E : CallF} (hE : Free E)
include hE
theorem good_grow {c : List Cel} {s : GS} {m : Nat} (h : Good c s m) (h1m : 1 ≤ m) (hm : m ≤ 15) (hbig : ∀ k, s.kb k + 16 ≤ 16000000000) (x : Dg) (hx : x.ok) :
    ∃ y, Good (c ++ [y]) (s.grow (gDim x).toNat) (m + 1) ∧ ∀ H, call E GP 28 [.isl (c.map cA), gA x] H = some (.isl ((c ++ [y]).map cA), H, false) := by
  have hu := u8w x.a
  have td1 := Int.tmod_lt_of_pos (IntKind.u8.wrap x.a) (show (0 : Int) < 4 by omega)
  have td2 := Int.tmod_nonneg 4 hu.1
  have hlen := h.len
  obtain ⟨L, l1, l2, l3⟩ := cycles_good hE h (by omega) (gDim x - 1) (by unfold gDim; omega) hbig
  have hkb := hbig (gDim x - 1).toNat
  generalize hK : (gDim x - 1).toNat = kk at *
  have hgr := r26_grown hE c x hx L (2 ^ s.kb kk) m (by omega) (fun y hy => by have := h.idr y hy; omega) (by omega) l1 (fun l hl => ⟨(l3 l hl).2.1, (l3 l hl).2.2.1⟩)
    (by
      have : 12 * 2 ^ s.kb kk * (m + 1) = 2 ^ s.kb kk * (12 * (m + 1)) := by rw [Nat.mul_comm 12, Nat.mul_assoc]
      rw [this]
      exact mul_big (j := 8) (Nat.le_refl _) (by omega) (by omega)) (by omega)
  suffices hG : Good (grown c x L) (s.grow (gDim x).toNat) (m + 1) from ⟨_, hG, hgr⟩
  have hgB : ∀ id, Bd (3 * 2 ^ s.kb kk * m * (0 + 3)) (gB L x.cs) ∧ (gB L x.cs).length ≤ m * (0 + 3) ∧ Canon none (gB L x.cs) ∧ (∀ p ∈ gB L x.cs, p.1 ∈ cellsC c (gDim x - 1)) ∧ lin (fun i => lookL id (cellOf? c i).b) (gB L x.cs) = 0 := fun id =>
    gB_law (· ∈ cellsC c (gDim x - 1)) (2 ^ s.kb kk) m (fun i => lookL id (cellOf? c i).b) L x.cs 0 [] (fun e he => by
      unfold Dg.cs at he
      have ts : ∀ y : Int, -3 ≤ y.tmod 4 ∧ y.tmod 4 ≤ 3 := fun y => by
        have t1 := Int.tmod_lt_of_pos y (show (0 : Int) < 4 by omega)
        have t2 := Int.lt_tmod_of_pos y (show (0 : Int) < 4 by omega)
        omega
      simp only [List.mem_cons, List.not_mem_nil, or_false] at he
      rcases he with rfl | rfl | rfl <;> exact ts _) (fun l hl => by
        obtain ⟨_, a1, a2, a3, a4, a5⟩ := l3 l hl
        exact ⟨a1, a2, a3, a4, a5 id⟩) (fun p hp => by cases hp) (Nat.zero_le _) trivial (fun p hp => by cases hp) rfl _ rfl
  have hold : ∀ i, (∃ k, i ∈ cellsC c k) → cellOf? (grown c x L) i = cellOf? c i := fun i ⟨k, hi⟩ => by
    obtain ⟨y, hy, _, he⟩ := cells_mem.1 hi
    exact cell_app ⟨y, hy, he⟩
  have hL0 : ¬ 1 ≤ gDim x → L = [] := fun hd => by
    cases L with
    | nil => rfl
    | cons l r => have := (l3 l (.head _)).1; omega
  have hdn : (gDim x).toNat ≤ 3 := by unfold gDim; omega
  refine ⟨?_, ?_, ?_, ?_, ?_, ?_, ?_, ?_, ?_, ?_⟩
  · unfold grown; simp; omega
  · unfold grown
    rw [List.pairwise_append]
    refine ⟨h.ids, List.pairwise_singleton _ _, fun y hy z hz => ?_⟩
    simp only [List.mem_singleton] at hz
    subst hz
    have hpos : 0 < c.length := List.length_pos_of_mem hy
    have := last_max h.ids hpos y hy
    show y.id < gId c x
    unfold gId
    rw [if_neg (by omega)]
    have := Int.tdiv_nonneg hu.1 (show (0 : Int) ≤ 128 by omega)
    omega
  · intro y hy
    unfold grown at hy
    rcases List.mem_append.1 hy with hy | hy
    · have := h.idr y hy; omega
    · simp only [List.mem_singleton] at hy
      subst hy
      show 1 ≤ gId c x ∧ gId c x ≤ 2 * (((m + 1 : Nat)) : Int)
      unfold gId
      split
      · omega
      · have hpos : 0 < c.length := by omega
        have hl : c.getD (c.length - 1) zC ∈ c := by simp [List.getD, show c.length - 1 < c.length by omega]
        have := h.idr _ hl
        have h1 := Int.tdiv_nonneg hu.1 (show (0 : Int) ≤ 128 by omega)
        have h2 : (IntKind.u8.wrap x.a).tdiv 128 ≤ 1 := by
          rw [Int.tdiv_eq_ediv_of_nonneg hu.1]; omega
        omega
  · intro y hy
    unfold grown at hy
    rcases List.mem_append.1 hy with hy | hy
    · exact h.dims y hy
    · simp only [List.mem_singleton] at hy
      subst hy
      show 0 ≤ gDim x ∧ gDim x ≤ 3
      unfold gDim; omega
  · intro k hk
    unfold grown
    rw [cellsC_app, List.length_append, h.cnt k hk, grow_n s _ k hdn]
    show s.n k + (if gDim x = (k : Int) then [gId c x] else []).length = _
    by_cases e : gDim x = (k : Int)
    · rw [if_pos e, if_pos (by omega)]; rfl
    · rw [if_neg e, if_neg (by unfold gDim at *; omega)]; rfl
  · intro y hy
    unfold grown at hy
    rcases List.mem_append.1 hy with hy | hy
    · exact bd_mono (Nat.pow_le_pow_right (by decide) (grow_b s _ _)) (h.bd y hy)
    · simp only [List.mem_singleton] at hy
      subst hy
      show Bd (2 ^ (s.grow (gDim x).toNat).b (gDim x).toNat) (gB L x.cs)
      by_cases hd : 1 ≤ gDim x
      · refine bd_mono ?_ (hgB 0).1
        have hk8 := grow_k s (gDim x).toNat (by omega) hdn
        rw [show (gDim x).toNat - 1 = kk by omega] at hk8
        refine Nat.le_trans ?_ (Nat.pow_le_pow_right (by decide) hk8)
        rw [Nat.pow_add]
        have : 3 * 2 ^ s.kb kk * m * (0 + 3) = 2 ^ s.kb kk * (9 * m) := by
          rw [Nat.mul_comm 3, Nat.mul_assoc, Nat.mul_assoc]; congr 1; omega
        rw [this]
        exact Nat.mul_le_mul_left _ (by omega)
      · have := hL0 hd
        subst this
        intro p hp
        simp [gB] at hp
  · intro y hy
    unfold grown at hy
    rcases List.mem_append.1 hy with hy | hy
    · exact h.cn y hy
    · simp only [List.mem_singleton] at hy
      subst hy; exact (hgB 0).2.2.1
  · intro y hy p hp
    unfold grown at hy ⊢
    rw [cellsC_app]
    rcases List.mem_append.1 hy with hy | hy
    · exact List.mem_append_left _ (h.key y hy p hp)
    · simp only [List.mem_singleton] at hy
      subst hy
      exact List.mem_append_left _ ((hgB 0).2.2.2.1 p hp)
  · intro y hy
    unfold grown at hy
    rcases List.mem_append.1 hy with hy | hy
    · exact h.bl y hy
    · simp only [List.mem_singleton] at hy
      subst hy
      have := (hgB 0).2.1
      show (gB L x.cs).length ≤ 150
      omega
  · intro y hy id
    have hy' := hy
    unfold grown at hy
    rcases List.mem_append.1 hy with hy | hy
    · rw [← h.bb y hy id]
      exact lin_congr fun p hp => by rw [hold _ ⟨_, h.key y hy p hp⟩]
    · simp only [List.mem_singleton] at hy
      subst hy
      rw [← (hgB id).2.2.2.2]
      exact lin_congr fun p hp => by rw [hold _ ⟨_, (hgB id).2.2.2.1 p hp⟩]
end Tor
namespace Tor
open Go
def gsp : Nat → GS
  | 1 => ⟨1, 0, 0, 0, 0, 0, 0⟩
  | 2 => ⟨2, 0, 0, 0, 0, 0, 0⟩
  | 3 => ⟨2, 1, 0, 0, 0, 0, 0⟩
  | 4 => ⟨1, 1, 0, 0, 0, 0, 0⟩
  | 5 => ⟨3, 3, 0, 0, 0, 0, 0⟩
  | 6 => ⟨3, 3, 1, 0, 0, 0, 0⟩
  | 7 => ⟨1, 0, 1, 0, 0, 0, 0⟩
  | 8 => ⟨1, 2, 1, 0, 0, 0, 0⟩
  | 9 => ⟨1, 1, 1, 0, 0, 1, 0⟩
  | 10 => ⟨1, 2, 1, 0, 0, 1, 0⟩
  | 11 => ⟨1, 1, 1, 1, 0, 2, 0⟩
  | 12 => ⟨1, 1, 2, 0, 0, 3, 0⟩
  | 13 => ⟨2, 2, 1, 0, 0, 1, 0⟩
  | _ => ⟨0, 0, 0, 0, 0, 0, 0⟩
def GS.kok (s : GS) : Bool := decide (s.kb 1 + 16 ≤ 16000000000) && decide (s.kb 2 + 16 ≤ 16000000000) && decide (s.kb 3 + 16 ≤ 16000000000)
def GS.fin (s : GS) : Bool := decide (s.b1 ≤ 1000000000) && decide (s.b2 ≤ 1000000000) && decide (s.b3 ≤ 1000000000) && s.kok
def okT : Nat → GS → Bool
  | 0, s => s.fin
  | f + 1, s => s.fin && (s.kok && (okT f (s.grow 0) && (okT f (s.grow 1) && (okT f (s.grow 2) && okT f (s.grow 3)))))
theorem ok_all : ((List.range 14).all fun j => okT 4 (gsp j)) = true := by kernel_rfl
theorem kok_all {s : GS} (h : s.kok = true) : ∀ k, s.kb k + 16 ≤ 16000000000 := by
  unfold GS.kok at h
  simp only [Bool.and_eq_true, decide_eq_true_eq] at h
  intro k
  rcases k with _ | _ | _ | _ | k
  · simp [GS.kb]
  · exact h.1.1
  · exact h.1.2
  · exact h.2
  · simp [GS.kb]
theorem gs_good (j : Nat) (hj : j < 14) : Good (spaceC j) (gsp j) 7 := by
  have mk : ∀ (c : List Cel) (s : GS), c.length ≤ 7 → c.Pairwise (fun x y => x.id < y.id) → (∀ x ∈ c, (1 ≤ x.id ∧ x.id ≤ 14) ∧ (0 ≤ x.dim ∧ x.dim ≤ 3) ∧ Bd (2 ^ s.b x.dim.toNat) x.b ∧ Canon none x.b ∧ (∀ p ∈ x.b, p.1 ∈ cellsC c (x.dim - 1)) ∧ x.b.length ≤ 150 ∧ ∀ id, lin (fun i => lookL id (cellOf? c i).b) x.b = 0) →
      (∀ k : Nat, k ≤ 3 → (cellsC c k).length = s.n k) → Good c s 7 := fun c s h1 h2 h3 h4 =>
    ⟨h1, h2, fun x hx => by have := (h3 x hx).1; omega, fun x hx => (h3 x hx).2.1, h4, fun x hx => (h3 x hx).2.2.1, fun x hx => (h3 x hx).2.2.2.1, fun x hx => (h3 x hx).2.2.2.2.1, fun x hx => (h3 x hx).2.2.2.2.2.1, fun x hx => (h3 x hx).2.2.2.2.2.2⟩
  have hk4 : ∀ k : Nat, k ≤ 3 → k = 0 ∨ k = 1 ∨ k = 2 ∨ k = 3 := fun k h => by omega
  have cases14 : j = 0 ∨ j = 1 ∨ j = 2 ∨ j = 3 ∨ j = 4 ∨ j = 5 ∨ j = 6 ∨ j = 7 ∨ j = 8 ∨ j = 9 ∨ j = 10 ∨ j = 11 ∨ j = 12 ∨ j = 13 := by omega
  rcases cases14 with rfl | rfl | rfl | rfl | rfl | rfl | rfl | rfl | rfl | rfl | rfl | rfl | rfl | rfl
  all_goals
    refine mk _ _ (by decide) (by simp [spaceC, sp0]) ?_ (fun k hk => by rcases hk4 k hk with rfl | rfl | rfl | rfl <;> rfl)
    intro x hx
    simp only [spaceC, sp0, List.cons_append, List.nil_append, List.mem_cons, List.not_mem_nil, or_false, false_or] at hx
  all_goals
    first
    | (rcases hx with rfl | rfl | rfl | rfl | rfl | rfl | rfl <;> (refine ⟨by decide, by decide, ?_, ?_, ?_, by decide, ?_⟩ <;> simp [Bd, Canon, gsp, GS.b, spaceC, sp0, cellsC, lin, cellOf?, findC, zC, lookL] <;> (try (intro id; repeat' split)) <;> (try omega)))
    | (rcases hx with rfl | rfl | rfl | rfl | rfl | rfl <;> (refine ⟨by decide, by decide, ?_, ?_, ?_, by decide, ?_⟩ <;> simp [Bd, Canon, gsp, GS.b, spaceC, sp0, cellsC, lin, cellOf?, findC, zC, lookL] <;> (try (intro id; repeat' split)) <;> (try omega)))
    | (rcases hx with rfl | rfl | rfl | rfl | rfl <;> (refine ⟨by decide, by decide, ?_, ?_, ?_, by decide, ?_⟩ <;> simp [Bd, Canon, gsp, GS.b, spaceC, sp0, cellsC, lin, cellOf?, findC, zC, lookL] <;> (try (intro id; repeat' split)) <;> (try omega)))
    | (rcases hx with rfl | rfl | rfl | rfl <;> (refine ⟨by decide, by decide, ?_, ?_, ?_, by decide, ?_⟩ <;> simp [Bd, Canon, gsp, GS.b, spaceC, sp0, cellsC, lin, cellOf?, findC, zC, lookL] <;> (try (intro id; repeat' split)) <;> (try omega)))
    | (rcases hx with rfl | rfl | rfl <;> (refine ⟨by decide, by decide, ?_, ?_, ?_, by decide, ?_⟩ <;> simp [Bd, Canon, gsp, GS.b, spaceC, sp0, cellsC, lin, cellOf?, findC, zC, lookL] <;> (try (intro id; repeat' split)) <;> (try omega)))
    | (rcases hx with rfl | rfl <;> (refine ⟨by decide, by decide, ?_, ?_, ?_, by decide, ?_⟩ <;> simp [Bd, Canon, gsp, GS.b, spaceC, sp0, cellsC, lin, cellOf?, findC, zC, lookL] <;> (try (intro id; repeat' split)) <;> (try omega)))
    | (rcases hx with rfl <;> (refine ⟨by decide, by decide, ?_, ?_, ?_, by decide, ?_⟩ <;> simp [Bd, Canon, gsp, GS.b, spaceC, sp0, cellsC, lin, cellOf?, findC, zC, lookL] <;> (try (intro id; repeat' split)) <;> (try omega)))
end Tor
namespace Tor
open Go
theorem gA_get {l : List Dg} {i : Nat} (h : i < l.length) : (l.map gA)[i]? = some (gA l[i]) := by simp [h]
theorem refs_gA : ∀ l : List Dg, AV.hasRefs (l.map gA) = false
  | [] => rfl
  | x :: r => by simp only [List.map_cons, AV.hasRefs, gA, AV.hasRef, refs_gA r, Bool.or_self]
def mdst (k : Int) (ds : List Dg) (c : List Cel) (i : Int) (w4 : AV) : St :=
  { vars := [.agg [.int .u8 k, .isl (ds.map gA)], .isl [], .isl (c.map cA), .int .i64 i, w4, .agg [.int .u8 k, .isl (ds.map gA)]], heap := [], rs := false }
def Pre (c : List Cel) (t : Nat) : Prop := ∀ j, j ≤ t → j ≤ 2 → ∃ s m, Good (c.take (c.length - j)) s m ∧ m ≤ 11 ∧ s.fin = true
theorem pre_step {c : List Cel} {t : Nat} {y : Cel} {s : GS} {m : Nat} (h : Pre c t) (g : Good (c ++ [y]) s m) (hm : m ≤ 11) (hf : s.fin = true) : Pre (c ++ [y]) (t + 1) := by
  intro j hj hj2
  cases j with
  | zero => exact ⟨s, m, by rw [Nat.sub_zero, List.take_length]; exact g, hm, hf⟩
  | succ j =>
    obtain ⟨s2, m2, h1, h2, h3⟩ := h j (by omega) (by omega)
    refine ⟨s2, m2, ?_, h2, h3⟩
    have : (c ++ [y]).length - (j + 1) = c.length - j := by simp only [List.length_append, List.length_cons, List.length_nil]; omega
    rw [this, List.take_append_of_le_length (by omega)]
    exact h1
variable {E : CallF} (hE : Free E)
include hE
theorem made26_loop (k : Int) (ds : List Dg) (hds : ∀ x ∈ ds, x.ok) : ∀ (n i : Nat) (c : List Cel) (s : GS), 4 = i + n → okT n s = true → Good c s (7 + i) → i ≤ ds.length → Pre c i →
    ∃ c' s' m' j, Good c' s' m' ∧ m' ≤ 11 ∧ s'.fin = true ∧ Pre c' (min 4 ds.length) ∧ run E GP a1l0 (mdst k ds c i .u) = some (.exit 0, mdst k ds c' j (.bool false)) := by
  intro n
  induction n with
  | zero =>
    intro i c s h4 hok hg hil hpre
    have hi : i = 4 := by omega
    subst hi
    refine ⟨c, s, 11, 4, hg, Nat.le_refl _, hok, by rw [Nat.min_eq_left hil]; exact hpre, ?_⟩
    unfold mdst
    rw [a1l0_run]
    by_cases hl : (4 : Int) < (ds.length : Int)
    · simp (maxSteps := 1000000) only [si, simprocAttr, a1b0, a1R, hl]
    · simp (maxSteps := 1000000) only [si, simprocAttr, a1b0, a1R, hl]
  | succ n ih =>
    intro i c s h4 hok hg hil hpre
    rw [okT] at hok
    simp only [Bool.and_eq_true] at hok
    obtain ⟨f1, f2, o0, o1, o2, o3⟩ := hok
    by_cases hl : (i : Int) < (ds.length : Int)
    · have hlt : i < ds.length := by omega
      have g1 := gA_get hlt
      obtain ⟨y2, q1, q2⟩ := good_grow hE hg (by omega) (by omega) (kok_all f2) ds[i] (hds _ (List.getElem_mem hlt))
      have hok2 : okT n (s.grow (gDim ds[i]).toNat) = true := by
        have hu := u8w ds[i].a
        have td1 := Int.tmod_lt_of_pos (IntKind.u8.wrap ds[i].a) (show (0 : Int) < 4 by omega)
        have td2 := Int.tmod_nonneg 4 hu.1
        have : (gDim ds[i]).toNat = 0 ∨ (gDim ds[i]).toNat = 1 ∨ (gDim ds[i]).toNat = 2 ∨ (gDim ds[i]).toNat = 3 := by unfold gDim; omega
        rcases this with h | h | h | h <;> rw [h] <;> assumption
      have hf2 : (s.grow (gDim ds[i]).toNat).fin = true := by
        cases n with
        | zero => exact hok2
        | succ n => rw [okT] at hok2; simp only [Bool.and_eq_true] at hok2; exact hok2.1
      obtain ⟨c', s', m', j, r1, r2, r3, r5, r4⟩ := ih (i + 1) (c ++ [y2]) _ (by omega) hok2 q1 (by omega) (pre_step hpre q1 (by omega) hf2)
      refine ⟨c', s', m', j, r1, r2, r3, r5, ?_⟩
      rw [← r4]
      generalize c ++ [y2] = c2 at *
      have wi : IntKind.i64.wrap ((i : Int) + 1) = ((i + 1 : Nat) : Int) := i64a (by omega)
      have k4 : (i : Int) < 4 := by omega
      have hr := refs_gA ds
      have hrc := refs_cA c2
      rw [show gA ds[i] = .agg [.int .i8 ds[i].a, .int .i8 ds[i].b, .int .i8 ds[i].c, .int .i8 ds[i].d] from rfl] at g1 q2
      unfold mdst
      conv => lhs; rw [a1l0_run]
      simp (maxSteps := 1000000) only [si, simprocAttr, a1b0, a1R, hl, k4, g1, q2, wi, hr, hrc]
    · refine ⟨c, s, 7 + i, i, hg, by omega, f1, by rw [show min 4 ds.length = i by omega]; exact hpre, ?_⟩
      unfold mdst
      rw [a1l0_run]
      simp (maxSteps := 1000000) only [si, simprocAttr, a1b0, a1R, hl]
omit hE in
theorem r26_made2 (k : Nat) (hk : k < 256) (ds : List Dg) (hds : ∀ x ∈ ds, x.ok) :
    ∃ c s m, Good c s m ∧ m ≤ 11 ∧ s.fin = true ∧ Pre c (min 4 ds.length) ∧ ∀ H, call E1 GP 1 [.agg [.int .u8 k, .isl (ds.map gA)]] H = some (.isl (c.map cA), H, false) := by
  have hj : k % 14 < 14 := Nat.mod_lt _ (by decide)
  have hok := List.all_eq_true.1 ok_all (k % 14) (List.mem_range.2 hj)
  have g0 := gs_good _ hj
  have hok0 := hok
  rw [okT] at hok0
  simp only [Bool.and_eq_true] at hok0
  obtain ⟨c, s, m, j, r1, r2, r3, r5, r4⟩ := made26_loop free1 (k : Int) ds hds 4 0 _ _ (by omega) hok g0 (Nat.zero_le _) (fun j hj _ => ⟨_, 7, by rw [show j = 0 by omega, Nat.sub_zero, List.take_length]; exact g0, by omega, hok0.1⟩)
  refine ⟨c, s, m, r1, r2, r3, r5, fun H => ?_⟩
  rw [call_fun (by rfl) (f := a1) rfl rfl]
  have hsp := fun H => r26_space k hk H
  have hr := refs_gA ds
  have hr0 := refs_cA (spaceC (k % 14))
  have hrc := refs_cA c
  have hsc := solids_cA c
  have hz : ∀ n H, (c.map cA).map (fz n H 7) = c.map cA := fun n H => by
    rw [List.map_map]; apply List.map_congr_left; intro y _; exact fz_cA n H 1 y
  unfold mdst at r4
  simp only [Int.ofNat_zero] at r4
  simp (maxSteps := 1000000) only [si, simprocAttr, a1, a1R, hsp, hr, hr0, r4, hrc, hsc, hz]
end Tor
namespace Tor
open Go
def bndG (c : List Cel) (m : List (Int × Int)) (p : Int × Int) : List (Int × Int) := sumsK p.2 (cellOf? c p.1).b m
variable {E : CallF} (hE : Free E)
include hE
end Tor
namespace Tor
open Go
theorem bndG_eq (c : List Cel) : ∀ (x m a : List (Int × Int)), Sums m → Canon none a → (∀ k, lookL k m = lookL k a) →
    Sums (x.foldl (bndG c) m) ∧ Canon none (x.foldl (bndF c) a) ∧ ∀ k, lookL k (x.foldl (bndG c) m) = lookL k (x.foldl (bndF c) a)
  | [], m, a, h1, h2, h3 => ⟨h1, h2, h3⟩
  | p :: r, m, a, h1, h2, h3 => by
    rw [List.foldl_cons, List.foldl_cons]
    obtain ⟨s1, s2⟩ := sumsK_law p.2 (cellOf? c p.1).b m h1
    obtain ⟨t1, t2⟩ := add_law p.2 (cellOf? c p.1).b a h2
    exact bndG_eq c r _ _ s1 t1 fun k => by unfold bndG bndF; rw [s2, t2, h3]
variable {E : CallF} (hE : Free E)
include hE
end Tor
namespace Tor
open Go
theorem fin_e {s : GS} (h : s.fin = true) : ∃ e, e ≤ 1000000000 ∧ ∀ k, s.b k ≤ e := by
  unfold GS.fin at h
  simp only [Bool.and_eq_true, decide_eq_true_eq] at h
  refine ⟨max s.b1 (max s.b2 s.b3), by omega, fun k => ?_⟩
  rcases k with _ | _ | _ | _ | k
  · exact Nat.zero_le _
  · simp only [GS.b]; omega
  · simp only [GS.b]; omega
  · simp only [GS.b]; omega
  · exact Nat.zero_le _
theorem key_in {c : List Cel} {s : GS} {m : Nat} (h : Good c s m) (hm : m ≤ 16) {k id : Int} (hid : id ∈ cellsC c k) : in64 id = true := by
  obtain ⟨x, hx, _, rfl⟩ := cells_mem.1 hid
  have := h.idr x hx
  simp [in64]; omega
structure Bof (e : Nat) (b : List (Int × Int)) : Prop where
  bd : Bd (2 ^ e) b
  bl : b.length ≤ 150
  cn : Canon none b
  key : ∀ p ∈ b, in64 p.1 = true
theorem good_of {c : List Cel} {s : GS} {m e : Nat} (h : Good c s m) (hm : m ≤ 16) (he : ∀ k, s.b k ≤ e) (id : Int) : Bof e (cellOf? c id).b := by
  unfold cellOf?
  cases hf : findC c id with
  | none => exact ⟨fun p hp => (by cases hp), by simp [zC], trivial, fun p hp => (by cases hp)⟩
  | some y =>
    have hy : y ∈ c := List.mem_of_find?_eq_some hf
    exact ⟨bd_mono (Nat.pow_le_pow_right (by decide) (he _)) (h.bd y hy), h.bl y hy, h.cn y hy, fun p hp => key_in h hm (h.key y hy p hp)⟩
theorem pow_lt_big {e : Nat} (h : e < 16000000000) : 2 ^ e < BIG := by
  have := mul_big (e := e) (N := 2 ^ e) (m := 1) (j := 1) (Nat.le_refl _) (by decide) (by omega)
  rwa [Nat.mul_one] at this
theorem bnd_ok {c : List Cel} {s : GS} {m e : Nat} (h : Good c s m) (hm : m ≤ 16) (he : ∀ k, s.b k ≤ e) {M Lx e2 : Nat} {x : List (Int × Int)} (hx : Ch M Lx x) (hM : M ≤ 2 ^ e2) (hL : Lx ≤ 3000) (hee : e + e2 ≤ 15000000000) : BndOk c x (M * 2 ^ e) 150 := by
  have hlen := h.len
  have lx := hx.len
  have hMb : M < BIG := Nat.lt_of_le_of_lt hM (pow_lt_big (by omega))
  have hN : M * 2 ^ e ≤ 2 ^ (e2 + e) := by rw [Nat.pow_add]; exact Nat.mul_le_mul_right _ hM
  refine ⟨by omega, by omega, fun p _ => (good_of h hm he p.1).bl, by omega, ch_sm hx hMb, fun p _ q hq => sm_of (pow_lt_big (e := e) (by omega)) ((good_of h hm he p.1).bd q hq), fun p hp q hq => ?_, ?_, by omega⟩
  · rw [Int.natAbs_mul]; exact Nat.mul_le_mul (hx.bd p hp) ((good_of h hm he p.1).bd q hq)
  · rw [Nat.mul_assoc]
    exact mul_big (j := 19) hN (by omega) (by omega)
def bz (c : List Cel) (x : List (Int × Int)) : List (Int × Int) := if (dim26 c x).2 = 0 then bnd26 c x else []
theorem bnd_canon (c : List Cel) (x : List (Int × Int)) : Canon none (bnd26 c x) := (bndG_eq c x [] [] sums_nil trivial (fun _ => rfl)).2.1
theorem bnd_keys (c : List Cel) (P : Int → Prop) : ∀ (x a : List (Int × Int)), (∀ p ∈ x, ∀ q ∈ (cellOf? c p.1).b, P q.1) → (∀ p ∈ a, P p.1) → ∀ p ∈ x.foldl (bndF c) a, P p.1
  | [], a, _, h => h
  | p :: r, a, h1, h => by
    rw [List.foldl_cons]
    exact bnd_keys c P r _ (fun q hq => h1 q (.tail _ hq)) (add_keys p.2 _ _ (h1 p (.head _)) h)
theorem good_b7 {c : List Cel} {s : GS} {m e : Nat} (h : Good c s m) (hm : m ≤ 16) (he : ∀ k, s.b k ≤ e) {M Lx e2 : Nat} {x : List (Int × Int)} (hx : Ch M Lx x) (hM : M ≤ 2 ^ e2) (hL : Lx ≤ 3000) (hee : e + e2 ≤ 15000000000) (H : Heap) :
    call E1 GP 7 [.isl (c.map cA), .isl (x.map fA)] H = some (.tup [.isl ((bz c x).map fA), .int .i64 (dim26 c x).2], H, false) := by
  have hok := bnd_ok h hm he hx hM hL hee
  have hlen := h.len
  have lx := hx.len
  exact r26_boundary free1 c x (M * 2 ^ e) 150 (by omega) (by omega) (fun _ => hok) H
theorem good_ch {c : List Cel} {s : GS} {m e : Nat} (h : Good c s m) (hm : m ≤ 16) (he : ∀ k, s.b k ≤ e) {M Lx e2 : Nat} {x : List (Int × Int)} (hx : Ch M Lx x) (hM : M ≤ 2 ^ e2) (hL : Lx ≤ 3000) (hee : e + e2 ≤ 15000000000) : Ch (M * 2 ^ e * 150 * Lx) (150 * Lx) (bz c x) := by
  have hok := bnd_ok h hm he hx hM hL hee
  have lx := hx.len
  obtain ⟨b1, b2⟩ := bnd_bd hok x.length 0 [] (by omega) (fun p hp => by cases hp) (Nat.zero_le _)
  rw [List.drop_zero, show x.foldl (bndF c) [] = bnd26 c x from rfl] at b1 b2
  have q1 : M * 2 ^ e * 150 * x.length ≤ M * 2 ^ e * 150 * Lx := Nat.mul_le_mul_left _ lx
  unfold bz
  split
  · exact ⟨bnd_canon c x, bd_mono q1 b1, by omega, bnd_keys c (fun n => in64 n = true) x [] (fun p _ => (good_of h hm he p.1).key) (fun p hp => by cases hp)⟩
  · exact ⟨trivial, fun p hp => (by cases hp), by simp, fun p hp => by cases hp⟩
end Tor
namespace Tor
open Go Go.RowKit
inductive MapR (C : Cx) : List (Int × AV) → List MapEntry → Prop
  | nil : MapR C [] []
  | cons {k x e r es} : e.key = .int .i64 k → Rv1 C x e.val → x.known = true → MapR C r es → MapR C ((k, x) :: r) (e :: es)
theorem MapR_le {C C' : Cx} (h : Le C C') {r es} (hr : MapR C r es) : MapR C' r es := by
  induction hr with
  | nil => exact .nil
  | cons a b c _ ih => exact .cons a (Rv1_le h b) c ih
def MapRS (C : Cx) (kvs : List (Int × AV)) (es : Array MapEntry) (clock : Nat) : Prop := MapR C kvs es.toList ∧ Go.MapKept.Stamped es clock
def bOf : Option (Option (Nat × Nat)) → Option Nat
  | some (some (b, _)) => some b
  | _ => none
def blk (C : Cx) (o : Nat) : AObj → Option Nat
  | .var _ => bOf (C.β o 0)
  | .arr g _ _ => bOf (C.β o g)
  | .map _ => bOf (C.β o 0)
  | .dead => none
def ObjOk (base : Nat) (C : Cx) (o : Nat) : AObj → Prop
  | .var x => ∃ b c e, C.β o 0 = some (some (b, 0)) ∧ C.w.heap[b]? = some (.cells c e (0, 0)) ∧ Rc C x c.toList ∧ base ≤ b ∧ ¬ C.F b
  | .arr g sz l => (C.β o g = some none ∧ l = []) ∨ ∃ b bs c e pre css post, C.β o g = some (some (b, bs)) ∧ C.w.heap[b]? = some (.cells c e (0, 0)) ∧
      c.toList = pre ++ css.flatten ++ post ∧ pre.length = bs ∧ Rcl C l css ∧ (∀ x ∈ css, x.length = sz) ∧ base ≤ b ∧ ¬ C.F b
  | .map kvs => ∃ b es clock, C.β o 0 = some (some (b, 0)) ∧ C.w.heap[b]? = some (.map es clock) ∧ MapRS C kvs es clock ∧ base ≤ b ∧ ¬ C.F b
  | .dead => True
def GenOk (C : Cx) (o : Nat) : AObj → Prop
  | .arr g _ _ => ∀ g', g < g' → C.β o g' = none
  | _ => True
structure Sim (base : Nat) (C : Cx) (H : Heap) : Prop where
  fsz : ∀ b, C.F b → b < C.w.heap.size
  dom : ∀ o, H.length ≤ o → ∀ g, C.β o g = none
  obj : ∀ o ob, H[o]? = some ob → ObjOk base C o ob ∧ GenOk C o ob
  sep : ∀ o o' ob ob' b, H[o]? = some ob → H[o']? = some ob' → blk C o ob = some b → blk C o' ob' = some b → o = o'
  bsz : base ≤ C.w.heap.size
theorem lt_of_heap {w : World} {b : Nat} {o : Obj} (h : w.heap[b]? = some o) : b < w.heap.size := (Array.getElem?_eq_some_iff.1 h).1
theorem blk_heap {base C o ob b} (h : ObjOk base C o ob) (hb : blk C o ob = some b) : base ≤ b ∧ ¬ C.F b ∧ b < C.w.heap.size := by
  cases ob with
  | var x =>
    obtain ⟨b', c, e, h1, h2, _, h3, h4⟩ := h
    simp only [blk, h1, bOf, Option.some.injEq] at hb; subst hb
    exact ⟨h3, h4, lt_of_heap h2⟩
  | arr g sz l =>
    rcases h with ⟨h1, _⟩ | ⟨b', bs, c, e, pre, css, post, h1, h2, _, _, _, _, h3, h4⟩
    · simp [blk, h1, bOf] at hb
    · simp only [blk, h1, bOf, Option.some.injEq] at hb; subst hb
      exact ⟨h3, h4, lt_of_heap h2⟩
  | map kvs =>
    obtain ⟨b', es, cl, h1, h2, _, h3, h4⟩ := h
    simp only [blk, h1, bOf, Option.some.injEq] at hb; subst hb
    exact ⟨h3, h4, lt_of_heap h2⟩
  | dead => cases hb
theorem ObjOk_keep {base C C' o ob} (h : Le C C') (ho : ObjOk base C o ob) (hF : ∀ b, C'.F b → C.F b ∨ C.w.heap.size ≤ b)
    (hm : ∀ b, blk C o ob = some b → C'.w.heap[b]? = C.w.heap[b]?) : ObjOk base C' o ob := by
  have hno : ∀ b, ¬ C.F b → b < C.w.heap.size → ¬ C'.F b := fun b h1 h2 h3 => by
    rcases hF b h3 with h | h
    · exact h1 h
    · omega
  cases ob with
  | var x =>
    obtain ⟨b, c, e, h1, h2, h3, h4, h5⟩ := ho
    exact ⟨b, c, e, h.β _ _ _ h1, (hm b (by simp [blk, h1, bOf])).trans h2, Rc_le h _ _ h3, h4, hno _ h5 (lt_of_heap h2)⟩
  | arr g sz l =>
    rcases ho with ⟨h1, h2⟩ | ⟨b, bs, c, e, pre, css, post, h1, h2, h3, h4, h5, h6, h7, h8⟩
    · exact .inl ⟨h.β _ _ _ h1, h2⟩
    · exact .inr ⟨b, bs, c, e, pre, css, post, h.β _ _ _ h1, (hm b (by simp [blk, h1, bOf])).trans h2, h3, h4, Rcl_le h _ _ h5, h6, h7, hno _ h8 (lt_of_heap h2)⟩
  | map kvs =>
    obtain ⟨b, es, cl, h1, h2, h3, h4, h5⟩ := ho
    exact ⟨b, es, cl, h.β _ _ _ h1, (hm b (by simp [blk, h1, bOf])).trans h2, ⟨MapR_le h h3.1, h3.2⟩, h4, hno _ h5 (lt_of_heap h2)⟩
  | dead => trivial
theorem blk_le {base C C' o ob} (h : Le C C') (ho : ObjOk base C o ob) : blk C' o ob = blk C o ob := by
  cases ob with
  | var x => obtain ⟨b, c, e, h1, _⟩ := ho; simp [blk, h1, h.β _ _ _ h1]
  | arr g sz l =>
    rcases ho with ⟨h1, _⟩ | ⟨b, bs, c, e, pre, css, post, h1, _⟩ <;> simp [blk, h1, h.β _ _ _ h1]
  | map kvs => obtain ⟨b, es, cl, h1, _⟩ := ho; simp [blk, h1, h.β _ _ _ h1]
  | dead => rfl
theorem Sim.world {base C C' H} (h : Sim base C H) (hle : Le C C') (hF : ∀ b, C'.F b → b < C'.w.heap.size ∧ (C.F b ∨ C.w.heap.size ≤ b)) (hβ : ∀ o g, C'.β o g = C.β o g)
    (hs : C.w.heap.size ≤ C'.w.heap.size) (hm : ∀ b, b < C.w.heap.size → ¬ C.F b → base ≤ b → C'.w.heap[b]? = C.w.heap[b]?) : Sim base C' H where
  fsz b hb := (hF b hb).1
  dom o ho g := by rw [hβ]; exact h.dom o ho g
  obj o ob ho := by
    obtain ⟨h1, h2⟩ := h.obj o ob ho
    refine ⟨ObjOk_keep hle h1 (fun b hb => (hF b hb).2) (fun b hb => ?_), ?_⟩
    · obtain ⟨a, b', c⟩ := blk_heap h1 hb
      exact hm b c b' a
    · cases ob with
      | arr g sz l => intro g' hg'; rw [hβ]; exact h2 g' hg'
      | _ => trivial
  sep o o' ob ob' b ho ho' hb hb' := by
    rw [blk_le hle (h.obj o ob ho).1] at hb
    rw [blk_le hle (h.obj o' ob' ho').1] at hb'
    exact h.sep o o' ob ob' b ho ho' hb hb'
  bsz := Nat.le_trans h.bsz hs
theorem one_inv {α} {a b : α} {i : Nat} (h : [a][i]? = some b) : i = 0 ∧ b = a := by
  cases i with
  | zero => simp at h; exact ⟨rfl, h.symm⟩
  | succ i => simp at h
theorem Sim.push {base C C' H ob} (h : Sim base C H) (hle : Le C C') (hF : ∀ b, C'.F b ↔ C.F b) (hs : C.w.heap.size ≤ C'.w.heap.size)
    (hβ : ∀ o g, o < H.length → C'.β o g = C.β o g) (hβ2 : ∀ o g, H.length < o → C'.β o g = none)
    (hm : ∀ b, b < C.w.heap.size → C'.w.heap[b]? = C.w.heap[b]?) (ho : ObjOk base C' H.length ob) (hg : GenOk C' H.length ob)
    (hb : ∀ b, blk C' H.length ob = some b → C.w.heap.size ≤ b) : Sim base C' (H ++ [ob]) where
  fsz b hb := Nat.lt_of_lt_of_le (h.fsz b ((hF b).1 hb)) hs
  dom o ho g := by
    simp at ho
    exact hβ2 o g (by omega)
  obj o ob' ho' := by
    rw [List.getElem?_append] at ho'
    split at ho'
    · rename_i hlt
      obtain ⟨h1, h2⟩ := h.obj o ob' ho'
      refine ⟨ObjOk_keep hle h1 (fun b hb => .inl ((hF b).1 hb)) (fun b hb => hm b (blk_heap h1 hb).2.2), ?_⟩
      cases ob' with
      | arr g sz l => intro g' hg'; rw [hβ _ _ hlt]; exact h2 g' hg'
      | _ => trivial
    · rename_i hge
      obtain ⟨hz, e⟩ := one_inv ho'
      have : o = H.length := by omega
      subst this
      subst e
      exact ⟨ho, hg⟩
  sep o o' ob1 ob2 b ho1 ho2 hb1 hb2 := by
    have key : ∀ o ob1, (H ++ [ob])[o]? = some ob1 → blk C' o ob1 = some b → (o < H.length ∧ H[o]? = some ob1 ∧ blk C o ob1 = some b ∧ b < C.w.heap.size) ∨ (o = H.length ∧ C.w.heap.size ≤ b) := by
      intro o ob1 ho1 hb1
      rw [List.getElem?_append] at ho1
      split at ho1
      · rename_i hlt
        rw [blk_le hle (h.obj o ob1 ho1).1] at hb1
        exact .inl ⟨hlt, ho1, hb1, (blk_heap (h.obj o ob1 ho1).1 hb1).2.2⟩
      · rename_i hge
        obtain ⟨hz, e⟩ := one_inv ho1
        have e2 : o = H.length := by omega
        subst e2
        subst e
        exact .inr ⟨rfl, hb b hb1⟩
    rcases key o ob1 ho1 hb1 with ⟨a1, a2, a3, a4⟩ | ⟨a1, a2⟩ <;> rcases key o' ob2 ho2 hb2 with ⟨b1, b2, b3, b4⟩ | ⟨b1, b2⟩
    · exact h.sep o o' ob1 ob2 b a2 b2 a3 b3
    · omega
    · omega
    · omega
  bsz := Nat.le_trans h.bsz hs
theorem Sim.set {base C C' H o ob ob'} (h : Sim base C H) (ho : H[o]? = some ob) (hle : Le C C') (hF : ∀ b, C'.F b → b < C'.w.heap.size ∧ (C.F b ∨ C.w.heap.size ≤ b ∨ blk C o ob = some b))
    (hs : C.w.heap.size ≤ C'.w.heap.size)
    (hβ : ∀ o' g, o' ≠ o → C'.β o' g = C.β o' g)
    (hm : ∀ b, b < C.w.heap.size → blk C o ob ≠ some b → C'.w.heap[b]? = C.w.heap[b]?) (hn : ObjOk base C' o ob') (hg : GenOk C' o ob')
    (hb : ∀ b, blk C' o ob' = some b → blk C o ob = some b ∨ C.w.heap.size ≤ b) : Sim base C' (H.set o ob') where
  fsz b hb := (hF b hb).1
  dom o' ho' g := by
    have hlt : o < H.length := (List.getElem?_eq_some_iff.1 ho).1
    simp at ho'
    rw [hβ o' g (by omega)]; exact h.dom o' ho' g
  obj o' ob1 ho' := by
    rw [List.getElem?_set] at ho'
    split at ho'
    · rename_i e
      subst e
      split at ho'
      · cases ho'; exact ⟨hn, hg⟩
      · cases ho'
    · rename_i hne
      obtain ⟨h1, h2⟩ := h.obj o' ob1 ho'
      have hbl : ∀ b, blk C o' ob1 = some b → blk C o ob ≠ some b := fun b h3 h4 => hne (h.sep o o' ob ob1 b ho ho' h4 h3)
      refine ⟨?_, ?_⟩
      · have hno : ∀ b, blk C o' ob1 = some b → ¬ C'.F b := fun b h3 h4 => by
          obtain ⟨_, x2, x3⟩ := blk_heap h1 h3
          rcases (hF b h4).2 with q | q | q
          · exact x2 q
          · omega
          · exact hbl b h3 q
        cases ob1 with
        | var x =>
          obtain ⟨b, c, e, g1, g2, g3, g4, g5⟩ := h1
          have hk : blk C o' (.var x) = some b := by simp [blk, g1, bOf]
          exact ⟨b, c, e, hle.β _ _ _ g1, (hm b (lt_of_heap g2) (hbl b hk)).trans g2, Rc_le hle _ _ g3, g4, hno b hk⟩
        | arr g sz l =>
          rcases h1 with ⟨g1, g2⟩ | ⟨b, bs, c, e, pre, css, post, g1, g2, g3, g4, g5, g6, g7, g8⟩
          · exact .inl ⟨hle.β _ _ _ g1, g2⟩
          · have hk : blk C o' (.arr g sz l) = some b := by simp [blk, g1, bOf]
            exact .inr ⟨b, bs, c, e, pre, css, post, hle.β _ _ _ g1, (hm b (lt_of_heap g2) (hbl b hk)).trans g2, g3, g4, Rcl_le hle _ _ g5, g6, g7, hno b hk⟩
        | map kvs =>
          obtain ⟨b, es, cl, g1, g2, g3, g4, g5⟩ := h1
          have hk : blk C o' (.map kvs) = some b := by simp [blk, g1, bOf]
          exact ⟨b, es, cl, hle.β _ _ _ g1, (hm b (lt_of_heap g2) (hbl b hk)).trans g2, ⟨MapR_le hle g3.1, g3.2⟩, g4, hno b hk⟩
        | dead => trivial
      · cases ob1 with
        | arr g sz l => intro g' hg'; rw [hβ _ _ (fun e => hne e.symm)]; exact h2 g' hg'
        | _ => trivial
  sep o1 o2 ob1 ob2 b ho1 ho2 hb1 hb2 := by
    have key : ∀ o1 ob1, (H.set o ob')[o1]? = some ob1 → blk C' o1 ob1 = some b → (o1 = o ∧ (blk C o ob = some b ∨ C.w.heap.size ≤ b)) ∨ (o1 ≠ o ∧ H[o1]? = some ob1 ∧ blk C o1 ob1 = some b ∧ b < C.w.heap.size) := by
      intro o1 ob1 ho1 hb1
      rw [List.getElem?_set] at ho1
      split at ho1
      · rename_i e
        subst e
        split at ho1
        · cases ho1; exact .inl ⟨rfl, hb b hb1⟩
        · cases ho1
      · rename_i hne
        rw [blk_le hle (h.obj o1 ob1 ho1).1] at hb1
        exact .inr ⟨fun e => hne e.symm, ho1, hb1, (blk_heap (h.obj o1 ob1 ho1).1 hb1).2.2⟩
    rcases key o1 ob1 ho1 hb1 with ⟨a1, a2⟩ | ⟨a1, a2, a3, a4⟩ <;> rcases key o2 ob2 ho2 hb2 with ⟨b1, b2⟩ | ⟨b1, b2, b3, b4⟩
    · omega
    · rcases a2 with a2 | a2
      · exact absurd (h.sep o o2 ob ob2 b ho b2 a2 b3) (fun e => b1 e.symm)
      · omega
    · rcases b2 with b2 | b2
      · exact absurd (h.sep o o1 ob ob1 b ho a2 b2 a3) (fun e => a1 e.symm)
      · omega
    · exact h.sep o1 o2 ob1 ob2 b a2 b2 a3 b3
  bsz := Nat.le_trans h.bsz hs
def Cx.cut (C : Cx) (n : Nat) : Cx := { C with β := fun o g => if o < n then C.β o g else none }
theorem Sim.take {base C H} (h : Sim base C H) (n : Nat) (hn : n ≤ H.length) (hfr : ∀ o ob, H[o]? = some ob → o < n → ObjOk base (C.cut n) o ob) : Sim base (C.cut n) (H.take n) where
  fsz b hb := h.fsz b hb
  dom o ho g := by
    simp at ho
    have : ¬ o < n := by omega
    simp [Cx.cut, this]
  obj o ob ho := by
    rw [List.getElem?_take] at ho
    split at ho
    · rename_i hlt
      refine ⟨hfr o ob ho hlt, ?_⟩
      cases ob with
      | arr g sz l => intro g' hg'; have := (h.obj o _ ho).2 g' hg'; simp [Cx.cut, hlt, this]
      | _ => trivial
    · cases ho
  sep o o' ob ob' b ho ho' hb hb' := by
    rw [List.getElem?_take] at ho ho'
    split at ho
    · split at ho'
      · rename_i h1 h2
        have e : ∀ o ob, o < n → blk (C.cut n) o ob = blk C o ob := by
          intro o ob hlt; cases ob <;> simp [blk, Cx.cut, hlt]
        rw [e o ob h1] at hb
        rw [e o' ob' h2] at hb'
        exact h.sep o o' ob ob' b ho ho' hb hb'
      · cases ho'
    · cases ho
  bsz := h.bsz
end Tor
namespace Tor
open Go Go.RowKit
variable {P : Program} {base : Nat} {C : Cx} {H : Heap}
theorem addr_add (b off i : Nat) : (⟨b, off, none⟩ : Addr).add i = ⟨b, off + i, none⟩ := by
  unfold Addr.add; split <;> simp_all
theorem Rv_known {x v} (hk : x.known = true) (h : Rv C x v) : Rc C x v.cells.toList ∧ vIsA v = x.isA := by
  rcases h with (rfl | h) | ⟨l, vs, rfl, _⟩
  · cases hk
  · exact h
  · cases hk
theorem Rv_of {x v} (h : Rc C x v.cells.toList) (h2 : vIsA v = x.isA) : Rv C x v := .inl (.inr ⟨h, h2⟩)
theorem cells_one {v : Value} (h : vIsA v = false) : v.cells = #[v] := by cases v <;> first | rfl | cases h
theorem Rv_one {x v} (h : Rc C x [v]) (hx : x.isA = false) (hv : vIsA v = false) : Rv C x v := by
  refine Rv_of ?_ (hv.trans hx.symm)
  rw [cells_one hv]; exact h
theorem Rv_bool {b v} (h : Rv C (.bool b) v) : v = .bool b := by
  obtain ⟨h1, h2⟩ := Rv_known rfl h
  rw [cells_one h2] at h1
  simpa [Rc] using h1
theorem Rv_int {k n v} (h : Rv C (.int k n) v) : v = .int k n := by
  obtain ⟨h1, h2⟩ := Rv_known rfl h
  rw [cells_one h2] at h1
  simpa [Rc] using h1
theorem Rv_a {x v} (h : Rv C (.a x) v) : v = x ∧ x.oneCell' = true := by
  obtain ⟨h1, h2⟩ := Rv_known rfl h
  rw [cells_one h2] at h1
  simpa [Rc] using h1
theorem Rv_nl {v} (h : Rv C .nl v) : v = .slice none 0 0 := by
  obtain ⟨h1, h2⟩ := Rv_known rfl h
  rw [cells_one h2] at h1
  simpa [Rc] using h1
theorem Rv_isl {l v} (h : Rv C (.isl l) v) : SlV C l.length (Rcl C l) v := by
  obtain ⟨h1, h2⟩ := Rv_known rfl h
  rw [cells_one h2] at h1
  simp only [Rc] at h1
  obtain ⟨_, v', e, hv⟩ := h1
  simp at e; subst e; exact hv
theorem Rv_isl_flat {l v} (h : Rv C (.isl l) v) : AV.hasRefs l = false := by
  obtain ⟨h1, h2⟩ := Rv_known rfl h
  simp only [Rc] at h1
  exact h1.1
theorem Rv_iptr {x v} (h : Rv C (.iptr x) v) : ∃ b off xs, v = .pointer (some ⟨b, off, none⟩) ∧ C.F b ∧ Rc C x xs ∧ cellsAt C.w b off xs := by
  obtain ⟨h1, h2⟩ := Rv_known rfl h
  rw [cells_one h2] at h1
  simp only [Rc] at h1
  obtain ⟨b, off, xs, e, r⟩ := h1
  simp at e; exact ⟨b, off, xs, e, r⟩
theorem Rv_ptr {o g p v} (h : Rv C (.ptr o g p) v) : ∃ b bs, C.β o g = some (some (b, bs)) ∧ v = .pointer (some ⟨b, bs + offs p, none⟩) := by
  obtain ⟨h1, h2⟩ := Rv_known rfl h
  rw [cells_one h2] at h1
  simp only [Rc] at h1
  obtain ⟨b, bs, hb, e⟩ := h1
  simp at e; exact ⟨b, bs, hb, e⟩
theorem Rv_sl {o g sz st len v} (h : Rv C (.sl o g sz st len) v) : (∃ b bs cap, C.β o g = some (some (b, bs)) ∧ v = .slice (some ⟨b, bs + st * sz, none⟩) len cap ∧ len ≤ cap ∧ Room C.w b (bs + st * sz) sz cap) ∨
      (∃ q, C.β o g = some q ∧ len = 0 ∧ ∃ a, v = .slice a 0 0) := by
  obtain ⟨h1, h2⟩ := Rv_known rfl h
  rw [cells_one h2] at h1
  simp only [Rc] at h1
  rcases h1 with ⟨b, bs, cap, hb, e, r⟩ | ⟨q, hb, hl, a, e⟩
  · simp at e; exact .inl ⟨b, bs, cap, hb, e, r⟩
  · simp at e; exact .inr ⟨q, hb, hl, a, e⟩
theorem Rv_mp {o v} (h : Rv C (.mp o) v) : ∃ b, C.β o 0 = some (some (b, 0)) ∧ v = .map (some b) := by
  obtain ⟨h1, h2⟩ := Rv_known rfl h
  rw [cells_one h2] at h1
  simp only [Rc] at h1
  obtain ⟨b, hb, e⟩ := h1
  simp at e; exact ⟨b, hb, e⟩
theorem Rv_fn {f l v} (h : Rv C (.fn f l) v) : ∃ vs, v = .func (.func (C.ι f)) #[] vs ∧ Rcl C l (vs.toList.map fun v => [v]) ∧ ∀ x ∈ l, x.isA = false := by
  obtain ⟨h1, h2⟩ := Rv_known rfl h
  rw [cells_one h2] at h1
  simp only [Rc] at h1
  obtain ⟨ha, vs, e, hl⟩ := h1
  simp at e; exact ⟨vs, e, hl, ha⟩
theorem Rv_agg {l v} (h : Rv C (.agg l) v) : ∃ css, Rcl C l css ∧ v = .agg css.flatten.toArray := by
  obtain ⟨h1, h2⟩ := Rv_known rfl h
  simp only [Rc] at h1
  obtain ⟨css, hl, e⟩ := h1
  refine ⟨css, hl, ?_⟩
  cases v <;> simp [vIsA, AV.isA] at h2
  rename_i cs
  simp [Value.cells] at e
  rw [← e]
theorem Rv_tup {l v} (h : Rv C (.tup l) v) : ∃ vs, v = .tuple vs ∧ Rvl C l vs.toList := by
  rcases h with (e | ⟨h, _⟩) | ⟨l', vs, e, e2, h⟩
  · cases e
  · exact h.elim
  · cases e; exact ⟨vs, e2, h⟩
theorem mk_bool (b : Bool) : Rv C (.bool b) (.bool b) := Rv_one (by simp [Rc]) rfl rfl
theorem mk_int (k : IntKind) (n : Int) : Rv C (.int k n) (.int k n) := Rv_one (by simp [Rc]) rfl rfl
theorem uniform_len {α} {sz : Nat} : ∀ css : List (List α), (∀ c ∈ css, c.length = sz) → css.flatten.length = css.length * sz
  | [], _ => by simp
  | c :: r, h => by
    have h1 := h c (by simp)
    have h2 := uniform_len r (fun d hd => h d (by simp [hd]))
    simp only [List.flatten_cons, List.length_append, List.length_cons, h1, h2, Nat.add_mul]; omega
theorem take_uniform {α} {sz : Nat} (css : List (List α)) (h : ∀ c ∈ css, c.length = sz) (i : Nat) (hi : i ≤ css.length) : (css.take i).flatten.length = i * sz := by
  rw [uniform_len _ (fun c hc => h c (List.mem_of_mem_take hc)), List.length_take, Nat.min_eq_left hi]
theorem cellsAt_of {w : World} {b : Nat} {c : Array Value} {e : TypeId} {fr : Nat × Nat} (h : w.heap[b]? = some (.cells c e fr)) {pre ys post : List Value} (hc : c.toList = pre ++ ys ++ post) :
    cellsAt w b pre.length ys := by
  intro i x hx
  have : c[pre.length + i]? = some x := by
    rw [← Array.getElem?_toList, hc, List.append_assoc, List.getElem?_append_right (by omega)]
    simp only [Nat.add_sub_cancel_left]
    rw [List.getElem?_append_left]
    · exact hx
    · exact (List.getElem?_eq_some_iff.1 hx).1
  simp [World.cell?, h, this]
theorem cellsAt_part {w : World} {b off : Nat} {pre ys post : List Value} (h : cellsAt w b off (pre ++ ys ++ post)) : cellsAt w b (off + pre.length) ys := by
  intro i x hx
  have := h (pre.length + i) x (by
    rw [List.append_assoc, List.getElem?_append_right (by omega), Nat.add_sub_cancel_left, List.getElem?_append_left]
    · exact hx
    · exact (List.getElem?_eq_some_iff.1 hx).1)
  rw [← this, Nat.add_assoc]
theorem objGet_ok (hs : Sim base C H) {o ob g p y} (ho : H[o]? = some ob) (h : objGet ob g p = some y) :
    ∃ b bs ys, C.β o g = some (some (b, bs)) ∧ Rc C y ys ∧ cellsAt C.w b (bs + offs p) ys := by
  obtain ⟨hok, _⟩ := hs.obj o ob ho
  cases ob with
  | var x =>
    simp only [objGet] at h
    split at h
    · rename_i hg
      subst hg
      obtain ⟨b, c, e, h1, h2, h3, _⟩ := hok
      obtain ⟨pre, ys, post, e1, e2, e3⟩ := nav_ok p x y _ h h3
      refine ⟨b, 0, ys, h1, e3, ?_⟩
      have := cellsAt_of h2 e1
      rw [e2] at this
      simpa using this
    · cases h
  | arr g' sz l =>
    cases p with
    | nil => simp [objGet] at h
    | cons q p =>
      obtain ⟨i, off⟩ := q
      simp only [objGet] at h
      split at h
      · rename_i hg
        obtain ⟨hg, ho2⟩ := hg
        subst hg
        split at h
        · rename_i z hz
          rcases hok with ⟨_, h2⟩ | ⟨b, bs, c, e, pre, css, post, h1, h2, h3, h4, h5, h6, _⟩
          · subst h2; simp at hz
          · obtain ⟨cz, hcz, hrz⟩ := Rcl_get l css i z h5 hz
            obtain ⟨pre2, ys, post2, e1, e2, e3⟩ := nav_ok p z y _ h hrz
            refine ⟨b, bs, ys, h1, e3, ?_⟩
            have hi : i < css.length := (List.getElem?_eq_some_iff.1 hcz).1
            have hl : (css.take i).flatten.length = i * sz := take_uniform css h6 i (by omega)
            have hc : c.toList = (pre ++ (css.take i).flatten ++ pre2) ++ ys ++ (post2 ++ (css.drop (i + 1)).flatten ++ post) := by
              rw [h3, flatten_split css i cz hcz, e1]; simp [List.append_assoc]
            have := cellsAt_of h2 hc
            simp only [List.length_append, h4, hl, e2] at this
            rw [show bs + offs ((i, off) :: p) = bs + i * sz + offs p by simp [offs, ho2]; omega]
            exact this
        · cases h
      · cases h
  | _ => simp [objGet] at h
def aggB (P : Program) (t : TypeId) : Option Bool :=
  match P.underlying t with
  | some (.struct _) => some true
  | some (.array _ _) => some true
  | some _ => some false
  | none => none
def sizeB (P : Program) (t : TypeId) : Option Nat := (P.info? t).map (·.size)
theorem run_isAgg {t b} (h : aggB P t = some b) (w : World) : (isAgg t).run P w = .ok b w := by
  unfold aggB at h
  unfold isAgg
  cases hu : P.underlying t with
  | none => rw [hu] at h; cases h
  | some d =>
    rw [hu] at h
    simp only [Sem.run_bind, run_underlying hu, Result.andThen_ok]
    cases d <;> (cases h; rfl)
theorem run_sizeOf {t n} (h : sizeB P t = some n) (w : World) : (Go.sizeOf t).run P w = .ok n w := by
  unfold sizeB at h
  cases hi : P.info? t with
  | none => rw [hi] at h; cases h
  | some i => rw [hi] at h; cases h; simp [Go.sizeOf, typeInfo, hi]
theorem run_loadVar {t ag b off ys y} (ha : aggB P t = some ag) (hz : sizeB P t = some y.size) (hag : y.isA = ag) (hy : Rc C y ys) (hc : cellsAt C.w b off ys) :
    ∃ v, (loadVar t ⟨b, off, none⟩).run P C.w = .ok v C.w ∧ Rv C y v := by
  have hlen := Rc_len y ys hy
  unfold loadVar
  simp only [Sem.run_bind, run_isAgg ha, Result.andThen_ok]
  cases ag with
  | true =>
    refine ⟨.agg ys.toArray, ?_, Rv_of (by simpa [Value.cells] using hy) hag.symm⟩
    have := run_loadCells_list (P := P) C.w ⟨b, off, none⟩ ys (fun j v hv => by rw [addr_add]; exact hc j v hv)
    rw [hlen] at this
    simp only [if_true, Sem.run_bind, run_sizeOf hz, Result.andThen_ok, this, Sem.run_pure]
  | false =>
    have h1 : ys.length = 1 := by
      rw [hlen]
      cases y <;> first | rfl | cases hag
    match ys, h1 with
    | [v], _ =>
      have hv := Rc_one y [v] hy v (by simp)
      have hva : vIsA v = false := by cases v <;> first | rfl | cases hv
      refine ⟨v, ?_, Rv_one hy hag hva⟩
      have := hc 0 v (by simp)
      simp only [Nat.add_zero] at this
      simp [this]
theorem load_ok (hs : Sim base C H) {t ag sz X v y} (ha : aggB P t = some ag) (hz : sizeB P t = some sz) (hx : Rv C X v) (h : doLoad ag sz H X = some y) :
    ∃ u, (Instr.loadAt t v).run P C.w = .ok u C.w ∧ Rv C y u := by
  have hfit : ∀ q, fits ag sz q = some y → q = some y ∧ y.size = sz ∧ y.isA = ag := by
    intro q hq
    cases q with
    | none => cases hq
    | some z =>
      simp only [fits] at hq
      split at hq
      · rename_i hh; cases hq; exact ⟨rfl, hh⟩
      · cases hq
  unfold Instr.loadAt
  cases X with
  | iptr x =>
    simp only [doLoad] at h
    obtain ⟨e, h1, h2⟩ := hfit _ h
    cases e
    obtain ⟨b, off, xs, rfl, hF, hr, hm⟩ := Rv_iptr hx
    simp only [Instr.sureAddr, Sem.run_bind, Sem.run_pure, Result.andThen_ok]
    exact run_loadVar ha (h1 ▸ hz) h2 hr hm
  | ptr o g p =>
    simp only [doLoad] at h
    obtain ⟨e, h1, h2⟩ := hfit _ h
    obtain ⟨b, bs, hb, rfl⟩ := Rv_ptr hx
    cases ho : H[o]? with
    | none => rw [ho] at e; cases e
    | some ob =>
      rw [ho] at e
      obtain ⟨b', bs', ys, hb', hr, hm⟩ := objGet_ok hs ho e
      rw [hb] at hb'
      cases hb'
      simp only [Instr.sureAddr, Sem.run_bind, Sem.run_pure, Result.andThen_ok]
      exact run_loadVar ha (h1 ▸ hz) h2 hr hm
  | _ => cases h
theorem nilCheck_ok {X v y} (hx : Rv C X v) (h : doNilCheck X = some y) :
    Rv C y v ∧ (match v with
    | .pointer none | .nilIface | .nilFunc => False
    | .func (.method _) _ _ => False
    | _ => True) := by
  cases X with
  | iptr x => cases h; obtain ⟨b, off, xs, rfl, _⟩ := Rv_iptr hx; exact ⟨hx, trivial⟩
  | ptr o g p => cases h; obtain ⟨b, bs, _, rfl⟩ := Rv_ptr hx; exact ⟨hx, trivial⟩
  | fn f l => cases h; obtain ⟨vs, rfl, _⟩ := Rv_fn hx; exact ⟨hx, trivial⟩
  | _ => cases h
theorem conv_ok {s d k X v y} (hd : P.underlying d = some (.int k)) (hsd : (P.underlying s).isSome = true) (hx : Rv C X v) (h : doConv k X = some y) :
    ∃ u, (convert s d v).run P C.w = .ok u C.w ∧ Rv C y u := by
  cases X with
  | int k' n =>
    cases h
    rw [Rv_int hx]
    obtain ⟨ds, hds⟩ := Option.isSome_iff_exists.1 hsd
    refine ⟨.int k (k.wrap n), ?_, mk_int _ _⟩
    unfold convert
    simp only [Sem.run_bind, run_underlying hds, run_underlying hd, Result.andThen_ok]
    cases ds <;> rfl
  | _ => cases h
theorem binInt_ok {op k x y z} (h : binInt op k x y = some z) (t : TypeId) (w : World) :
    ∃ u, (binOp op t (.int k x) (.int k y)).run P w = .ok u w ∧ ∀ C, Rv C z u := by
  cases op <;> simp only [binInt, Option.some.injEq, reduceCtorEq] at h
  case quo =>
    split at h
    · cases h
    · rename_i hy; cases h
      exact ⟨.int k (k.wrap (x.tdiv y)), by simp [binOp, Op.intDiv, hy], fun C => mk_int _ _⟩
  case rem =>
    split at h
    · cases h
    · rename_i hy; cases h
      exact ⟨.int k (x.tmod y), by simp [binOp, Op.intDiv, hy], fun C => mk_int _ _⟩
  all_goals subst h
  case add => exact ⟨_, by simp only [binOp, ne_eq, not_true_eq_false, if_false, Op.intArith]; rfl, fun C => mk_int _ _⟩
  case sub => exact ⟨_, by simp only [binOp, ne_eq, not_true_eq_false, if_false, Op.intArith]; rfl, fun C => mk_int _ _⟩
  case mul => exact ⟨_, by simp only [binOp, ne_eq, not_true_eq_false, if_false, Op.intArith]; rfl, fun C => mk_int _ _⟩
  case and => exact ⟨_, by simp only [binOp, ne_eq, not_true_eq_false, if_false, Op.intBits]; rfl, fun C => mk_int _ _⟩
  case or => exact ⟨_, by simp only [binOp, ne_eq, not_true_eq_false, if_false, Op.intBits]; rfl, fun C => mk_int _ _⟩
  case xor => exact ⟨_, by simp only [binOp, ne_eq, not_true_eq_false, if_false, Op.intBits]; rfl, fun C => mk_int _ _⟩
  case andNot => exact ⟨_, by simp only [binOp, ne_eq, not_true_eq_false, if_false, Op.intBits]; rfl, fun C => mk_int _ _⟩
  all_goals exact ⟨_, by simp only [binOp, ne_eq, not_true_eq_false, if_false, Op.intCmp]; rfl, fun C => mk_bool _⟩
theorem run_eql_bool2 (t : TypeId) (a b : Bool) (h : P.underlying t = some .bool) (w : World) : (Op.equal t (.bool a) (.bool b)).run P w = .ok (a == b) w := by
  unfold Op.equal Op.maxDepth
  rw [show (10000 : Nat) = 9999 + 1 from rfl, Op.equalIn]
  simp only [Sem.run_bind, run_underlying h, Result.andThen_ok]
  rfl
theorem binb_ok {ne t X Y u v z} (ht : P.underlying t = some .bool) (hx : Rv C X u) (hy : Rv C Y v) (h : binB ne X Y = some z) :
    ∃ r, (binOp (if ne then .neq else .eql) t u v).run P C.w = .ok r C.w ∧ Rv C z r := by
  cases X <;> cases Y <;> simp only [binB, reduceCtorEq, Option.some.injEq] at h
  rename_i a b
  subst h
  rw [Rv_bool hx, Rv_bool hy]
  cases ne with
  | false => exact ⟨.bool (a == b), by simp only [Bool.false_eq_true, if_false, binOp, Sem.run_bind, run_eql_bool2 t a b ht, Result.andThen_ok, Sem.run_pure], mk_bool _⟩
  | true => exact ⟨.bool (!(a == b)), by simp only [if_true, binOp, Sem.run_bind, run_eql_bool2 t a b ht, Result.andThen_ok, Sem.run_pure], mk_bool _⟩
theorem bin_ok {op t X Y u v z} (hx : Rv C X u) (hy : Rv C Y v) (h : binAV op X Y = some z) : ∃ r, (binOp op t u v).run P C.w = .ok r C.w ∧ Rv C z r := by
  cases X <;> try (cases h; done)
  cases Y <;> try (cases h; done)
  rename_i k x k' y
  rw [Rv_int hx, Rv_int hy]
  have hgen : ∀ op, (if k = k' then binInt op k x y else none) = some z → ∃ r, (binOp op t (.int k x) (.int k' y)).run P C.w = .ok r C.w ∧ Rv C z r := by
    intro op h'
    split at h'
    · rename_i hk; subst hk
      obtain ⟨r, hr, hz⟩ := binInt_ok (P := P) h' t C.w
      exact ⟨r, hr, hz C⟩
    · cases h'
  cases op
  case shl =>
    simp only [binAV] at h
    split at h
    · cases h
    · rename_i hn; cases h
      exact ⟨_, by simp only [binOp, Op.shift, hn, if_false]; rfl, mk_int _ _⟩
  case shr =>
    simp only [binAV] at h
    split at h
    · cases h
    · rename_i hn; cases h
      exact ⟨_, by simp only [binOp, Op.shift, hn, if_false]; rfl, mk_int _ _⟩
  all_goals exact hgen _ h
theorem un_ok {op X u z} (hx : Rv C X u) (h : unAV op X = some z) : ∃ r, (Op.unary op u).run P C.w = .ok r C.w ∧ Rv C z r := by
  cases X <;> try (cases h; done)
  · rename_i b
    rw [Rv_bool hx]
    cases op <;> simp only [unAV, Option.some.injEq, reduceCtorEq] at h
    subst h; exact ⟨.bool !b, by simp only [Op.unary, Sem.run_pure], mk_bool _⟩
  · rename_i k n
    rw [Rv_int hx]
    cases op <;> simp only [unAV, Option.some.injEq, reduceCtorEq] at h
    · subst h; exact ⟨_, by simp only [Op.unary, Op.intArith]; rfl, mk_int _ _⟩
    · subst h; exact ⟨_, by simp only [Op.unary, Op.intBits]; rfl, mk_int _ _⟩
def fieldB (P : Program) (t : TypeId) (i : Nat) : Option Field :=
  match P.underlying t with
  | some (.struct fs) => fs[i]?
  | _ => none
theorem sizes_take_get {l : List AV} {css} (hl : Rcl C l css) {i : Nat} {y : AV} (hy : l[i]? = some y) :
    ∃ c, css.flatten = (css.take i).flatten ++ c ++ (css.drop (i + 1)).flatten ∧ (css.take i).flatten.length = AV.sizes (l.take i) ∧ Rc C y c := by
  obtain ⟨c, hc, hr⟩ := Rcl_get l css i y hl hy
  exact ⟨c, flatten_split css i c hc, take_size hl i, hr⟩
theorem fieldAddr_ok {t i off f X v y} (hf : fieldB P t i = some f) (ho : f.offset = off) (hz : ∃ n, sizeB P f.type = some n ∧ n ≠ 0) (hx : Rv C X v) (h : doFieldAddr i off X = some y) :
    ∃ u, (Instr.fieldAt t v i).run P C.w = .ok u C.w ∧ Rv C y u := by
  obtain ⟨n, hn, hn0⟩ := hz
  have hrun : ∀ b o, v = .pointer (some ⟨b, o, none⟩) → (Instr.fieldAt t v i).run P C.w = .ok (.pointer (some ⟨b, o + off, none⟩)) C.w := by
    rintro b o rfl
    unfold fieldB at hf
    cases hu : P.underlying t with
    | none => rw [hu] at hf; cases hf
    | some d =>
      rw [hu] at hf
      cases d <;> try (cases hf; done)
      rename_i fs
      simp [Instr.fieldAt, run_underlying hu, hf, Instr.sureAddr, fieldPlace, run_sizeOf hn, hn0, addr_add, ho]
  cases X with
  | iptr x =>
    cases x with
    | agg l =>
      simp only [doFieldAddr] at h
      split at h
      · rename_i hs
        obtain ⟨b, o, xs, rfl, hF, hr, hm⟩ := Rv_iptr hx
        cases hl : l[i]? with
        | none => rw [hl] at h; cases h
        | some z =>
          rw [hl] at h; cases h
          simp only [Rc] at hr
          obtain ⟨css, hcl, rfl⟩ := hr
          obtain ⟨c, e1, e2, e3⟩ := sizes_take_get hcl hl
          refine ⟨_, hrun b o rfl, Rv_one ?_ rfl rfl⟩
          simp only [Rc]
          rw [e1] at hm
          have := cellsAt_part hm
          rw [e2, hs] at this
          exact ⟨b, o + off, c, rfl, hF, e3, this⟩
      · cases h
    | _ => cases h
  | ptr o g p =>
    cases h
    obtain ⟨b, bs, hb, rfl⟩ := Rv_ptr hx
    refine ⟨_, hrun b _ rfl, Rv_one ?_ rfl rfl⟩
    simp only [Rc]
    exact ⟨b, bs, hb, by simp [offs]; omega⟩
  | _ => cases h
theorem fits_inv {ag sz q y} (h : fits ag sz q = some y) : q = some y ∧ y.size = sz ∧ y.isA = ag := by
  cases q with
  | none => cases h
  | some z =>
    simp only [fits] at h
    split at h
    · rename_i hh; cases h; exact ⟨rfl, hh⟩
    · cases h
theorem field_ok {t i off ag sz f X v y} (hf : fieldB P t i = some f) (ho : f.offset = off) (ha : aggB P f.type = some ag) (hz : sizeB P f.type = some sz) (hx : Rv C X v) (h : doField i off ag sz X = some y) :
    ∃ u, (Instr.field t v i).run P C.w = .ok u C.w ∧ Rv C y u := by
  cases X with
  | agg l =>
    simp only [doField] at h
    split at h
    · rename_i hs
      obtain ⟨e, h1, h2⟩ := fits_inv h
      obtain ⟨css, hcl, rfl⟩ := Rv_agg hx
      obtain ⟨c, e1, e2, e3⟩ := sizes_take_get hcl e
      have hlen := Rc_len _ _ e3
      unfold fieldB at hf
      cases hu : P.underlying t with
      | none => rw [hu] at hf; cases hf
      | some d =>
        rw [hu] at hf
        cases d <;> try (cases hf; done)
        rename_i fs
        simp only at hf
        have hcut : (css.flatten.drop off).take sz = c := by
          rw [e1, ← hs, ← e2, List.append_assoc, List.drop_left, ← h1, ← hlen, List.take_left]
        cases ag with
        | true =>
          refine ⟨.agg c.toArray, ?_, Rv_of (by simpa [Value.cells] using e3) h2.symm⟩
          simp only [Instr.field, Sem.run_bind, run_underlying hu, Result.andThen_ok, hf, asAgg, Sem.run_pure, part, run_isAgg ha, if_true, run_sizeOf hz, ho]
          congr 2
          rw [← hcut]
          apply Array.ext'
          simp
        | false =>
          have h1' : c.length = 1 := by
            rw [hlen]
            cases y <;> first | rfl | cases h2
          match c, h1' with
          | [u], _ =>
            have hv := Rc_one y [u] e3 u (by simp)
            have hva : vIsA u = false := by cases u <;> first | rfl | cases hv
            refine ⟨u, ?_, Rv_one e3 h2 hva⟩
            have hget : css.flatten[off]? = some u := by
              rw [e1, ← hs, ← e2, List.append_assoc, List.getElem?_append_right (by omega)]; simp
            simp [Instr.field, run_underlying hu, hf, asAgg, part, run_isAgg ha, ho, hget]
    · cases h
  | _ => cases h
def sliceB (P : Program) (t : TypeId) : Option TypeId :=
  match P.underlying t with
  | some (.slice e) => some e
  | _ => none
theorem sliceB_inv {t e} (h : sliceB P t = some e) : P.underlying t = some (.slice e) := by
  unfold sliceB at h
  cases hu : P.underlying t with
  | none => rw [hu] at h; cases h
  | some d => rw [hu] at h; cases d <;> first | (cases h; rfl) | cases h
theorem indexAddr_ok {t e sz X I v vi y} (ht : sliceB P t = some e) (hz : sizeB P e = some sz) (hx : Rv C X v) (hi : Rv C I vi) (h : doIndexAddr sz X I = some y) :
    ∃ u, (Instr.indexAt t v vi).run P C.w = .ok u C.w ∧ Rv C y u := by
  have hu := sliceB_inv ht
  have hrun : ∀ b o len cap k (n : Int), v = .slice (some ⟨b, o, none⟩) len cap → vi = .int k n → 0 ≤ n → n < len →
      (Instr.indexAt t v vi).run P C.w = .ok (.pointer (some ⟨b, o + n.toNat * sz, none⟩)) C.w := by
    rintro b o len cap k n rfl rfl h0 h1
    simp [Instr.indexAt, asIntOf, run_underlying hu, h0, h1, run_sizeOf hz, addr_add]
  cases I with
  | int k n =>
    have hvi := Rv_int hi
    cases X with
    | isl l =>
      simp only [doIndexAddr] at h
      split at h
      · rename_i h0
        cases hl : l[n.toNat]? with
        | none => rw [hl] at h; cases h
        | some z =>
          rw [hl] at h
          simp only [iptrOf] at h
          split at h
          · rename_i hzs
            cases h
            have hlt : n.toNat < l.length := (List.getElem?_eq_some_iff.1 hl).1
            obtain ⟨a, cap, rfl, hn⟩ := Rv_isl hx
            rcases hn with hn | ⟨b, off, css, sz', rfl, hF, hc, hr, hun, hm⟩
            · omega
            · obtain ⟨c, hcc, hrz⟩ := Rcl_get l css _ z hr hl
              have hsz : sz' = sz := by rw [← hzs, ← Rc_len _ _ hrz]; exact (hun c (List.mem_of_getElem? hcc)).symm
              subst hsz
              refine ⟨_, hrun b off _ cap k n rfl hvi h0 (by omega), Rv_one ?_ rfl rfl⟩
              simp only [Rc]
              rw [flatten_split css _ c hcc] at hm
              have := cellsAt_part hm
              rw [take_uniform css hun _ (by have := (List.getElem?_eq_some_iff.1 hcc).1; omega)] at this
              exact ⟨b, off + n.toNat * sz', c, rfl, hF, hrz, this⟩
          · cases h
      · cases h
    | sl o g sz' st len =>
      simp only [doIndexAddr] at h
      split at h
      · rename_i hh
        obtain ⟨h0, h1, h2⟩ := hh
        subst h2
        cases h
        rcases Rv_sl hx with ⟨b, bs, cap, hb, rfl, hl, hroom⟩ | ⟨_, _, hl, _⟩
        · refine ⟨_, hrun b _ len cap k n rfl hvi h0 h1, Rv_one ?_ rfl rfl⟩
          simp only [Rc]
          exact ⟨b, bs, hb, by simp [offs, Nat.add_mul]; omega⟩
        · omega
      · cases h
    | _ => cases h
  | _ => cases X <;> cases h
theorem indexArr_ok {t e n sz X I v vi y} (ht : P.underlying t = some (.array n e)) (hz : sizeB P e = some sz) (hx : Rv C X v) (hi : Rv C I vi) (h : doIndexArr n sz X I = some y) :
    ∃ u, (Instr.indexAt t v vi).run P C.w = .ok u C.w ∧ Rv C y u := by
  have hrun : ∀ b o k (i : Int), v = .pointer (some ⟨b, o, none⟩) → vi = .int k i → 0 ≤ i → i < n →
      (Instr.indexAt t v vi).run P C.w = .ok (.pointer (some ⟨b, o + i.toNat * sz, none⟩)) C.w := by
    rintro b o k i rfl rfl h0 h1
    simp [Instr.indexAt, asIntOf, run_underlying ht, Instr.sureAddr, h0, h1, run_sizeOf hz, addr_add]
  cases I with
  | int k i =>
    have hvi := Rv_int hi
    cases X with
    | iptr x =>
      cases x with
      | agg l =>
        simp only [doIndexArr] at h
        split at h
        · rename_i hh
          obtain ⟨h0, h1, hs⟩ := hh
          obtain ⟨b, o, xs, rfl, hF, hr, hm⟩ := Rv_iptr hx
          cases hl : l[i.toNat]? with
          | none => rw [hl] at h; cases h
          | some z =>
            rw [hl] at h
            simp only [iptrOf] at h
            split at h
            · cases h
              simp only [Rc] at hr
              obtain ⟨css, hcl, rfl⟩ := hr
              obtain ⟨c, e1, e2, e3⟩ := sizes_take_get hcl hl
              refine ⟨_, hrun b o k i rfl hvi h0 h1, Rv_one ?_ rfl rfl⟩
              simp only [Rc]
              rw [e1] at hm
              have := cellsAt_part hm
              rw [e2, hs] at this
              exact ⟨b, _, c, rfl, hF, e3, this⟩
            · cases h
        · cases h
      | _ => cases h
    | ptr o g p =>
      simp only [doIndexArr] at h
      split at h
      · rename_i hh
        cases h
        obtain ⟨b, bs, hb, rfl⟩ := Rv_ptr hx
        refine ⟨_, hrun b _ k i rfl hvi hh.1 hh.2, Rv_one ?_ rfl rfl⟩
        simp only [Rc]
        exact ⟨b, bs, hb, by simp [offs]; omega⟩
      · cases h
    | _ => cases h
  | _ =>
    cases X with
    | iptr x => cases x <;> cases h
    | _ => cases h
theorem indexStr_ok {t X I v vi y} (ht : P.underlying t = some .string) (hx : Rv C X v) (hi : Rv C I vi) (h : doIndexStr X I = some y) :
    ∃ u, (Instr.index t v vi).run P C.w = .ok u C.w ∧ Rv C y u := by
  cases X with
  | a x =>
    cases I with
    | int k n =>
      cases x <;> try (cases h; done)
      rename_i s
      simp only [doIndexStr] at h
      split at h
      · rename_i h0
        cases hs : s[n.toNat]? with
        | none => rw [hs] at h; cases h
        | some b =>
          rw [hs] at h; cases h
          rw [(Rv_a hx).1, Rv_int hi]
          exact ⟨.int .u8 b.toNat, by simp [Instr.index, asIntOf, run_underlying ht, h0, hs], mk_int _ _⟩
      · cases h
    | _ => cases x <;> cases h
  | _ => cases I <;> cases h
end Tor
namespace Tor
open Go Go.RowKit
variable {P : Program} {base : Nat} {C : Cx} {H : Heap}
theorem headSize_uniform {l : List AV} {css : List (List Value)} {sz sz' : Nat} (hr : Rcl C l css) (hu : ∀ c ∈ css, c.length = sz') (h : headSize sz l = true) (hne : l ≠ []) : sz' = sz := by
  cases l with
  | nil => exact absurd rfl hne
  | cons x l =>
    simp only [Rcl] at hr
    obtain ⟨c, r, e, hx, _⟩ := hr
    subst e
    simp only [headSize, beq_iff_eq] at h
    rw [← h, ← Rc_len x c hx]
    exact (hu c (by simp)).symm
def RvO (C : Cx) (o : Option AV) (ov : Option Value) : Prop :=
  match o, ov with
  | none, none => True
  | some x, some v => Rv C x v
  | _, _ => False
theorem bound_cases {o ov d n} (hr : RvO C o ov) (h : bound o d = some n) : (ov = none ∧ n = d) ∨ ∃ k, ov = some (.int k n) := by
  cases o with
  | none => cases ov with
    | none => cases h; exact .inl ⟨rfl, rfl⟩
    | some v => exact hr.elim
  | some x =>
    cases ov with
    | none => exact hr.elim
    | some v =>
      cases x <;> try (cases h; done)
      cases h
      exact .inr ⟨_, by rw [Rv_int hr]⟩
theorem run_sliceBound {k : IntKind} {n : Int} {y : Nat} {code} (h0 : 0 ≤ n) (h1 : n ≤ y) (w : World) : (Instr.sliceBound (.int k n) y code).run P w = .ok n.toNat w := by
  simp [Instr.sliceBound, asIntOf, h0, h1]
theorem sliceIn_inv {n a b c r} (h : sliceIn n a b c = some r) : ∃ i j k, a = some i ∧ b = some j ∧ c = some k ∧ 0 ≤ i ∧ i ≤ j ∧ j ≤ k ∧ k ≤ n ∧ r = (i.toNat, j.toNat) := by
  cases a <;> cases b <;> cases c <;> simp only [sliceIn, reduceCtorEq] at h
  split at h
  · rename_i i j k hh
    cases h
    exact ⟨i, j, k, rfl, rfl, rfl, hh.1, hh.2.1, hh.2.2.1, hh.2.2.2, rfl⟩
  · cases h
theorem run_sliceBounds {len cap : Nat} {lo hi mx : Option AV} {vlo vhi vmx : Option Value} {i j : Nat} (hlo : RvO C lo vlo) (hhi : RvO C hi vhi) (hmx : RvO C mx vmx) (hc : len ≤ cap)
    (hmh : vmx.isSome = true → vhi.isSome = true)
    (h : sliceIn len (bound lo 0) (bound hi len) (bound mx len) = some (i, j)) :
    ∃ m, (Instr.sliceBounds true len cap vlo vhi vmx).run P C.w = .ok (i, j, m) C.w ∧ i ≤ j ∧ j ≤ m ∧ m ≤ cap ∧ j ≤ len := by
  obtain ⟨i', j', k', h1, h2, h3, a1, a2, a3, a4, e⟩ := sliceIn_inv h
  cases e
  have f1 : ∀ (k : IntKind) code, (Instr.sliceBound (.int k k') cap code).run P C.w = .ok k'.toNat C.w := fun k code => run_sliceBound (by omega) (by omega) _
  have f2 : ∀ (k : IntKind) code, (Instr.sliceBound (.int k j') k'.toNat code).run P C.w = .ok j'.toNat C.w := fun k code => run_sliceBound (by omega) (by omega) _
  have f3 : ∀ (k : IntKind) code, (Instr.sliceBound (.int k j') cap code).run P C.w = .ok j'.toNat C.w := fun k code => run_sliceBound (by omega) (by omega) _
  have f4 : ∀ (k : IntKind) code, (Instr.sliceBound (.int k i') j'.toNat code).run P C.w = .ok i'.toNat C.w := fun k code => run_sliceBound (by omega) (by omega) _
  rcases bound_cases hmx h3 with ⟨e3, e3'⟩ | ⟨k3, e3⟩
  · refine ⟨cap, ?_, by omega, by omega, Nat.le_refl _, by omega⟩
    rcases bound_cases hhi h2 with ⟨e2, e2'⟩ | ⟨k2, e2⟩ <;> rcases bound_cases hlo h1 with ⟨e1, e1'⟩ | ⟨k1, e1⟩ <;> subst e1 e2 e3
    · subst e1' e2'; simp [Instr.sliceBounds]
    · subst e2'
      have := f4 k1
      simp at this
      simp [Instr.sliceBounds, this]
    · subst e1'; simp [Instr.sliceBounds, f3]
    · simp [Instr.sliceBounds, f3, f4]
  · refine ⟨k'.toNat, ?_, by omega, by omega, by omega, by omega⟩
    rcases bound_cases hhi h2 with ⟨e2, e2'⟩ | ⟨k2, e2⟩
    · subst e2; subst e3; exact absurd (hmh rfl) (by simp)
    · rcases bound_cases hlo h1 with ⟨e1, e1'⟩ | ⟨k1, e1⟩ <;> subst e1 e2 e3
      · subst e1'; simp [Instr.sliceBounds, f1, f2]
      · simp [Instr.sliceBounds, f1, f2, f4]
theorem slice_ok {t e sz lo hi mx X vlo vhi vmx v y} (ht : sliceB P t = some e) (hz : sizeB P e = some sz) (hlo : RvO C lo vlo) (hhi : RvO C hi vhi) (hmx : RvO C mx vmx)
    (hmh : vmx.isSome = true → vhi.isSome = true) (hx : Rv C X v) (h : doSlice sz lo hi mx X = some y) :
    ∃ u, (Instr.sliceAt t v vlo vhi vmx).run P C.w = .ok u C.w ∧ Rv C y u := by
  have hu := sliceB_inv ht
  have hrun : ∀ a len cap i j, v = .slice a len cap → len ≤ cap → sliceIn len (bound lo 0) (bound hi len) (bound mx len) = some (i, j) →
      ∃ m, (Instr.sliceAt t v vlo vhi vmx).run P C.w = .ok (.slice (if m = i then a else a.map (·.add (i * sz))) (j - i) (m - i)) C.w ∧ i ≤ j ∧ j ≤ m ∧ m ≤ cap ∧ j ≤ len := by
    rintro a len cap i j rfl hc hs
    obtain ⟨m, hm, r⟩ := run_sliceBounds (P := P) hlo hhi hmx hc hmh hs
    refine ⟨m, ?_, r⟩
    simp [Instr.sliceAt, Instr.slice, run_underlying hu, hm, run_sizeOf hz]
  cases X with
  | isl l =>
    simp only [doSlice] at h
    split at h
    · rename_i hhs
      cases hs : sliceIn l.length (bound lo 0) (bound hi l.length) (bound mx l.length) with
      | none => rw [hs] at h; cases h
      | some r =>
        obtain ⟨i, j⟩ := r
        rw [hs] at h
        cases h
        obtain ⟨a, cap, rfl, hn⟩ := Rv_isl hx
        have hflat : ∀ i j, AV.hasRefs ((l.take j).drop i) = false := fun i j => hasRefs_of_mem fun x hxm => hasRefs_mem (Rv_isl_flat hx) x (List.mem_of_mem_take (List.mem_of_mem_drop hxm))
        have hj : ∀ b off css sz', a = some (⟨b, off, none⟩ : Addr) → l.length ≤ cap → Rcl C l css → (∀ c ∈ css, c.length = sz') → C.F b → cellsAt C.w b off css.flatten → ∃ u, (Instr.sliceAt t (.slice a l.length cap) vlo vhi vmx).run P C.w = .ok u C.w ∧ Rv C (.isl ((l.take j).drop i)) u := by
          rintro b off css sz' rfl hc hr hun hF hm
          obtain ⟨m, hrn, q1, q2, q3, q4⟩ := hrun _ _ _ i j rfl hc hs
          refine ⟨_, hrn, Rv_one ?_ rfl rfl⟩
          simp only [Rc]
          refine ⟨hflat _ _, _, rfl, _, _, by simp only [List.length_drop, List.length_take]; rw [Nat.min_eq_left q4], ?_⟩
          by_cases hij : i = j
          · left; simp; omega
          · right
            have hne : l ≠ [] := fun e => by subst e; simp at q4; omega
            have := headSize_uniform hr hun hhs hne
            subst this
            have hcount := Rcl_count l css hr
            refine ⟨b, off + i * sz', (css.take j).drop i, sz', ?_, hF, by simp only [List.length_drop, List.length_take]; omega, Rcl_drop _ _ _ (Rcl_take _ _ _ hr), fun c hc => hun c (List.mem_of_mem_take (List.mem_of_mem_drop hc)), ?_⟩
            · rw [if_neg (by omega)]; simp [addr_add]
            · have e : css.flatten = (css.take i).flatten ++ ((css.take j).drop i).flatten ++ (css.drop j).flatten := by
                rw [← List.flatten_append, ← List.flatten_append]
                congr 1
                rw [show css.take i = (css.take j).take i by rw [List.take_take, Nat.min_eq_left q1], List.take_append_drop, List.take_append_drop]
              rw [e] at hm
              have := cellsAt_part hm
              rw [take_uniform css hun i (by omega)] at this
              exact this
        rcases hn with hn | ⟨b, off, css, sz', ha, hF, hc, hr, hun, hm⟩
        · have hle : l = [] := List.length_eq_zero_iff.1 hn
          subst hle
          obtain ⟨i', j', k', _, _, _, x1, x2, x3, x4, e⟩ := sliceIn_inv hs
          cases e
          obtain ⟨m, hrn, q1, q2, q3, q4⟩ := hrun a 0 cap _ _ rfl (Nat.zero_le _) hs
          rw [show j'.toNat - i'.toNat = 0 by omega] at hrn
          refine ⟨_, hrn, Rv_one ?_ rfl rfl⟩
          simp only [Rc]
          refine ⟨by simpa using hflat i'.toNat j'.toNat, _, rfl, _, _, by rw [show (List.drop i'.toNat (List.take j'.toNat ([] : List AV))).length = 0 by simp], .inl (by simp)⟩
        · exact hj b off css sz' ha hc hr hun hF hm
    · cases h
  | sl o g sz' s len =>
    simp only [doSlice] at h
    split at h
    · rename_i he
      subst he
      cases hs : sliceIn len (bound lo 0) (bound hi len) (bound mx len) with
      | none => rw [hs] at h; cases h
      | some r =>
        obtain ⟨i, j⟩ := r
        rw [hs] at h
        cases h
        rcases Rv_sl hx with ⟨b, bs, cap, hb, rfl, hl, hroom⟩ | ⟨q, hb, hl, a, rfl⟩
        · obtain ⟨m, hrn, q1, q2, q3, q4⟩ := hrun _ _ _ i j rfl hl hs
          by_cases hmi : m = i
          · -- nothing is left: the place is the elder one
            refine ⟨_, hrn, Rv_one ?_ rfl rfl⟩
            simp only [Rc]
            exact .inr ⟨_, hb, by omega, _, by rw [show j - i = 0 by omega, show m - i = 0 by omega]⟩
          · refine ⟨_, hrn, Rv_one ?_ rfl rfl⟩
            simp only [Rc]
            refine .inl ⟨b, bs, m - i, hb, ?_, by omega, ?_⟩
            · rw [if_neg hmi]; simp [addr_add, Nat.add_mul, Nat.add_assoc]
            · obtain ⟨e', n, hsh, hn⟩ := hroom
              refine ⟨e', n, hsh, ?_⟩
              have : bs + s * sz' + i * sz' + (m - i) * sz' = bs + s * sz' + m * sz' := by
                rw [Nat.add_assoc (bs + s * sz'), ← Nat.add_mul]; congr 2; omega
              have h2 : m * sz' ≤ cap * sz' := Nat.mul_le_mul_right _ q3
              rw [Nat.add_mul]; omega
        · subst hl
          obtain ⟨i', j', k', _, _, _, x1, x2, x3, x4, e⟩ := sliceIn_inv hs
          cases e
          obtain ⟨m, hrn, q1, q2, q3, q4⟩ := hrun a 0 0 _ _ rfl (Nat.le_refl _) hs
          refine ⟨_, hrn, Rv_one ?_ rfl rfl⟩
          simp only [Rc]
          refine .inr ⟨q, hb, by omega, _, by rw [show j'.toNat - i'.toNat = 0 by omega, show m - i'.toNat = 0 by omega]⟩
    · cases h
  | _ => cases h
def lenKind (P : Program) (t : TypeId) : Nat → Bool
  | 0 => match P.underlying t with | some (.slice _) => true | _ => false
  | 1 => match P.underlying t with | some (.map _ _) => true | _ => false
  | 2 => match P.underlying t with | some .string => true | _ => false
  | _ => false
theorem MapR_length {r es} (h : MapR C r es) : r.length = es.length := by
  induction h with
  | nil => rfl
  | cons _ _ _ _ ih => simp [ih]
theorem run_getMap {b es cl} (h : C.w.heap[b]? = some (.map es cl)) : (getObj b).run P C.w = .ok (.map es cl) C.w := by
  simp only [getObj, Sem.run, h]
theorem obj_map (hs : Sim base C H) {o kvs} (ho : H[o]? = some (.map kvs)) : ∃ b es clock, C.β o 0 = some (some (b, 0)) ∧ C.w.heap[b]? = some (.map es clock) ∧ MapRS C kvs es clock ∧ base ≤ b ∧ ¬ C.F b :=
  (hs.obj o _ ho).1
theorem len_ok (hs : Sim base C H) {kd t ty X v y} (ht : lenKind P t kd = true) (hx : Rv C X v) (h : doLen H kd X = some y) :
    ∃ u, (Builtin.len_ #[t] ty #[v]).run P C.w = .ok u C.w ∧ Rv C y u := by
  match kd with
  | 0 =>
    simp only [lenKind] at ht
    split at ht
    · rename_i e hu
      have hrun : ∀ a n cap, v = .slice a n cap → (Builtin.len_ #[t] ty #[v]).run P C.w = .ok (.int .i64 n) C.w := by
        rintro a n cap rfl
        simp [Builtin.len_, run_underlying hu, goInt]
      cases X with
      | isl l => cases h; obtain ⟨a, cap, rfl, _⟩ := Rv_isl hx; exact ⟨_, hrun _ _ _ rfl, mk_int _ _⟩
      | nl => cases h; rw [Rv_nl hx] at hrun ⊢; exact ⟨_, hrun _ _ _ rfl, mk_int _ _⟩
      | sl o g sz s len =>
        cases h
        rcases Rv_sl hx with ⟨b, bs, cap, _, rfl, _⟩ | ⟨q, _, hl, a, rfl⟩
        · exact ⟨_, hrun _ _ _ rfl, mk_int _ _⟩
        · subst hl; exact ⟨_, hrun _ _ _ rfl, mk_int _ _⟩
      | _ => cases h
    · cases ht
  | 1 =>
    simp only [lenKind] at ht
    split at ht
    · rename_i k e hu
      cases X with
      | mp o =>
        simp only [doLen] at h
        cases ho : H[o]? with
        | none => rw [ho] at h; cases h
        | some ob =>
          rw [ho] at h
          cases ob <;> try (cases h; done)
          rename_i kvs
          cases h
          obtain ⟨b, es, cl, h1, h2, h3, _⟩ := obj_map hs ho
          obtain ⟨b', h1', rfl⟩ := Rv_mp hx
          rw [h1] at h1'; cases h1'
          refine ⟨_, ?_, mk_int _ _⟩
          have := MapR_length h3.1
          simp [Builtin.len_, run_underlying hu, goInt, run_getMap h2, this]
      | _ => cases h
    · cases ht
  | 2 =>
    simp only [lenKind] at ht
    split at ht
    · rename_i hu
      cases X with
      | a x =>
        cases x <;> try (cases h; done)
        rename_i s
        cases h
        rw [(Rv_a hx).1]
        exact ⟨.int .i64 s.size, by simp [Builtin.len_, run_underlying hu, goInt], mk_int _ _⟩
      | _ => cases h
    · cases ht
  | n + 3 => cases ht
def intKind : TypeDesc → Bool
  | .int _ => true
  | _ => false
theorem checkKey_int {kt k n} {d : TypeDesc} (hd : P.underlying kt = some d) (hk : intKind d = true) (em : Bool) (w : World) : (Instr.checkKey em 10000 kt (.int k n)).run P w = .ok () w := by
  rw [show (10000 : Nat) = 9999 + 1 from rfl, Instr.checkKey]
  simp only [Sem.run_bind, run_underlying hd, Result.andThen_ok]
  cases d <;> first | rfl | cases hk
theorem findNow_ok {d : TypeDesc} (hk : intKind d = true) (n : Int) : ∀ (kvs : List (Int × AV)) (es : List MapEntry) (i : Nat), MapR C kvs es →
    ∃ r, Instr.findNow d (.int .i64 n) es i = some r ∧ match mfind n kvs with
      | some x => ∃ j e, r = some (i + j, e.val) ∧ es[j]? = some e ∧ Rv1 C x e.val ∧ x.known = true ∧ e.key = .int .i64 n
      | none => r = none
  | [], _, i, h => by cases h; exact ⟨none, rfl, rfl⟩
  | (m, x) :: kvs, _, i, h => by
    cases h with
    | cons hkey hval hkn hrest =>
      rename_i e es
      have hs : Instr.sameNow d (.int .i64 n) e.key = some (n == m) := by
        cases d <;> try (cases hk; done)
        simp [Instr.sameNow, hkey]
      by_cases hnm : n = m
      · subst hnm
        refine ⟨some (i, e.val), by simp [Instr.findNow, hs], ?_⟩
        simp only [mfind, if_pos]
        exact ⟨0, e, rfl, rfl, hval, hkn, hkey⟩
      · obtain ⟨r, hr, hm⟩ := findNow_ok hk n kvs es (i + 1) hrest
        have hb : (n == m) = false := by simp [hnm]
        refine ⟨r, by simp [Instr.findNow, hs, hb, hr], ?_⟩
        simp only [mfind, if_neg hnm]
        cases hf : mfind n kvs with
        | none => rw [hf] at hm; exact hm
        | some x' =>
          rw [hf] at hm
          obtain ⟨j, e', h1, h2, h3⟩ := hm
          exact ⟨j + 1, e', by rw [h1]; congr 2; omega, h2, h3⟩
def mapB (P : Program) (t : TypeId) : Option (TypeId × TypeId) :=
  match P.underlying t with
  | some (.map k e) => some (k, e)
  | _ => none
theorem mapB_inv {t k e} (h : mapB P t = some (k, e)) : P.underlying t = some (.map k e) := by
  unfold mapB at h
  cases hu : P.underlying t with
  | none => rw [hu] at h; cases h
  | some d => rw [hu] at h; cases d <;> first | (cases h; rfl) | cases h
def zeroB (P : Program) (t : TypeId) : Option Value := (P.info? t).bind (·.zero)
theorem run_zeroValue {t z} (h : zeroB P t = some z) (w : World) : (zeroValue t).run P w = .ok z w := by
  unfold zeroB at h
  cases hi : P.info? t with
  | none => rw [hi] at h; cases h
  | some i =>
    rw [hi] at h
    simp only [Option.bind_some] at h
    simp [zeroValue, typeInfo, hi, h]
theorem Rv_tup_mk {l} {vs : List Value} (h : Rvl C l vs) : Rv C (.tup l) (.tuple vs.toArray) := .inr ⟨l, vs.toArray, rfl, rfl, by simpa using h⟩
theorem known_Rv1 {x v} (hk : x.known = true) (h : Rv C x v) : Rv1 C x v := .inr (Rv_known hk h)
theorem lookup_ok (hs : Sim base C H) {t kt et kd z zv ok X K v vk y} (ht : mapB P t = some (kt, et)) (hkt : P.underlying kt = some kd) (hki : intKind kd = true)
    (hz : zeroB P et = some zv) (hzr : Rv1 C z zv) (hx : Rv C X v) (hk : Rv C K vk) (h : doLookup z ok H X K = some y) :
    ∃ u, (Instr.lookup t v vk ok).run P C.w = .ok u C.w ∧ Rv C y u := by
  cases X <;> try (cases h; done)
  cases K <;> try (cases h; done)
  rename_i o k n
  cases k <;> try (cases h; done)
  simp only [doLookup] at h
  cases ho : H[o]? with
  | none => rw [ho] at h; cases h
  | some ob =>
    rw [ho] at h
    cases ob <;> try (cases h; done)
    rename_i kvs
    cases h
    obtain ⟨b, es, cl, h1, h2, h3, _⟩ := obj_map hs ho
    obtain ⟨b', h1', rfl⟩ := Rv_mp hx
    rw [h1] at h1'; cases h1'
    rw [Rv_int hk]
    obtain ⟨r, hr, hm⟩ := findNow_ok hki n kvs es.toList 0 h3.1
    have hfk : (Instr.findKey kt (.int .i64 n) es.toList).run P C.w = .ok r C.w := by
      simp only [Instr.findKey, Sem.run_bind, run_underlying hkt, Result.andThen_ok, hr, Sem.run_pure]
    cases hf : mfind n kvs with
    | none =>
      rw [hf] at hm
      subst hm
      refine ⟨if ok then .tuple #[zv, .bool false] else zv, ?_, ?_⟩
      · simp only [Instr.lookup, Sem.run_bind, run_underlying (mapB_inv ht), Result.andThen_ok, run_getMap h2, Sem.run_pure, checkKey_int hkt hki, hfk, run_zeroValue hz]
      · cases ok
        · exact .inl hzr
        · exact Rv_tup_mk (.cons hzr (.cons (.inr (Rv_known rfl (mk_bool _))) .nil))
    | some x =>
      rw [hf] at hm
      obtain ⟨j, e, rfl, _, hv, hkn, _⟩ := hm
      refine ⟨if ok then .tuple #[e.val, .bool true] else e.val, ?_, ?_⟩
      · simp only [Instr.lookup, Sem.run_bind, run_underlying (mapB_inv ht), Result.andThen_ok, run_getMap h2, Sem.run_pure, checkKey_int hkt hki, hfk]
      · cases ok
        · exact .inl hv
        · exact Rv_tup_mk (.cons hv (.cons (.inr (Rv_known rfl (mk_bool _))) .nil))
theorem Rvl_get {l vs} (h : Rvl C l vs) : ∀ (i : Nat) (y : AV), l[i]? = some y → ∃ u, vs[i]? = some u ∧ Rv1 C y u := by
  induction h with
  | nil => intro i y h; simp at h
  | cons a _ ih =>
    intro i y h
    cases i with
    | zero => simp at h; subst h; exact ⟨_, by simp, a⟩
    | succ i => simp at h; obtain ⟨u, h1, h2⟩ := ih i y h; exact ⟨u, by simp [h1], h2⟩
theorem extract_ok {i X v y} (hx : Rv C X v) (h : doExtract i X = some y) : ∃ u, (Instr.extract v i).run P C.w = .ok u C.w ∧ Rv C y u := by
  cases X <;> try (cases h; done)
  rename_i l
  obtain ⟨vs, rfl, hl⟩ := Rv_tup hx
  obtain ⟨u, h1, h2⟩ := Rvl_get hl i y h
  have h1' : vs[i]? = some u := by rw [← h1]; simp
  exact ⟨u, by simp [Instr.extract, h1'], .inl h2⟩
theorem mkfn_caps : ∀ {l vs}, Rvl C l vs → l.all capOk = true → Rcl C l (vs.map fun v => [v])
  | [], _, h, _ => by cases h; rfl
  | x :: l, _, h, hc => by
    cases h with
    | cons h1 h2 =>
      simp only [List.all_cons, Bool.and_eq_true] at hc
      obtain ⟨hx, hl⟩ := hc
      simp only [capOk, Bool.and_eq_true, Bool.not_eq_true', beq_iff_eq] at hx
      obtain ⟨a, b⟩ := Rv_known hx.1.1 (.inl h1)
      simp only [List.map_cons, Rcl]
      refine ⟨_, _, rfl, ?_, mkfn_caps h2 hl⟩
      rw [cells_one (b.trans hx.2)] at a
      exact a
theorem mkfn_ok {g l vs y} (hl : Rvl C l vs) (h : doMkfn g l = some y) : Rv C y (.func (.func (C.ι g)) #[] vs.toArray) := by
  unfold doMkfn at h
  split at h
  · rename_i hc
    cases h
    refine Rv_one ?_ rfl rfl
    simp only [Rc]
    refine ⟨fun x hx => ?_, _, rfl, by simpa using mkfn_caps hl hc⟩
    have := List.all_eq_true.1 hc x hx
    simp only [capOk, Bool.and_eq_true, Bool.not_eq_true'] at this
    exact this.2
  · cases h
theorem foldMM_ok (mx : Bool) : ∀ {l vs X v y}, Rv C X v → Rvl C l vs → foldMM mx X l = some y →
    ∃ u, (vs.foldlM (if mx then Builtin.max2 else Builtin.min2) v).run P C.w = .ok u C.w ∧ Rv C y u
  | [], _, X, v, y, hx, hl, h => by
    cases hl
    cases X <;> try (cases h; done)
    cases h
    exact ⟨v, rfl, hx⟩
  | x :: l, _, X, v, y, hx, hl, h => by
    cases hl with
    | cons h1 h2 =>
      rename_i v1 vs
      cases X <;> try (cases h; done)
      cases x <;> try (cases h; done)
      rename_i k m k' n
      simp only [foldMM] at h
      split at h
      · rename_i hk
        subst hk
        rw [Rv_int hx, Rv_int (.inl h1)]
        obtain ⟨u, h3, h4⟩ := foldMM_ok mx (mk_int k (if (if mx = true then n > m else n < m) then n else m)) h2 h
        refine ⟨u, ?_, h4⟩
        simp only [List.foldlM_cons, Sem.run_bind]
        cases mx <;> simpa [Builtin.max2, Builtin.min2] using h3
      · cases h
end Tor
namespace Tor
open Go Go.RowKit
variable {P : Program} {base : Nat} {C : Cx} {H : Heap}
structure Grow (w w' : World) : Prop where
  os : w'.os = w.os
  tape : w'.tape = w.tape
  output : w'.output = w.output
  size : w.heap.size ≤ w'.heap.size
  old : ∀ b, b < w.heap.size → w'.heap[b]? = w.heap[b]?
theorem Grow.refl (w : World) : Grow w w := ⟨rfl, rfl, rfl, Nat.le_refl _, fun _ _ => rfl⟩
theorem Grow.alloc (w : World) (o : Obj) : Grow w (w.alloc o) := ⟨rfl, rfl, rfl, by simp, fun b hb => heap_alloc_old w o b hb⟩
theorem Grow.drewAlloc (w : World) (o : Obj) : Grow w (w.drew.alloc o) := ⟨rfl, rfl, rfl, by simp, fun b hb => heap_alloc_old w.drew o b hb⟩
theorem Grow.drew (w : World) : Grow w w.drew := ⟨rfl, rfl, rfl, Nat.le_refl _, fun _ _ => rfl⟩
theorem Grow.below {w w' : World} (h : Grow w w') {B : Nat} (hB : B ≤ w.heap.size) : Below B w w' := ⟨h.os, h.tape, h.output, h.size, fun k hk => h.old k (by omega)⟩
theorem Grow.shape {w w' : World} (h : Grow w w') {b s} (hs : w.shape? b = some s) : w'.shape? b = some s := by
  have hlt : b < w.heap.size := by
    unfold World.shape? at hs
    split at hs
    · rename_i hh; exact lt_of_heap hh
    · cases hs
  rw [← hs]
  unfold World.shape?
  rw [h.old b hlt]
structure Step (base ent : Nat) (C : Cx) (H : Heap) (C' : Cx) (H' : Heap) : Prop where
  le : Le C C'
  sim : Sim base C' H'
  below : Below base C.w C'.w
  fgr : ∀ b, C'.F b → C.F b ∨ base ≤ b
  priv : ∀ b, b < ent → ¬ C.F b → (∀ o ob, H[o]? = some ob → blk C o ob ≠ some b) → C'.w.heap[b]? = C.w.heap[b]? ∧ ¬ C'.F b ∧ ∀ o ob, H'[o]? = some ob → blk C' o ob ≠ some b
abbrev OStep (base : Nat) (C : Cx) (H : Heap) (C' : Cx) (H' : Heap) : Prop := Step base C.w.heap.size C H C' H'
def Cx.with (C : Cx) (w : World) (n : Nat) (q : Option (Nat × Nat)) : Cx := { C with w := w, β := fun o g => if o = n ∧ g = 0 then some q else C.β o g }
theorem le_with (hs : Sim base C H) {w'} (hg : Grow C.w w') (q) : Le C (C.with w' H.length q) where
  ι := rfl
  F _ h := h
  β o g p h := by
    have : ¬ (o = H.length ∧ g = 0) := by
      rintro ⟨rfl, rfl⟩
      rw [hs.dom H.length (Nat.le_refl _) 0] at h; cases h
    simp [Cx.with, this, h]
  mem b hb := hg.old b (hs.fsz b hb)
  shp b s h := hg.shape h
theorem push_step (hs : Sim base C H) {w'} (hg : Grow C.w w') {q ob} (ho : ObjOk base (C.with w' H.length q) H.length ob)
    (hb : ∀ b bs, q = some (b, bs) → C.w.heap.size ≤ b) : OStep base C H (C.with w' H.length q) (H ++ [ob]) := by
  have hle := le_with hs hg q
  have hnew : ∀ b, blk (C.with w' H.length q) H.length ob = some b → C.w.heap.size ≤ b := by
    intro b hbk
    have key : ∀ g, bOf ((C.with w' H.length q).β H.length g) = some b → C.w.heap.size ≤ b := by
      intro g h
      simp only [Cx.with] at h
      split at h
      · cases q with
        | none => cases h
        | some p => obtain ⟨b', bs⟩ := p; cases h; exact hb _ _ rfl
      · rw [hs.dom H.length (Nat.le_refl _) g] at h; cases h
    cases ob with
    | var x => exact key 0 hbk
    | arr g sz l => exact key g hbk
    | map kvs => exact key 0 hbk
    | dead => cases hbk
  refine ⟨hle, hs.push hle (fun _ => Iff.rfl) hg.size (fun o g hlt => ?_) (fun o g hlt => ?_) (fun b hb => hg.old b hb) ho ?_ hnew, hg.below hs.bsz, fun _ h => .inl h, fun b hlt hF hno => ⟨hg.old b hlt, hF, fun o ob' ho' hbk => ?_⟩⟩
  · have : ¬ (o = H.length ∧ g = 0) := by omega
    simp [Cx.with, this]
  · have : ¬ (o = H.length ∧ g = 0) := by omega
    simp [Cx.with, this, hs.dom o (by omega) g]
  · cases ob with
    | arr g sz l =>
      have h0 : g = 0 := by
        rcases ho with ⟨h1, _⟩ | ⟨b, bs, c, e, pre, css, post, h1, _⟩ <;>
        · simp only [Cx.with] at h1
          split at h1
          · rename_i hh; exact hh.2
          · rw [hs.dom H.length (Nat.le_refl _) g] at h1; cases h1
      intro g' hg'
      have : g' ≠ 0 := by omega
      simp [Cx.with, this, hs.dom H.length (Nat.le_refl _) g']
    | _ => trivial
  · by_cases hlo : o < H.length
    · rw [List.getElem?_append_left hlo] at ho'
      rw [blk_le hle (hs.obj o ob' ho').1] at hbk
      exact hno o ob' ho' hbk
    · rw [List.getElem?_append_right (by omega)] at ho'
      obtain ⟨e1, e2⟩ := one_inv ho'
      have : o = H.length := by omega
      subst this; subst e2
      have := hnew b hbk
      omega
theorem heap_new (w : World) (o : Obj) : (w.alloc o).heap[w.heap.size]? = some o := heap_alloc_new w o
theorem var_step (hs : Sim base C H) {x : AV} {cs : Array Value} (e : TypeId) (hx : Rc C x cs.toList) :
    let C' := C.with (C.w.alloc (.cells cs e)) H.length (some (C.w.heap.size, 0))
    OStep base C H C' (H ++ [.var x]) ∧ Rv C' (.ptr H.length 0 []) (.pointer (some ⟨C.w.heap.size, 0, none⟩)) := by
  intro C'
  have hg := Grow.alloc C.w (.cells cs e)
  have hle : Le C C' := le_with hs hg _
  have hβ : C'.β H.length 0 = some (some (C.w.heap.size, 0)) := by simp [C', Cx.with]
  refine ⟨push_step hs hg ?_ (fun b bs h => by cases h; exact Nat.le_refl _), Rv_one ?_ rfl rfl⟩
  · refine ⟨C.w.heap.size, cs, e, hβ, heap_new _ _, Rc_le hle _ _ hx, hs.bsz, fun h => ?_⟩
    exact Nat.lt_irrefl _ (hs.fsz _ h)
  · simp only [Rc]
    exact ⟨C.w.heap.size, 0, hβ, by simp [offs]⟩
def Cx.frz (C : Cx) (w : World) : Cx := { C with w := w, F := fun b => C.F b ∨ b = C.w.heap.size }
theorem frz_step (hs : Sim base C H) (o : Obj) : OStep base C H (C.frz (C.w.alloc o)) H := by
  have hg := Grow.alloc C.w o
  have hle : Le C (C.frz (C.w.alloc o)) := ⟨rfl, fun b h => .inl h, fun _ _ _ h => h, fun b hb => hg.old b (hs.fsz b hb), fun b s h => hg.shape h⟩
  refine ⟨hle, hs.world hle (fun b hb => ?_) (fun _ _ => rfl) hg.size (fun b hb _ _ => hg.old b hb), hg.below hs.bsz, fun b (h : C.F b ∨ b = C.w.heap.size) => h.imp id (fun e => by rw [e]; exact hs.bsz), fun b hlt hF hno => ⟨hg.old b hlt, fun h => h.elim hF (fun e => by omega), fun o ob ho hbk => hno o ob ho hbk⟩⟩
  rcases hb with hb | rfl
  · exact ⟨Nat.lt_of_lt_of_le (hs.fsz b hb) hg.size, .inl hb⟩
  · exact ⟨by simp [Cx.frz], .inr (Nat.le_refl _)⟩
theorem cellsAt_new (w : World) (cs : Array Value) (e : TypeId) : cellsAt (w.alloc (.cells cs e)) w.heap.size 0 cs.toList := by
  have := cellsAt_of (w := w.alloc (.cells cs e)) (heap_new w (.cells cs e)) (pre := []) (ys := cs.toList) (post := []) (by simp)
  simpa using this
theorem box_ok (hs : Sim base C H) {im e X v y H' b} (hx : Rv C X v) (h : doBox im H X = some (y, H', b)) :
    ∃ C' u, (Instr.box e v).run P C.w = .ok u C'.w ∧ OStep base C H C' H' ∧ Rv C' y u := by
  unfold doBox at h
  split at h
  · rename_i hk
    obtain ⟨h1, h2⟩ := Rv_known hk hx
    have hrun : (Instr.box e v).run P C.w = .ok (.pointer (some ⟨C.w.heap.size, 0, none⟩)) (C.w.alloc (.cells v.cells e)) := by
      simp [Instr.box, newVar, newRow]
    split at h
    · cases h
      have hc := cellsAt_new C.w v.cells e
      by_cases hmp : ∃ o, X = .mp o
      · obtain ⟨o, rfl⟩ := hmp
        obtain ⟨bm, hβ, rfl⟩ := Rv_mp hx
        refine ⟨_, _, hrun, frz_step hs _, Rv_one ?_ rfl rfl⟩
        simp only [Rc, bxOf]
        exact ⟨C.w.heap.size, bm, hβ, rfl, .inr rfl, hc⟩
      · have hb : bxOf X = .iptr X := by cases X <;> first | rfl | exact absurd ⟨_, rfl⟩ hmp
        rw [hb]
        refine ⟨_, _, hrun, frz_step hs _, Rv_one ?_ rfl rfl⟩
        simp only [Rc]
        exact ⟨C.w.heap.size, 0, v.cells.toList, rfl, .inr rfl, Rc_le (frz_step hs _).le _ _ h1, hc⟩
    · cases h
      obtain ⟨a, b⟩ := var_step hs e h1
      exact ⟨_, _, hrun, a, b⟩
  · cases h
theorem alloc_ok (hs : Sim base C H) {t z zv y H' b} (hz : zeroB P t = some zv) (hzr : ∀ C, Rv C z zv)
    (h : (if z.known = true ∧ z.hasRef = false then some (AV.ptr H.length 0 [], H ++ [AObj.var z], false) else none) = some (y, H', b)) :
    ∃ C' u, (Instr.alloc t true (.tuple #[])).run P C.w = .ok u C'.w ∧ OStep base C H C' H' ∧ Rv C' y u := by
  split at h
  · rename_i hh
    cases h
    obtain ⟨h1, h2⟩ := Rv_known hh.1 (hzr C)
    obtain ⟨a, b⟩ := var_step hs t h1
    exact ⟨_, _, by simp [Instr.alloc, run_zeroValue hz, newVar, newRow]; rfl, a, b⟩
  · cases h
theorem nils_step (hs : Sim base C H) (sz : Nat) (a : Option Addr) :
    let C' := C.with C.w H.length none
    OStep base C H C' (H ++ [.arr 0 sz []]) ∧ Rv C' (.sl H.length 0 sz 0 0) (.slice a 0 0) := by
  intro C'
  have hβ : C'.β H.length 0 = some none := by simp [C', Cx.with]
  refine ⟨push_step hs (Grow.refl _) (.inl ⟨hβ, rfl⟩) (fun b bs h => by cases h), Rv_one ?_ rfl rfl⟩
  simp only [Rc]
  exact .inr ⟨none, hβ, trivial, a, rfl⟩
theorem arr_step (hs : Sim base C H) {w'} (hg : Grow C.w w') {l : List AV} {css : List (List Value)} {post : List Value} {sz cap : Nat} (e : TypeId) {cs : Array Value}
    (hnew : w'.heap[C.w.heap.size]? = some (.cells cs e (0, 0))) (hcs : cs.toList = css.flatten ++ post) (hl : Rcl C l css) (hu : ∀ c ∈ css, c.length = sz) (hcap : cs.size = cap * sz) (hn : l.length ≤ cap) :
    let C' := C.with w' H.length (some (C.w.heap.size, 0))
    OStep base C H C' (H ++ [.arr 0 sz l]) ∧ Rv C' (.sl H.length 0 sz 0 l.length) (.slice (some ⟨C.w.heap.size, 0, none⟩) l.length cap) := by
  intro C'
  have hle : Le C C' := le_with hs hg _
  have hβ : C'.β H.length 0 = some (some (C.w.heap.size, 0)) := by simp [C', Cx.with]
  refine ⟨push_step hs hg (.inr ?_) (fun b bs h => by cases h; exact Nat.le_refl _), Rv_one ?_ rfl rfl⟩
  · exact ⟨C.w.heap.size, 0, cs, e, [], css, post, hβ, hnew, by simpa using hcs, rfl, Rcl_le hle _ _ hl, hu, hs.bsz, fun h => Nat.lt_irrefl _ (hs.fsz _ h)⟩
  · simp only [Rc]
    refine .inl ⟨C.w.heap.size, 0, cap, hβ, by simp, hn, e, cs.size, ?_, by omega⟩
    show w'.shape? C.w.heap.size = _
    simp [World.shape?, hnew]
theorem mkmap_ok (hs : Sim base C H) {t : TypeId} :
    ∃ C' u, (Instr.makeMap t none).run P C.w = .ok u C'.w ∧ OStep base C H C' (H ++ [.map []]) ∧ Rv C' (.mp H.length) u := by
  have hg := Grow.alloc C.w (.map #[] 0)
  have hβ : (C.with (C.w.alloc (.map #[] 0)) H.length (some (C.w.heap.size, 0))).β H.length 0 = some (some (C.w.heap.size, 0)) := by simp [Cx.with]
  refine ⟨C.with (C.w.alloc (.map #[] 0)) H.length (some (C.w.heap.size, 0)), .map (some C.w.heap.size), ?_, push_step hs hg ?_ (fun b bs h => by cases h; exact Nat.le_refl _), Rv_one ?_ rfl rfl⟩
  · simp [Instr.makeMap, Cx.with]
  · exact ⟨C.w.heap.size, #[], 0, hβ, heap_new _ _, ⟨.nil, Go.MapKept.stamped_empty 0⟩, hs.bsz, fun h => Nat.lt_irrefl _ (hs.fsz _ h)⟩
  · simp only [Rc]
    exact ⟨C.w.heap.size, hβ, rfl⟩
theorem slice0_ok (hs : Sim base C H) {t e sz X v y H' b vhi vmx} (ht : sliceB P t = some e) (hz : (sizeB P e).isSome = true) (hhi : vhi = .int .i64 0) (hmx : vmx = .int .i64 0) (hx : Rv C X v) (h : doSlice0 sz H X = some (y, H', b)) :
    ∃ C' u, (Instr.sliceAt t v none (some vhi) (some vmx)).run P C.w = .ok u C'.w ∧ OStep base C H C' H' ∧ Rv C' y u := by
  subst hhi hmx
  have hu := sliceB_inv ht
  obtain ⟨n, hn⟩ := Option.isSome_iff_exists.1 hz
  have hrun : ∀ a len cap, v = .slice a len cap → (Instr.sliceAt t v none (some (.int .i64 0)) (some (.int .i64 0))).run P C.w = .ok (.slice a 0 0) C.w := by
    rintro a len cap rfl
    simp [Instr.sliceAt, Instr.slice, Instr.sliceBounds, Instr.sliceBound, asIntOf, run_underlying hu, run_sizeOf hn]
  cases X <;> try (cases h; done)
  · cases h
    rw [Rv_nl hx] at hrun ⊢
    obtain ⟨a, b⟩ := nils_step hs sz none
    exact ⟨C.with C.w H.length none, _, hrun _ _ _ rfl, a, b⟩
  · cases h
    obtain ⟨a, cap, rfl, _⟩ := Rv_isl hx
    obtain ⟨x1, x2⟩ := nils_step hs sz a
    exact ⟨C.with C.w H.length none, _, hrun _ _ _ rfl, x1, x2⟩
  · cases h
    rcases Rv_sl hx with ⟨b, bs, cap, _, rfl, _⟩ | ⟨q, _, _, a, rfl⟩
    · obtain ⟨x1, x2⟩ := nils_step hs sz (some ⟨b, _, none⟩)
      exact ⟨C.with C.w H.length none, _, hrun _ _ _ rfl, x1, x2⟩
    · obtain ⟨x1, x2⟩ := nils_step hs sz a
      exact ⟨C.with C.w H.length none, _, hrun _ _ _ rfl, x1, x2⟩
theorem foldl_set (off : Nat) : ∀ (vs : List Value) (k : Nat) (cells : Array Value), off + k + vs.length ≤ cells.size →
    ((vs.zipIdx k).foldl (fun cs p => cs.setIfInBounds (off + p.2) p.1) cells).toList = cells.toList.take (off + k) ++ vs ++ cells.toList.drop (off + k + vs.length)
  | [], k, cells, _ => by simp
  | v :: rest, k, cells, h => by
    simp only [List.zipIdx_cons, List.foldl_cons]
    rw [foldl_set off rest (k + 1) _ (by simp at h ⊢; omega)]
    have e := list_seg_step cells.toList (off + k) v rest (by simp at h ⊢; omega)
    simpa [Array.toList_setIfInBounds, Nat.add_assoc] using e
theorem sizes_take_set {l : List AV} {i j : Nat} {y : AV} (h : ∀ z, l[i]? = some z → z.size = y.size) : AV.sizes ((l.set i y).take j) = AV.sizes (l.take j) := by
  induction l generalizing i j with
  | nil => simp
  | cons x l ih =>
    cases i with
    | zero =>
      cases j with
      | zero => simp
      | succ j => have := h x (by simp); simp [AV.sizes, this]
    | succ i =>
      cases j with
      | zero => simp
      | succ j => simp only [List.set_cons_succ, List.take_succ_cons, AV.sizes]; rw [ih (fun z hz => h z (by simpa using hz))]
inductive PartsR (C : Cx) : List (Nat × AV) → List (Nat × Value) → Prop
  | nil : PartsR C [] []
  | cons {i x v r s} : Rv C x v → PartsR C r s → PartsR C ((i, x) :: r) ((i, v) :: s)
theorem fill_ok {place : Nat → Option (Nat × Nat)} : ∀ (ap : List (Nat × AV)) (vp : List (Nat × Value)) (z l : List AV) (css : List (List Value)), PartsR C ap vp → setAll z ap = some l → Rcl C z css →
    (∀ i y, z[i]? = some y → place i = some (AV.sizes (z.take i), y.size)) →
    ∃ css', Rcl C l css' ∧ Instr.fill place css.flatten.toArray vp = some css'.flatten.toArray ∧ l.length = z.length ∧ (∀ sz, (∀ c ∈ css, c.length = sz) → ∀ c ∈ css', c.length = sz)
  | [], _, z, l, css, hp, h, hz, _ => by
    cases hp
    simp only [setAll] at h; cases h
    exact ⟨css, hz, rfl, rfl, fun _ h => h⟩
  | (i, x) :: ap, _, z, l, css, hp, h, hz, hpl => by
    cases hp with
    | cons hx hrest =>
      rename_i v vp
      simp only [setAll] at h
      cases hzi : z[i]? with
      | none => rw [hzi] at h; cases h
      | some y =>
        rw [hzi] at h
        simp only at h
        split at h
        · rename_i hh
          obtain ⟨hsz, hk⟩ := hh
          obtain ⟨hr, hva⟩ := Rv_known hk hx
          have hvl : v.cells.toList.length = x.size := Rc_len _ _ hr
          obtain ⟨c, hc, hrc⟩ := Rcl_get z css i y hz hzi
          have hcl := Rc_len _ _ hrc
          have hpi := hpl i y hzi
          have htk := take_size hz i
          have hsplit := flatten_split css i c hc
          have hfit : AV.sizes (z.take i) + v.cells.size ≤ css.flatten.length := by
            rw [hsplit]; simp only [List.length_append, htk]; simp at hvl; omega
          obtain ⟨css', h1, h2, h3, h4⟩ := fill_ok (place := place) ap vp (z.set i x) l (css.set i v.cells.toList) hrest h (Rcl_set z css i x _ hz hr) (fun j y' hj => by
            rw [List.getElem?_set] at hj
            rw [sizes_take_set (fun q hq => by rw [hzi] at hq; cases hq; exact hsz)]
            split at hj
            · rename_i e
              subst e
              split at hj
              · cases hj; rw [hpi, hsz]
              · cases hj
            · exact hpl j y' hj)
          refine ⟨css', h1, ?_, by simpa using h3, fun sz hu => h4 sz (fun d hd => ?_)⟩
          · rw [Instr.fill, hpi]
            simp only
            rw [if_neg (by simp only [Bool.or_eq_true, decide_eq_true_eq, List.size_toArray]; simp at hvl; omega)]
            rw [← h2]
            congr 1
            apply Array.ext'
            rw [flatten_set css i c _ hc]
            have hf := foldl_set (AV.sizes (z.take i)) v.cells.toList 0 css.flatten.toArray (by simp at hfit ⊢; omega)
            have e1 : (v.cells.zipIdx.foldl (fun cs p => cs.setIfInBounds (AV.sizes (z.take i) + p.2) p.1) css.flatten.toArray) = ((v.cells.toList.zipIdx 0).foldl (fun cs p => cs.setIfInBounds (AV.sizes (z.take i) + p.2) p.1) css.flatten.toArray) := by
              rw [← Array.foldl_toList]; simp
            rw [e1, hf]
            simp only [Nat.add_zero]
            rw [hsplit, ← htk]
            simp only [List.append_assoc, List.take_left']
            congr 2
            rw [show (css.take i).flatten.length + v.cells.toList.length = (css.take i).flatten.length + c.length by omega, ← List.append_assoc, show (css.take i).flatten.length + c.length = ((css.take i).flatten ++ c).length by simp, List.drop_left]
          · rcases List.mem_or_eq_of_mem_set hd with hd | rfl
            · exact hu d hd
            · have := hu c (List.mem_of_getElem? hc)
              omega
        · cases h
def placeB (P : Program) (t : TypeId) : Option (Nat → Option (Nat × Nat)) :=
  match P.underlying t with
  | some (.struct fs) => some fun i => (fs[i]?).bind fun f => (sizeB P f.type).map fun n => (f.offset, n)
  | some (.array _ e) => (sizeB P e).map fun n i => some (i * n, n)
  | _ => none
def fieldsOk (P : Program) : List Field → Bool
  | [] => true
  | f :: r => (sizeB P f.type).isSome && fieldsOk P r
def layoutOk (P : Program) (t : TypeId) : Bool :=
  match P.underlying t with
  | some (.struct fs) => fieldsOk P fs.toList
  | some (.array _ e) => (sizeB P e).isSome
  | _ => false
def placesOk (pl : Nat → Option (Nat × Nat)) : Nat → Nat → List AV → Bool
  | _, _, [] => true
  | i, off, x :: l => (pl i == some (off, x.size)) && placesOk pl (i + 1) (off + x.size) l
theorem placesOk_get {pl} : ∀ (l : List AV) (i off : Nat), placesOk pl i off l = true → ∀ j y, l[j]? = some y → pl (i + j) = some (off + AV.sizes (l.take j), y.size)
  | [], _, _, _, j, y, h => by simp at h
  | x :: l, i, off, h, j, y, hj => by
    simp only [placesOk, Bool.and_eq_true, beq_iff_eq] at h
    cases j with
    | zero => simp at hj; subst hj; simpa [AV.sizes] using h.1
    | succ j =>
      simp at hj
      have := placesOk_get l (i + 1) (off + x.size) h.2 j y hj
      rw [show i + (j + 1) = i + 1 + j by omega, this]
      simp [AV.sizes, Nat.add_assoc]
theorem run_places {fs : Array Field} (h : fieldsOk P fs.toList = true) (w : World) :
    ∃ pl : Array (Nat × Nat), (fs.mapM (fun f => do pure (f.offset, ← Go.sizeOf f.type) : Field → Sem (Nat × Nat))).run P w = .ok pl w ∧ ∀ i : Nat, pl[i]? = (fs[i]?).bind fun f => (sizeB P f.type).map fun n => (f.offset, n) := by
  have key : ∀ l : List Field, fieldsOk P l = true → ∃ pl : List (Nat × Nat), (l.mapM (fun f => do pure (f.offset, ← Go.sizeOf f.type) : Field → Sem (Nat × Nat))).run P w = .ok pl w ∧ ∀ i : Nat, pl[i]? = (l[i]?).bind fun f => (sizeB P f.type).map fun n => (f.offset, n) := by
    intro l
    induction l with
    | nil => intro _; exact ⟨[], by simp, by simp⟩
    | cons f l ih =>
      intro hl
      simp only [fieldsOk, Bool.and_eq_true] at hl
      obtain ⟨n, hn⟩ := Option.isSome_iff_exists.1 hl.1
      obtain ⟨pl, h1, h2⟩ := ih hl.2
      refine ⟨(f.offset, n) :: pl, ?_, fun i => ?_⟩
      · rw [List.mapM_cons]
        simp only [Sem.run_bind, run_sizeOf hn, Result.andThen_ok, Sem.run_pure, h1]
      · cases i with
        | zero => simp [hn]
        | succ i => simpa using h2 i
  obtain ⟨pl, h1, h2⟩ := key fs.toList h
  refine ⟨pl.toArray, ?_, fun i => by simpa using h2 i⟩
  rw [← Array.toArray_toList (xs := fs), List.mapM_toArray]
  simp only [Sem.run_map, h1, Result.andThen_ok]
theorem build_ok {t z zv ap y} {parts : Array (Nat × Value)} {pl} (hpl : placeB P t = some pl) (hlay : layoutOk P t = true) (hz : zeroB P t = some zv) (hzr : Rv C (.agg z) zv) (hpo : placesOk pl 0 0 z = true)
    (hp : PartsR C ap parts.toList) (h : doBuild (setAll z ap) = some y) :
    ∃ u, (Instr.build t parts).run P C.w = .ok u C.w ∧ Rv C y u := by
  cases hs : setAll z ap with
  | none => rw [hs] at h; cases h
  | some l =>
    rw [hs] at h; cases h
    obtain ⟨css, hcl, rfl⟩ := Rv_agg hzr
    obtain ⟨css', h1, h2, _, _⟩ := fill_ok (place := pl) ap parts.toList z l css hp hs hcl (fun i y hi => by have := placesOk_get z 0 0 hpo i y hi; simpa using this)
    refine ⟨.agg css'.flatten.toArray, ?_, Rv_of (by simp only [Value.cells, Rc]; exact ⟨css', h1, rfl⟩) rfl⟩
    unfold placeB at hpl
    unfold layoutOk at hlay
    cases hu : P.underlying t with
    | none => rw [hu] at hpl; cases hpl
    | some d =>
      rw [hu] at hpl hlay
      cases d <;> try (cases hpl; done)
      · rename_i n e
        simp only at hpl hlay
        obtain ⟨m, hm⟩ := Option.isSome_iff_exists.1 hlay
        rw [hm] at hpl; cases hpl
        simp only [Instr.build, Sem.run_bind, run_zeroValue hz, Result.andThen_ok, run_underlying hu, run_sizeOf hm, Value.cells]
        rw [h2]
        rfl
      · rename_i fs
        simp only at hpl hlay
        cases hpl
        obtain ⟨pl, h3, h4⟩ := run_places hlay C.w
        have e : (fun i : Nat => pl[i]?) = fun i : Nat => (fs[i]?).bind fun (f : Field) => (sizeB P f.type).map fun n => (f.offset, n) := funext h4
        simp only [Instr.build, Sem.run_bind, run_zeroValue hz, Result.andThen_ok, run_underlying hu, Value.cells, h3]
        rw [e, h2]
        rfl
theorem rep_flatten {α} [Inhabited α] (c : Array α) (n : Nat) : (Array.range (n * c.size)).map (fun i => c[i % c.size]!) = (List.replicate n c.toList).flatten.toArray := by
  apply Array.ext'
  simp only [Array.toList_map, Array.toList_range]
  induction n with
  | zero => simp
  | succ n ih =>
    rw [List.replicate_succ', List.flatten_append, ← ih, Nat.succ_mul, List.range_add, List.map_append]
    congr 1
    apply List.ext_getElem?
    intro i
    simp only [List.map_map, List.getElem?_map, List.flatten_cons, List.flatten_nil, List.append_nil]
    by_cases hi : i < c.size
    · rw [List.getElem?_range hi]
      simp only [Option.map_some, Function.comp]
      rw [show (n * c.size + i) % c.size = i by rw [Nat.mul_comm, Nat.mul_add_mod, Nat.mod_eq_of_lt hi]]
      simp [hi, getElem!_pos]
    · rw [List.getElem?_eq_none (by simp; omega), List.getElem?_eq_none (by simpa using Nat.le_of_not_lt hi)]
      rfl
end Tor
