/-
  Walks of ranges over functions (5).
  Conditions: none.
-/
import Derived.Test.YthcbpifkgolknaaDoorRf4
import Derived.Test.YthcbpifkgolknaaDoorM01
import Derived.Test.YthcbpifkgolknaaDoorM02
import Derived.Test.YthcbpifkgolknaaDoorM03
import Derived.Test.YthcbpifkgolknaaDoorM04
import Derived.Test.YthcbpifkgolknaaDoorM05
import Derived.Test.YthcbpifkgolknaaDoorM06
import Derived.Test.YthcbpifkgolknaaDoorM07
import Derived.Test.YthcbpifkgolknaaDoorM08
import Derived.Test.YthcbpifkgolknaaDoorM09
namespace Go.Proofs.YthcbpifkgolknaaDoor
open Go Go.RowKit Go.Shelf Tor
attribute [local go_sem] Oper.semAt_some

theorem wpListIn_append_own2 {F : Fence} {n : Nat} {P : Program} (w : World) {ops : Array Oper} {rest : List Oper} {o : Oper} {a : Act} {Q : Exit → Act → World → Prop}
    (hg : o.guard = none) (s x : Operand) (t : TypeId) (hop : o.op = Op.call { callee := Callee.builtin Builtin.append, args := #[s, x], argTypes := #[t, t] })
    (base : Nat) (e : TypeId) (i : TypeInfo) (z : Value) (size bytes : Nat) (h1 : P.underlying t = some (.slice e)) (h2 : P.info? e = some i) (h3 : i.zero = some z) (h4 : i.size = size) (h5 : i.bytes = bytes) (h6 : z.cells.size = size) (h7 : 0 < size)
    (v : Value) (k : Nat) (xs : List Value) (hs : a.eval s = v) (hown : w.ownsRow base e size v k xs) (ad : Addr) (m c : Nat) (news : List Value) (hx : a.eval x = .slice (some ad) m c) (hn : news.length = m * size)
    (hc : ∀ j u, news[j]? = some u → w.cell? (ad.add j) = some u) (h1c : ∀ u ∈ news, u.oneCell' = true) (b1 : k + m ≤ maxLen) (b2 : (k + m) * bytes ≤ 140737488355328) (b3 : base ≤ w.heap.size)
    (hK : ∀ v' w', w'.ownsRow base e size v' (k + m) (xs ++ news) → w.grownBy w' v.ownBlock → (v'.ownBlock = v.ownBlock ∨ v'.ownBlock = some w.heap.size) → wpListIn F n P ops Q rest (a.put o.dst v') w') :
    wpListIn F n P ops Q (o :: rest) a w := by
  refine wpListIn_plain hg fun K hK' => ?_
  obtain ⟨v', w', hrun, r1, r2, r3⟩ := run_append_own (P := P) w base t o.type e i z size bytes h1 h2 h3 h4 h5 h6 h7 v k xs hown ad m c news hn hc h1c b1 b2 b3
  have hsmall : k + m ≤ 9223372036854775807 := by simp only [maxLen] at b1; omega
  have hb : v'.ownBlock = v.ownBlock ∨ v'.ownBlock = some w.heap.size := by
    subst h4
    subst h5
    rcases hown.2 with ⟨rfl, rfl⟩ | ⟨g, cap, cur, rfl, hbg, hgc, hnc, hcm, hcs, htake⟩
    · by_cases hm : m = 0
      · have := r3.2 ⟨rfl, hm⟩
        subst this; exact .inl rfl
      · have hr := run_append_nil (P := P) w t o.type e i z h1 h2 h3 ad m c news hn hc (by omega) (by omega) (by have hb := b2; simp only [Nat.zero_add] at hb; omega)
        rw [hr] at hrun
        injection hrun with e1 _
        rw [← e1]; exact .inr rfl
    · by_cases hroom : k + m ≤ cap
      · have hfit : k * i.size + news.length ≤ cur.size := by rw [hn, hcs, ← Nat.add_mul]; exact Nat.mul_le_mul_right _ hroom
        have hr := run_append_room (P := P) w t o.type e i h1 h2 g k cap cur hgc ad m c news hn hc h1c hroom hfit
        rw [hr] at hrun
        injection hrun with e1 _
        rw [← e1]; exact .inl rfl
      · have holds : ∀ j u, xs[j]? = some u → w.cell? ((⟨g, 0, none⟩ : Addr).add j) = some u := hown.cells (g := g) rfl
        have hr := run_append_grow (P := P) w t o.type e i z h1 h2 h3 ⟨g, 0, none⟩ k cap xs hown.1 holds ad m c news hn hc (by omega) (by omega) (growslice_fits (by omega) b2)
        rw [hr] at hrun
        injection hrun with e1 _
        rw [← e1]; exact .inr rfl
  unfold Oper.wpIn
  refine ⟨?_, ?_⟩
  · simp [Oper.about, hop, resolve, Target.leads, Sem.run_pure]
  · rw [Oper.semAt_plain F _ _ (by rw [hop]; intro c hc'; cases hc')]
    simp [execOp, hop, resolve, invoke, builtin, hs, hx, hrun, Result.andThen]
    exact hK' _ _ (hK v' w' r1 r2 hb)

/-- A variable of two cells. -/
def Boxed2 (W : World) (B : Nat) (t : TypeId) (c d : Value) : Prop := W.heap[B]? = some (.cells #[c, d] t (0, 0))
theorem Boxed2.cell0 {W : World} {B : Nat} {t : TypeId} {c d : Value} (h : Boxed2 W B t c d) : W.cell? ⟨B, 0, none⟩ = some c := by simp [World.cell?, show W.heap[B]? = _ from h]
theorem Boxed2.cell1 {W : World} {B : Nat} {t : TypeId} {c d : Value} (h : Boxed2 W B t c d) : W.cell? ⟨B, 1, none⟩ = some d := by simp [World.cell?, show W.heap[B]? = _ from h]
theorem Boxed2.frozen {W : World} {B : Nat} {t : TypeId} {c d : Value} (h : Boxed2 W B t c d) : W.frozen? ⟨B, 0, none⟩ = false := by simp [World.frozen?, show W.heap[B]? = _ from h]
theorem Boxed2.frozen1 {W : World} {B : Nat} {t : TypeId} {c d : Value} (h : Boxed2 W B t c d) : W.frozen? ⟨B, 1, none⟩ = false := by simp [World.frozen?, show W.heap[B]? = _ from h]
theorem Boxed2.below {W W' : World} {B : Nat} {t : TypeId} {c d : Value} (h : Boxed2 W B t c d) (hb : Below W.heap.size W W') : Boxed2 W' B t c d := (hb.block _ (hlt h)).trans h
theorem Boxed2.alloc {W : World} {B : Nat} {t : TypeId} {c d : Value} (h : Boxed2 W B t c d) (o : Obj) : Boxed2 (W.alloc o) B t c d := (Below.heap_alloc W o _ (hlt h)).trans h
theorem Boxed2.new (W : World) (t : TypeId) (c d : Value) : Boxed2 (W.alloc (.cells #[c, d] t)) W.heap.size t c d := World.alloc_heap_new W _
theorem Boxed2.other {W : World} {B B' : Nat} {t : TypeId} {c d : Value} (h : Boxed2 W B t c d) (hne : B ≠ B') (off : Nat) (u : Value) : Boxed2 (W.setCell ⟨B', off, none⟩ u) B t c d := (Below.heap_setCell W ⟨B', off, none⟩ u _ hne).trans h
theorem Boxed2.set0 {W : World} {B : Nat} {t : TypeId} {c d : Value} (h : Boxed2 W B t c d) (c' : Value) : Boxed2 (W.setCell ⟨B, 0, none⟩ c') B t c' d := by
  obtain ⟨hl, hk⟩ := Array.getElem?_eq_some_iff.1 h
  show (W.heap.modify B _)[B]? = _
  rw [Array.getElem?_eq_getElem (by rw [Array.size_modify]; exact hl), Array.getElem_modify_self, hk]
  rfl
theorem Boxed2.set1 {W : World} {B : Nat} {t : TypeId} {c d : Value} (h : Boxed2 W B t c d) (d' : Value) : Boxed2 (W.setCell ⟨B, 1, none⟩ d') B t c d' := by
  obtain ⟨hl, hk⟩ := Array.getElem?_eq_some_iff.1 h
  show (W.heap.modify B _)[B]? = _
  rw [Array.getElem?_eq_getElem (by rw [Array.size_modify]; exact hl), Array.getElem_modify_self, hk]
  rfl
theorem Boxed2.set {W : World} {B : Nat} {t : TypeId} {c d : Value} (h : Boxed2 W B t c d) (c' d' : Value) : Boxed2 ((W.setCell ⟨B, 0, none⟩ c').setCell ⟨B, 1, none⟩ d') B t c' d' := (h.set0 c').set1 d'
theorem Boxed.below {W W' : World} {B : Nat} {t : TypeId} {v : Value} (h : Boxed W B t v) (hb : Below W.heap.size W W') : Boxed W' B t v := (hb.block _ (hlt h)).trans h
end Go.Proofs.YthcbpifkgolknaaDoor
