/-
  A part of the proof: an abstract machine for the program, its soundness, and what the functions compute (Gd1, Gd2, Cx7, Gd3, Gd4, Gd5, Pk1, Pk2, Pk3, Pk4, Pk5, Pk6).
  Conditions: none.
-/
import Derived.Test.YtalcodolmmaciaaGreatM05
import Derived.Test.YtalcodolmmaciaaGreatM06
import Derived.Test.YtalcodolmmaciaaGreatM07
set_option linter.unusedSectionVars false
set_option linter.unusedVariables false
set_option linter.unusedSimpArgs false
set_option linter.defProp false
namespace Tor
open Go
def lin (f : Int → Int) : List (Int × Int) → Int
  | [] => 0
  | p :: r => p.2 * f p.1 + lin f r
theorem lin_ins (f : Int → Int) (q : Int × Int) : ∀ (l : List (Int × Int)), lin f (insR q false l) = lin f l + q.2 * f q.1
  | [] => by simp [insR, lin]
  | x :: r => by
    simp only [insR, insR_true, true_and]
    by_cases c1 : x.1 > q.1
    · rw [if_pos c1]; simp only [lin]; omega
    · rw [if_neg c1]
      by_cases c2 : x.1 = q.1
      · rw [if_pos c2]
        have e : (x.2 + q.2) * f q.1 = x.2 * f q.1 + q.2 * f q.1 := Int.add_mul _ _ _
        split
        · simp only [lin]; rw [c2, e]; omega
        · rename_i h
          have h : x.2 + q.2 = 0 := by omega
          rw [h, Int.zero_mul] at e
          simp only [lin]; rw [c2]; omega
      · rw [if_neg c2]; simp only [lin]; rw [lin_ins f q r]; omega
theorem lin_insert (f : Int → Int) (q : Int × Int) (l : List (Int × Int)) : lin f (insert26 l q) = lin f l + q.2 * f q.1 := by
  unfold insert26
  by_cases h : q.2 = 0
  · rw [show decide (q.2 = 0) = true by simpa using h, insR_true, h]; simp
  · rw [show decide (q.2 = 0) = false by simpa using h]; exact lin_ins f q l
theorem lin_fold (f : Int → Int) : ∀ (l a : List (Int × Int)), lin f (l.foldl insert26 a) = lin f a + lin f l
  | [], a => by simp [lin]
  | p :: r, a => by rw [List.foldl_cons, lin_fold f r, lin_insert]; simp only [lin]; omega
theorem lin_add (f : Int → Int) (c : Int) : ∀ (l a : List (Int × Int)), lin f (add26 a l c) = lin f a + c * lin f l
  | [], a => by simp [lin, add26]
  | p :: r, a => by
    have := lin_add f c r (insert26 a (p.1, c * p.2))
    unfold add26 at this ⊢
    rw [List.foldl_cons, this, lin_insert]
    simp only [lin]
    rw [Int.mul_add, Int.mul_assoc]; omega
theorem insR_keys {P : Int → Prop} {q : Int × Int} (hq : P q.1) : ∀ (l : List (Int × Int)) (d : Bool), (∀ p ∈ l, P p.1) → ∀ p ∈ insR q d l, P p.1
  | [], d, _ => by
    cases d <;> intro p hp <;> simp [insR] at hp
    subst hp; exact hq
  | x :: r, d, h => by
    have hx : P x.1 := h x (.head _)
    have i := fun d => insR_keys hq r d (fun p hp => h p (.tail _ hp))
    rw [insR]
    split
    · intro p hp
      cases hp with
      | head => exact hq
      | tail _ hp => cases hp with
        | head => exact hx
        | tail _ hp => exact i _ p hp
    · split
      · split
        · intro p hp
          cases hp with
          | head => exact hq
          | tail _ hp => exact i _ p hp
        · exact i _
      · intro p hp
        cases hp with
        | head => exact hx
        | tail _ hp => exact i _ p hp
theorem fold_keys {P : Int → Prop} : ∀ (l a : List (Int × Int)), (∀ p ∈ l, P p.1) → (∀ p ∈ a, P p.1) → ∀ p ∈ l.foldl insert26 a, P p.1
  | [], a, _, ha => ha
  | q :: r, a, hl, ha => fold_keys r _ (fun p hp => hl p (.tail _ hp)) (insR_keys (hl q (.head _)) a _ ha)
theorem add_keys {P : Int → Prop} (c : Int) : ∀ (l a : List (Int × Int)), (∀ p ∈ l, P p.1) → (∀ p ∈ a, P p.1) → ∀ p ∈ add26 a l c, P p.1
  | [], a, _, ha => ha
  | q :: r, a, hl, ha => by
    unfold add26
    rw [List.foldl_cons]
    exact add_keys c r _ (fun p hp => hl p (.tail _ hp)) (insR_keys (q := (q.1, c * q.2)) (hl q (.head _)) a _ ha)
theorem look_mem {k : Int} : ∀ {l : List (Int × Int)}, lookL k l ≠ 0 → (k, lookL k l) ∈ l
  | [], h => absurd rfl h
  | (j, x) :: r, h => by
    simp only [lookL] at h ⊢
    by_cases e : k = j
    · subst e; rw [if_pos rfl]; exact .head _
    · rw [if_neg e] at h ⊢; exact .tail _ (look_mem h)
theorem canon_look {b : Option Int} : ∀ {l : List (Int × Int)} {p : Int × Int}, Canon b l → p ∈ l → lookL p.1 l = p.2
  | (j, x) :: r, p, h, hp => by
    simp only [lookL]
    cases hp with
    | head => rw [if_pos rfl]
    | tail _ hp =>
      have h1 := (canon_all r _ h.2.2).2.2 j rfl p hp
      rw [if_neg (by omega)]
      exact canon_look h.2.2 hp
theorem canon_bd {l : List (Int × Int)} (h : Canon none l) {N : Nat} (hb : ∀ k, (lookL k l).natAbs ≤ N) : Bd N l := fun p hp => by
  have := canon_look h hp
  have h2 := hb p.1
  rw [this] at h2; exact h2
theorem bd_look {l : List (Int × Int)} {N : Nat} (h : Bd N l) (k : Int) : (lookL k l).natAbs ≤ N := by
  by_cases e : lookL k l = 0
  · rw [e]; exact Nat.zero_le _
  · exact h _ (look_mem e)
theorem lin_look {l : List (Int × Int)} (h : Canon none l) (k : Int) : lin (fun i => if i = k then 1 else 0) l = lookL k l := by
  have : ∀ (l : List (Int × Int)) (b : Option Int), Canon b l → lin (fun i => if i = k then 1 else 0) l = lookL k l := by
    intro l
    induction l with
    | nil => intro b _; rfl
    | cons p r ih =>
      obtain ⟨j, x⟩ := p
      intro b h
      simp only [lin, lookL]
      rw [ih _ h.2.2]
      by_cases e : j = k
      · subst e
        rw [if_pos rfl, if_pos rfl, look_below h.2.2 (by omega)]; omega
      · rw [if_neg e, if_neg (fun e2 => e e2.symm)]; omega
  exact this l none h
theorem tot_zip_out {k : Int} : ∀ (ids r : List Int), k ∉ ids → tot k (ids.zip r) = 0
  | [], _, _ => rfl
  | i :: ids, [], _ => rfl
  | i :: ids, y :: r, h => by
    simp only [List.zip_cons_cons, tot]
    rw [if_neg (fun e => h (by rw [e]; exact .head _)), tot_zip_out ids r (fun e => h (.tail _ e))]; rfl
theorem tot_zip : ∀ (ids r : List Int), ids.Nodup → ∀ j, j < ids.length → tot (ids.getD j 0) (ids.zip r) = r.getD j 0
  | [], _, _, j, hj => by simp at hj
  | i :: ids, [], _, j, hj => by simp [tot]
  | i :: ids, y :: r, hn, j, hj => by
    obtain ⟨h1, h2⟩ := List.nodup_cons.1 hn
    simp only [List.zip_cons_cons, tot]
    cases j with
    | zero => simp only [List.getD_cons_zero, if_true]; rw [tot_zip_out ids r h1]; omega
    | succ j =>
      simp only [List.getD_cons_succ]
      have hj : j < ids.length := by simpa using hj
      rw [if_neg (fun e => h1 (by rw [← e]; simp [List.getD, hj])), tot_zip ids r h2 j hj]; omega
theorem chR_canon (ids r : List Int) : Canon none (chR ids r) := (make_law (ids.zip r) [] trivial).1
theorem chR_look {ids r : List Int} (hn : ids.Nodup) {j : Nat} (hj : j < ids.length) : lookL (ids.getD j 0) (chR ids r) = r.getD j 0 := by
  unfold chR
  rw [(make_law (ids.zip r) [] trivial).2, tot_zip ids r hn j hj]; simp [lookL]
theorem chR_out {ids r : List Int} {k : Int} (h : k ∉ ids) : lookL k (chR ids r) = 0 := by
  unfold chR
  rw [(make_law (ids.zip r) [] trivial).2, tot_zip_out ids r h]; simp [lookL]
theorem chR_bd {ids r : List Int} (hn : ids.Nodup) {N : Nat} (h : ∀ y ∈ r, y.natAbs ≤ N) : Bd N (chR ids r) := by
  refine canon_bd (chR_canon ids r) fun k => ?_
  by_cases hk : k ∈ ids
  · obtain ⟨j, hj, rfl⟩ := List.mem_iff_getElem.1 hk
    have := chR_look (r := r) hn hj
    rw [show ids.getD j 0 = ids[j] by simp [List.getD, hj]] at this
    rw [this]
    rcases Nat.lt_or_ge j r.length with h1 | h1
    · exact h _ (by simp [List.getD, h1])
    · rw [List.getD, List.getElem?_eq_none h1]; exact Nat.zero_le _
  · rw [chR_out hk]; exact Nat.zero_le _
theorem zip_keys {ids r : List Int} : ∀ p ∈ ids.zip r, p.1 ∈ ids := fun p hp => (List.of_mem_zip hp).1
theorem chR_keys (ids r : List Int) : ∀ p ∈ chR ids r, p.1 ∈ ids := fold_keys (P := (· ∈ ids)) _ _ zip_keys (fun p hp => by cases hp)
theorem chR_len (ids r : List Int) : (chR ids r).length ≤ ids.length := by
  have h1 : ∀ (l a : List (Int × Int)), (l.foldl insert26 a).length ≤ a.length + l.length := by
    intro l
    induction l with
    | nil => intro a; simp
    | cons p r ih =>
      intro a
      rw [List.foldl_cons]
      have := ih (insert26 a p)
      have h2 := insR_len p a (decide (p.2 = 0))
      rw [List.length_cons]
      unfold insert26 at this ⊢; omega
  have := h1 (ids.zip r) []
  unfold chR
  simp at this
  omega
theorem chR_lin (f : Int → Int) (ids r : List Int) : lin f (chR ids r) = lin f (ids.zip r) := by
  unfold chR; rw [lin_fold]; simp [lin]
theorem rowL_get (ids : List Int) : ∀ (x : List (Int × Int)) (out : List Int) (t : Nat), out.length = ids.length → t < ids.length →
    (x.foldl (fun out p => putL p ids out) out).getD t 0 = x.foldl (lastF (ids.getD t 0)) (out.getD t 0)
  | [], out, t, _, _ => rfl
  | p :: r, out, t, ho, ht => by
    rw [List.foldl_cons, rowL_get ids r _ t (putL_len p ids out ho) ht, List.foldl_cons]
    congr 1
    unfold putL lastF
    have h2 : t < out.length := by omega
    simp only [List.getD, List.getElem?_zipWith, List.getElem?_eq_getElem ht, List.getElem?_eq_getElem h2, Option.getD_some]
    by_cases e : ids[t] = p.1
    · rw [if_pos e, if_pos e.symm]
    · rw [if_neg e, if_neg (fun h => e h.symm)]
theorem last_canon {k : Int} : ∀ (l : List (Int × Int)) (b : Option Int) (v : Int), Canon b l → l.foldl (lastF k) v = if k ∈ l.map (·.1) then lookL k l else v
  | [], _, v, _ => by simp
  | (j, x) :: r, b, v, h => by
    rw [List.foldl_cons, last_canon r _ _ h.2.2]
    simp only [lastF, List.map_cons, List.mem_cons, lookL]
    by_cases e : k = j
    · subst e
      have hn : ¬ k ∈ r.map (·.1) := by
        intro hk
        obtain ⟨p, hp, e⟩ := List.mem_map.1 hk
        have := (canon_all r _ h.2.2).2.2 k rfl p hp
        omega
      rw [if_neg hn]; simp
    · by_cases hk : k ∈ r.map (·.1)
      · rw [if_pos hk, if_pos (.inr hk), if_neg e]
      · rw [if_neg hk, if_neg (fun e2 : j = k => e e2.symm), if_neg (fun h : k = j ∨ _ => h.elim e hk)]
theorem look_nomem {k : Int} : ∀ {l : List (Int × Int)}, k ∉ l.map (·.1) → lookL k l = 0 := look_out
theorem last_look {l : List (Int × Int)} (h : Canon none l) (k : Int) : lastL k l = lookL k l := by
  unfold lastL
  rw [last_canon l none 0 h]
  split
  · rfl
  · rename_i hk; exact (look_out hk).symm
theorem rowL_look {x : List (Int × Int)} (h : Canon none x) (ids : List Int) {t : Nat} (ht : t < ids.length) : (rowL x ids).getD t 0 = lookL (ids.getD t 0) x := by
  unfold rowL
  rw [rowL_get ids x _ t (by simp) ht]
  have : (List.replicate ids.length (0 : Int)).getD t 0 = 0 := by simp [List.getD, ht]
  rw [this]
  exact last_look h _
end Tor
namespace Tor
open Go
structure GS where
  n0 : Nat
  n1 : Nat
  n2 : Nat
  n3 : Nat
  b1 : Nat
  b2 : Nat
  b3 : Nat
def GS.n (s : GS) : Nat → Nat
  | 0 => s.n0
  | 1 => s.n1
  | 2 => s.n2
  | 3 => s.n3
  | _ => 0
def GS.b (s : GS) : Nat → Nat
  | 1 => s.b1
  | 2 => s.b2
  | 3 => s.b3
  | _ => 0
def GS.kb (s : GS) : Nat → Nat
  | 1 => lbGo s.n1 s.b1 (min s.n1 s.n0)
  | 2 => lbGo s.n2 s.b2 (min s.n2 s.n1)
  | _ => 0
def GS.grow (s : GS) : Nat → GS
  | 0 => { s with n0 := s.n0 + 1 }
  | 1 => { s with n1 := s.n1 + 1, b1 := max s.b1 (s.kb 0 + 8) }
  | 2 => { s with n2 := s.n2 + 1, b2 := max s.b2 (s.kb 1 + 8) }
  | 3 => { s with n3 := s.n3 + 1, b3 := max s.b3 (s.kb 2 + 8) }
  | _ => s
theorem two_big' (q e : Nat) (hq : q ≤ 500000000) (he : e ≤ 32 * q) : 2 ^ e ≤ BIG := by
  refine Nat.le_trans (Nat.pow_le_pow_right (by decide) he) ?_
  rw [Nat.pow_mul]
  exact big_pow hq
theorem two_big {e : Nat} (he : e ≤ 16000000000) : 2 ^ e ≤ BIG := two_big' 500000000 e (Nat.le_refl _) he
theorem mul_big {e N m j : Nat} (hN : N ≤ 2 ^ e) (hm : m < 2 ^ j) (he : e + j ≤ 16000000000) : N * m < BIG := by
  have h1 := two_big he
  rw [Nat.pow_add] at h1
  have h2 : N * m ≤ 2 ^ e * m := Nat.mul_le_mul_right _ hN
  have h3 : 2 ^ e * m < 2 ^ e * 2 ^ j := Nat.mul_lt_mul_of_pos_left hm (Nat.two_pow_pos e)
  omega
structure Good (c : List Cel) (s : GS) (m : Nat) : Prop where
  len : c.length ≤ m
  ids : c.Pairwise (fun x y => x.id < y.id)
  idr : ∀ x ∈ c, 1 ≤ x.id ∧ x.id ≤ 2 * m
  dims : ∀ x ∈ c, 0 ≤ x.dim ∧ x.dim ≤ 3
  cnt : ∀ k : Nat, k ≤ 3 → (cellsC c k).length = s.n k
  bd : ∀ x ∈ c, Bd (2 ^ s.b x.dim.toNat) x.b
  cn : ∀ x ∈ c, Canon none x.b
  key : ∀ x ∈ c, ∀ p ∈ x.b, p.1 ∈ cellsC c (x.dim - 1)
  bl : ∀ x ∈ c, x.b.length ≤ 150
  bb : ∀ x ∈ c, ∀ id, lin (fun i => lookL id (cellOf? c i).b) x.b = 0
theorem find_mem {c : List Cel} (h : c.Pairwise (fun x y => x.id < y.id)) {x : Cel} (hx : x ∈ c) : findC c x.id = some x := by
  induction c with
  | nil => cases hx
  | cons y r ih =>
    obtain ⟨h1, h2⟩ := List.pairwise_cons.1 h
    unfold findC
    rw [List.find?_cons]
    cases hx with
    | head => simp
    | tail _ hx =>
      have := h1 x hx
      rw [show decide (y.id = x.id) = false by simp; omega]
      exact ih h2 hx
theorem cellC_mem {c : List Cel} (h : c.Pairwise (fun x y => x.id < y.id)) {x : Cel} (hx : x ∈ c) : cellOf? c x.id = x := by unfold cellOf?; rw [find_mem h hx]; rfl
theorem cells_mem {c : List Cel} {k id : Int} : id ∈ cellsC c k ↔ ∃ x ∈ c, x.dim = k ∧ x.id = id := by
  unfold cellsC
  simp only [List.mem_map, List.mem_filter, decide_eq_true_eq]
  constructor
  · rintro ⟨x, ⟨h1, h2⟩, h3⟩; exact ⟨x, h1, h2, h3⟩
  · rintro ⟨x, h1, h2, h3⟩; exact ⟨x, ⟨h1, h2⟩, h3⟩
theorem cells_lt {c : List Cel} (h : c.Pairwise (fun x y => x.id < y.id)) (k : Int) : (cellsC c k).Pairwise (· < ·) := by
  unfold cellsC
  rw [List.pairwise_map]
  exact h.filter _
theorem cells_nodup {c : List Cel} (h : c.Pairwise (fun x y => x.id < y.id)) (k : Int) : (cellsC c k).Nodup :=
  (cells_lt h k).imp (fun h e => by omega)
theorem shp_bnd (c : List Cel) (k : Int) : Sha (cellsC c k).length (cellsC c (IntKind.i64.wrap (k - 1))).length (bndC c k) := by
  refine ⟨by simp [bndC], fun i hi => ?_⟩
  have e : (bndC c k).getD i [] = rowL ((findC c ((cellsC c k)[i])).getD zC).b (cellsC c (IntKind.i64.wrap (k - 1))) := by
    simp [bndC, List.getD, hi]
  rw [e]; exact rowL_len _ _
theorem bnd_at {c : List Cel} {s : GS} {m : Nat} (h : Good c s m) (k : Nat) (hk : k ≤ 3) {i t : Nat} (hi : i < (cellsC c k).length) (ht : t < (cellsC c ((k : Int) - 1)).length) :
    at2 (bndC c k) i t = lookL ((cellsC c ((k : Int) - 1)).getD t 0) (cellOf? c ((cellsC c k).getD i 0)).b := by
  have w : IntKind.i64.wrap ((k : Int) - 1) = (k : Int) - 1 := i64w (by omega)
  have e : (bndC c k).getD i [] = rowL (cellOf? c ((cellsC c k).getD i 0)).b (cellsC c ((k : Int) - 1)) := by
    simp [bndC, List.getD, hi, w, cellOf?]
  unfold at2
  rw [e, rowL_look _ _ ht]
  have hm : (cellsC c k).getD i 0 ∈ cellsC c k := by simp [List.getD, hi]
  obtain ⟨x, hx, _, hid⟩ := cells_mem.1 hm
  rw [← hid, cellC_mem h.ids hx]
  exact h.cn x hx
theorem bnd_bm {c : List Cel} {s : GS} {m : Nat} (h : Good c s m) (k : Nat) (hk : k ≤ 3) : Bm (bndC c k) (2 ^ s.b k) := by
  intro i t
  have w : IntKind.i64.wrap ((k : Int) - 1) = (k : Int) - 1 := i64w (by omega)
  have hs := shp_bnd c k
  rw [w] at hs
  rcases Nat.lt_or_ge i (cellsC c k).length with hi | hi
  · rcases Nat.lt_or_ge t (cellsC c ((k : Int) - 1)).length with ht | ht
    · rw [bnd_at h k hk hi ht]
      have hm : (cellsC c k).getD i 0 ∈ cellsC c k := by simp [List.getD, hi]
      obtain ⟨x, hx, hd, hid⟩ := cells_mem.1 hm
      rw [← hid, cellC_mem h.ids hx]
      have := bd_look (h.bd x hx) ((cellsC c ((k : Int) - 1)).getD t 0)
      rw [hd] at this; exact this
    · rw [at2_out hs (.inr ht)]; exact Nat.zero_le _
  · rw [at2_out hs (.inl hi)]; exact Nat.zero_le _
theorem lin_zip (f : Int → Int) : ∀ (ids r : List Int), ids.length = r.length → lin f (ids.zip r) = sumN ids.length fun j => r.getD j 0 * f (ids.getD j 0) := by
  have snoc : ∀ (n : Nat) (g : Nat → Int), sumN (n + 1) g = g 0 + sumN n (fun j => g (j + 1)) := by
    intro n g
    induction n with
    | zero => simp [sumN]
    | succ n ih => rw [sumN, ih, sumN]; omega
  intro ids
  induction ids with
  | nil => intro r _; simp [lin, sumN]
  | cons i ids ih =>
    intro r hr
    cases r with
    | nil => simp at hr
    | cons y r =>
      simp only [List.zip_cons_cons, lin, List.length_cons]
      rw [ih r (by simpa using hr), snoc]
      simp
theorem cells_neg {c : List Cel} {s : GS} {m : Nat} (h : Good c s m) {k : Int} (hk : k < 0) : cellsC c k = [] := by
  rw [List.eq_nil_iff_forall_not_mem]
  intro id hid
  obtain ⟨x, hx, hd, _⟩ := cells_mem.1 hid
  have := (h.dims x hx).1
  omega
theorem ker_chain {c : List Cel} {s : GS} {m : Nat} (h : Good c s m) (k : Nat) (hk : k ≤ 2) {K : Nat} {B : List (List Int)} {e : Nat} (hB : Sha K (cellsC c k).length B) (hb : Bm B (2 ^ e))
    (hz : ∀ i t, mulE (cellsC c k).length B (bndC c k) i t = 0) : ∀ l ∈ cycOf c k B, Bd (2 ^ e) l ∧ l.length ≤ m ∧ Canon none l ∧ (∀ p ∈ l, p.1 ∈ cellsC c k) ∧ ∀ id, lin (fun i => lookL id (cellOf? c i).b) l = 0 := by
  intro l hl
  simp only [cycOf, List.mem_map] at hl
  obtain ⟨r, hr, rfl⟩ := hl
  obtain ⟨i, hi, rfl⟩ := List.mem_iff_getElem.1 hr
  have hiK : i < K := by rw [← hB.1]; exact hi
  have hrl : (B[i]).length = (cellsC c k).length := by
    have := hB.2 i hiK; simpa [List.getD, hi] using this
  have hat : ∀ j, (B[i]).getD j 0 = at2 B i j := fun j => by unfold at2; simp [List.getD, hi]
  have e1 : (chain26 c k B[i]).1 = chR (cellsC c k) B[i] := by unfold chain26; rw [if_neg (by rw [hrl]; simp)]
  rw [e1]
  refine ⟨chR_bd (cells_nodup h.ids _) fun y hy => ?_, Nat.le_trans (chR_len _ _) (Nat.le_trans (cellsC_len c k) h.len), chR_canon _ _, chR_keys _ _, fun id => ?_⟩
  · obtain ⟨j, hj, rfl⟩ := List.mem_iff_getElem.1 hy
    have := hb i j
    rw [← hat] at this
    simpa [List.getD, hj] using this
  · rw [chR_lin, lin_zip _ _ _ hrl.symm]
    by_cases hid : id ∈ cellsC c ((k : Int) - 1)
    · obtain ⟨t, ht, rfl⟩ := List.mem_iff_getElem.1 hid
      refine Eq.trans ?_ (hz i t)
      apply sumN_congr
      intro j hj
      rw [hat, bnd_at h k (by omega) hj ht]
      simp [List.getD, ht]
    · apply sumN_zero
      intro j hj
      have hm : (cellsC c k).getD j 0 ∈ cellsC c k := by simp [List.getD, hj]
      obtain ⟨x, hx, hd, hidx⟩ := cells_mem.1 hm
      rw [← hidx, cellC_mem h.ids hx, look_out (fun hk2 => ?_), Int.mul_zero]
      obtain ⟨p, hp, rfl⟩ := List.mem_map.1 hk2
      have := h.key x hx p hp
      rw [hd] at this
      exact hid this
variable {E : CallF} (hE : Free E)
include hE
theorem cycles_good {c : List Cel} {s : GS} {m : Nat} (h : Good c s m) (hm : m ≤ 16) (k : Int) (hk : -1 ≤ k ∧ k ≤ 2) (hbig : ∀ k, s.kb k + 16 ≤ 16000000000) :
    ∃ L : List (List (Int × Int)), (∀ H, call E GP 121 [.isl (c.map cA), .int .i64 k] H = some (.isl (L.map chA), H, false)) ∧ L.length ≤ 16 ∧
      ∀ l ∈ L, 0 ≤ k ∧ Bd (2 ^ s.kb k.toNat) l ∧ l.length ≤ m ∧ Canon none l ∧ (∀ p ∈ l, p.1 ∈ cellsC c k) ∧ ∀ id, lin (fun i => lookL id (cellOf? c i).b) l = 0 := by
  have hlen := h.len
  have hcb : ∀ x ∈ c, x.b.length < 2147483648 := fun x hx => by have := h.bl x hx; omega
  by_cases h0 : k < 0
  · refine ⟨[], fun H => ?_, by simp, fun l hl => by cases hl⟩
    have := r26_cycles hE c k 0 0 0 [] (by omega) hcb rfl (by omega) (fun i hi => by omega) (fun i hi => by omega) (fun i hi => by omega) (fun hk => by omega) H
    rw [if_pos h0] at this
    exact this
  · obtain ⟨n, rfl⟩ : ∃ n : Nat, k = (n : Int) := ⟨k.toNat, by omega⟩
    have hn : n ≤ 2 := by omega
    have w : IntKind.i64.wrap ((n : Int) - 1) = (n : Int) - 1 := i64w (by omega)
    have hs := shp_bnd c n
    rw [w] at hs
    have hR := h.cnt n (by omega)
    have hRm := cellsC_len c n
    have hCm := cellsC_len c ((n : Int) - 1)
    have hkb : lbGo (cellsC c n).length (s.b n) (min (cellsC c n).length (cellsC c ((n : Int) - 1)).length) = s.kb n := by
      rcases n with _ | _ | _ | n
      · have : cellsC c (((0 : Nat) : Int) - 1) = [] := cells_neg h (by omega)
        rw [this]; simp [lbGo, GS.kb]
      · have h1 := h.cnt 0 (by omega)
        rw [show (((0 + 1 : Nat) : Int) - 1) = ((0 : Nat) : Int) by omega, hR, h1]; rfl
      · have h1 := h.cnt 1 (by omega)
        rw [show (((0 + 1 + 1 : Nat) : Int) - 1) = ((1 : Nat) : Int) by omega, hR, h1]; rfl
      · omega
    have hb16 := hbig n
    have hlt : 2 ^ s.kb n < BIG := by
      have := mul_big (e := s.kb n) (N := 2 ^ s.kb n) (m := 1) (j := 1) (Nat.le_refl _) (by decide) (by omega)
      rwa [Nat.mul_one] at this
    obtain ⟨K, B, f1, f2, f3, f4, f5⟩ := left_sized hE (cellsC c n).length (cellsC c ((n : Int) - 1)).length (s.b n) (by omega) (by omega) hs (bnd_bm h n (by omega)) (by rw [hkb]; exact hlt)
    rw [hkb] at f3
    have hcy := r26_cycles hE c n K (cellsC c n).length (2 ^ s.kb n) B (by omega) hcb f2.1 (by omega) (fun i hi => by rw [f2.2 i hi]; omega) (fun i hi y hy => by
      obtain ⟨j, hj, rfl⟩ := List.mem_iff_getElem.1 hy
      have := f3 i j
      unfold at2 at this
      generalize B.getD i [] = r at *
      simpa [List.getD, hj] using this) (fun i hi => by
      rw [f2.2 i hi]
      exact mul_big (j := 16) (Nat.le_refl _) (by omega) hb16) (fun _ H => by rw [w]; exact f5 H)
    rw [if_neg h0] at hcy
    refine ⟨cycOf c n B, hcy, by unfold cycOf; rw [List.length_map, f2.1]; omega, fun l hl => ⟨by omega, ?_⟩⟩
    exact ker_chain h n hn f2 f3 f4 l hl
end Tor
namespace Tor
open Go
def sp0 : List Cel := [⟨1, 0, []⟩, ⟨2, 0, []⟩, ⟨3, 0, []⟩, ⟨4, 1, [(1, -1), (2, 1)]⟩, ⟨5, 1, [(2, -1), (3, 1)]⟩, ⟨6, 1, [(1, 1), (3, -1)]⟩]
def spaceC : Nat → List Cel
  | 1 => [⟨1, 0, []⟩]
  | 2 => [⟨1, 0, []⟩, ⟨7, 0, []⟩]
  | 3 => [⟨1, 0, []⟩, ⟨2, 0, []⟩, ⟨3, 1, [(1, -1), (2, 1)]⟩]
  | 4 => [⟨1, 0, []⟩, ⟨2, 1, []⟩]
  | 5 => sp0
  | 6 => sp0 ++ [⟨9, 2, [(4, 1), (5, 1), (6, 1)]⟩]
  | 7 => [⟨1, 0, []⟩, ⟨2, 2, []⟩]
  | 8 => [⟨1, 0, []⟩, ⟨2, 1, []⟩, ⟨3, 1, []⟩, ⟨4, 2, []⟩]
  | 9 => [⟨1, 0, []⟩, ⟨2, 1, []⟩, ⟨3, 2, [(2, 2)]⟩]
  | 10 => [⟨1, 0, []⟩, ⟨2, 1, []⟩, ⟨3, 1, []⟩, ⟨4, 2, [(2, 2)]⟩]
  | 11 => [⟨1, 0, []⟩, ⟨2, 1, []⟩, ⟨3, 2, [(2, 3)]⟩, ⟨4, 3, []⟩]
  | 12 => [⟨1, 0, []⟩, ⟨2, 1, []⟩, ⟨3, 2, [(2, 4)]⟩, ⟨4, 2, [(2, 6)]⟩]
  | 13 => [⟨1, 0, []⟩, ⟨2, 1, []⟩, ⟨3, 0, []⟩, ⟨5, 1, []⟩, ⟨6, 2, [(5, 2)]⟩]
  | _ => []
theorem iso_any {E : CallF} {g : Nat} {f : AFun} {args : List AV} {v : AV} (h0 : ∀ a H, E g a H = none) (hf : GP g = some f) (hp : args.length = f.params) (hm : f.mode = .iso)
    (h : call E GP g args [] = some (v, [], false)) (H : Heap) : call E GP g args H = some (v, H, false) := by
  rw [call_fun (h0 _ _) hf hp] at h ⊢
  rw [hm, callFun_i] at h ⊢
  cases hr : runIso (run E GP) f args with
  | none => rw [hr] at h; simp [withHeap] at h
  | some w => rw [hr] at h; simp [withHeap] at h ⊢; exact h
theorem spk0 : callN E1 GP 1000 21 [.int .i64 1, .int .i64 0, .isl []] [] = some (cA ⟨1, 0, []⟩, [], false) := by kernel_rfl
theorem spc0 (H : Heap) : call E1 GP 21 [.int .i64 1, .int .i64 0, .isl []] H = some (.agg [.int .i64 1, .int .i64 0, .isl []], H, false) :=
  iso_any (f := a21) (fun _ _ => rfl) rfl rfl rfl (call_of spk0) H
theorem spk1 : callN E1 GP 1000 21 [.int .i64 2, .int .i64 1, .isl []] [] = some (cA ⟨2, 1, []⟩, [], false) := by kernel_rfl
theorem spc1 (H : Heap) : call E1 GP 21 [.int .i64 2, .int .i64 1, .isl []] H = some (.agg [.int .i64 2, .int .i64 1, .isl []], H, false) :=
  iso_any (f := a21) (fun _ _ => rfl) rfl rfl rfl (call_of spk1) H
theorem spk2 : callN E1 GP 1000 21 [.int .i64 2, .int .i64 0, .isl []] [] = some (cA ⟨2, 0, []⟩, [], false) := by kernel_rfl
theorem spc2 (H : Heap) : call E1 GP 21 [.int .i64 2, .int .i64 0, .isl []] H = some (.agg [.int .i64 2, .int .i64 0, .isl []], H, false) :=
  iso_any (f := a21) (fun _ _ => rfl) rfl rfl rfl (call_of spk2) H
theorem spk3 : callN E1 GP 1000 21 [.int .i64 3, .int .i64 0, .isl []] [] = some (cA ⟨3, 0, []⟩, [], false) := by kernel_rfl
theorem spc3 (H : Heap) : call E1 GP 21 [.int .i64 3, .int .i64 0, .isl []] H = some (.agg [.int .i64 3, .int .i64 0, .isl []], H, false) :=
  iso_any (f := a21) (fun _ _ => rfl) rfl rfl rfl (call_of spk3) H
theorem spk4 : callN E1 GP 1000 21 [.int .i64 4, .int .i64 1, .isl [.int .i64 1, .int .i64 (-1), .int .i64 2, .int .i64 1]] [] = some (cA ⟨4, 1, [(1, -1), (2, 1)]⟩, [], false) := by kernel_rfl
theorem spc4 (H : Heap) : call E1 GP 21 [.int .i64 4, .int .i64 1, .isl [.int .i64 1, .int .i64 (-1), .int .i64 2, .int .i64 1]] H = some (.agg [.int .i64 4, .int .i64 1, .isl [fA (1, -1), fA (2, 1)]], H, false) :=
  iso_any (f := a21) (fun _ _ => rfl) rfl rfl rfl (call_of spk4) H
theorem spk5 : callN E1 GP 1000 21 [.int .i64 5, .int .i64 1, .isl [.int .i64 2, .int .i64 (-1), .int .i64 3, .int .i64 1]] [] = some (cA ⟨5, 1, [(2, -1), (3, 1)]⟩, [], false) := by kernel_rfl
theorem spc5 (H : Heap) : call E1 GP 21 [.int .i64 5, .int .i64 1, .isl [.int .i64 2, .int .i64 (-1), .int .i64 3, .int .i64 1]] H = some (.agg [.int .i64 5, .int .i64 1, .isl [fA (2, -1), fA (3, 1)]], H, false) :=
  iso_any (f := a21) (fun _ _ => rfl) rfl rfl rfl (call_of spk5) H
theorem spk6 : callN E1 GP 1000 21 [.int .i64 6, .int .i64 1, .isl [.int .i64 1, .int .i64 1, .int .i64 3, .int .i64 (-1)]] [] = some (cA ⟨6, 1, [(1, 1), (3, -1)]⟩, [], false) := by kernel_rfl
theorem spc6 (H : Heap) : call E1 GP 21 [.int .i64 6, .int .i64 1, .isl [.int .i64 1, .int .i64 1, .int .i64 3, .int .i64 (-1)]] H = some (.agg [.int .i64 6, .int .i64 1, .isl [fA (1, 1), fA (3, -1)]], H, false) :=
  iso_any (f := a21) (fun _ _ => rfl) rfl rfl rfl (call_of spk6) H
theorem spk7 : callN E1 GP 1000 21 [.int .i64 7, .int .i64 0, .isl []] [] = some (cA ⟨7, 0, []⟩, [], false) := by kernel_rfl
theorem spc7 (H : Heap) : call E1 GP 21 [.int .i64 7, .int .i64 0, .isl []] H = some (.agg [.int .i64 7, .int .i64 0, .isl []], H, false) :=
  iso_any (f := a21) (fun _ _ => rfl) rfl rfl rfl (call_of spk7) H
theorem spk8 : callN E1 GP 1000 21 [.int .i64 3, .int .i64 1, .isl [.int .i64 1, .int .i64 (-1), .int .i64 2, .int .i64 1]] [] = some (cA ⟨3, 1, [(1, -1), (2, 1)]⟩, [], false) := by kernel_rfl
theorem spc8 (H : Heap) : call E1 GP 21 [.int .i64 3, .int .i64 1, .isl [.int .i64 1, .int .i64 (-1), .int .i64 2, .int .i64 1]] H = some (.agg [.int .i64 3, .int .i64 1, .isl [fA (1, -1), fA (2, 1)]], H, false) :=
  iso_any (f := a21) (fun _ _ => rfl) rfl rfl rfl (call_of spk8) H
theorem spk9 : callN E1 GP 1000 21 [.int .i64 9, .int .i64 2, .isl [.int .i64 4, .int .i64 1, .int .i64 5, .int .i64 1, .int .i64 6, .int .i64 1]] [] = some (cA ⟨9, 2, [(4, 1), (5, 1), (6, 1)]⟩, [], false) := by kernel_rfl
theorem spc9 (H : Heap) : call E1 GP 21 [.int .i64 9, .int .i64 2, .isl [.int .i64 4, .int .i64 1, .int .i64 5, .int .i64 1, .int .i64 6, .int .i64 1]] H = some (.agg [.int .i64 9, .int .i64 2, .isl [fA (4, 1), fA (5, 1), fA (6, 1)]], H, false) :=
  iso_any (f := a21) (fun _ _ => rfl) rfl rfl rfl (call_of spk9) H
theorem spk10 : callN E1 GP 1000 21 [.int .i64 2, .int .i64 2, .isl []] [] = some (cA ⟨2, 2, []⟩, [], false) := by kernel_rfl
theorem spc10 (H : Heap) : call E1 GP 21 [.int .i64 2, .int .i64 2, .isl []] H = some (.agg [.int .i64 2, .int .i64 2, .isl []], H, false) :=
  iso_any (f := a21) (fun _ _ => rfl) rfl rfl rfl (call_of spk10) H
theorem spk11 : callN E1 GP 1000 21 [.int .i64 3, .int .i64 1, .isl []] [] = some (cA ⟨3, 1, []⟩, [], false) := by kernel_rfl
theorem spc11 (H : Heap) : call E1 GP 21 [.int .i64 3, .int .i64 1, .isl []] H = some (.agg [.int .i64 3, .int .i64 1, .isl []], H, false) :=
  iso_any (f := a21) (fun _ _ => rfl) rfl rfl rfl (call_of spk11) H
theorem spk12 : callN E1 GP 1000 21 [.int .i64 4, .int .i64 2, .isl []] [] = some (cA ⟨4, 2, []⟩, [], false) := by kernel_rfl
theorem spc12 (H : Heap) : call E1 GP 21 [.int .i64 4, .int .i64 2, .isl []] H = some (.agg [.int .i64 4, .int .i64 2, .isl []], H, false) :=
  iso_any (f := a21) (fun _ _ => rfl) rfl rfl rfl (call_of spk12) H
theorem spk13 : callN E1 GP 1000 21 [.int .i64 3, .int .i64 2, .isl [.int .i64 2, .int .i64 2]] [] = some (cA ⟨3, 2, [(2, 2)]⟩, [], false) := by kernel_rfl
theorem spc13 (H : Heap) : call E1 GP 21 [.int .i64 3, .int .i64 2, .isl [.int .i64 2, .int .i64 2]] H = some (.agg [.int .i64 3, .int .i64 2, .isl [fA (2, 2)]], H, false) :=
  iso_any (f := a21) (fun _ _ => rfl) rfl rfl rfl (call_of spk13) H
theorem spk14 : callN E1 GP 1000 21 [.int .i64 4, .int .i64 2, .isl [.int .i64 2, .int .i64 2]] [] = some (cA ⟨4, 2, [(2, 2)]⟩, [], false) := by kernel_rfl
theorem spc14 (H : Heap) : call E1 GP 21 [.int .i64 4, .int .i64 2, .isl [.int .i64 2, .int .i64 2]] H = some (.agg [.int .i64 4, .int .i64 2, .isl [fA (2, 2)]], H, false) :=
  iso_any (f := a21) (fun _ _ => rfl) rfl rfl rfl (call_of spk14) H
theorem spk15 : callN E1 GP 1000 21 [.int .i64 3, .int .i64 2, .isl [.int .i64 2, .int .i64 3]] [] = some (cA ⟨3, 2, [(2, 3)]⟩, [], false) := by kernel_rfl
theorem spc15 (H : Heap) : call E1 GP 21 [.int .i64 3, .int .i64 2, .isl [.int .i64 2, .int .i64 3]] H = some (.agg [.int .i64 3, .int .i64 2, .isl [fA (2, 3)]], H, false) :=
  iso_any (f := a21) (fun _ _ => rfl) rfl rfl rfl (call_of spk15) H
theorem spk16 : callN E1 GP 1000 21 [.int .i64 4, .int .i64 3, .isl []] [] = some (cA ⟨4, 3, []⟩, [], false) := by kernel_rfl
theorem spc16 (H : Heap) : call E1 GP 21 [.int .i64 4, .int .i64 3, .isl []] H = some (.agg [.int .i64 4, .int .i64 3, .isl []], H, false) :=
  iso_any (f := a21) (fun _ _ => rfl) rfl rfl rfl (call_of spk16) H
theorem spk17 : callN E1 GP 1000 21 [.int .i64 3, .int .i64 2, .isl [.int .i64 2, .int .i64 4]] [] = some (cA ⟨3, 2, [(2, 4)]⟩, [], false) := by kernel_rfl
theorem spc17 (H : Heap) : call E1 GP 21 [.int .i64 3, .int .i64 2, .isl [.int .i64 2, .int .i64 4]] H = some (.agg [.int .i64 3, .int .i64 2, .isl [fA (2, 4)]], H, false) :=
  iso_any (f := a21) (fun _ _ => rfl) rfl rfl rfl (call_of spk17) H
theorem spk18 : callN E1 GP 1000 21 [.int .i64 4, .int .i64 2, .isl [.int .i64 2, .int .i64 6]] [] = some (cA ⟨4, 2, [(2, 6)]⟩, [], false) := by kernel_rfl
theorem spc18 (H : Heap) : call E1 GP 21 [.int .i64 4, .int .i64 2, .isl [.int .i64 2, .int .i64 6]] H = some (.agg [.int .i64 4, .int .i64 2, .isl [fA (2, 6)]], H, false) :=
  iso_any (f := a21) (fun _ _ => rfl) rfl rfl rfl (call_of spk18) H
theorem spk19 : callN E1 GP 1000 21 [.int .i64 5, .int .i64 1, .isl []] [] = some (cA ⟨5, 1, []⟩, [], false) := by kernel_rfl
theorem spc19 (H : Heap) : call E1 GP 21 [.int .i64 5, .int .i64 1, .isl []] H = some (.agg [.int .i64 5, .int .i64 1, .isl []], H, false) :=
  iso_any (f := a21) (fun _ _ => rfl) rfl rfl rfl (call_of spk19) H
theorem spk20 : callN E1 GP 1000 21 [.int .i64 6, .int .i64 2, .isl [.int .i64 5, .int .i64 2]] [] = some (cA ⟨6, 2, [(5, 2)]⟩, [], false) := by kernel_rfl
theorem spc20 (H : Heap) : call E1 GP 21 [.int .i64 6, .int .i64 2, .isl [.int .i64 5, .int .i64 2]] H = some (.agg [.int .i64 6, .int .i64 2, .isl [fA (5, 2)]], H, false) :=
  iso_any (f := a21) (fun _ _ => rfl) rfl rfl rfl (call_of spk20) H
theorem r26_space (k : Nat) (hk : k < 256) (H : Heap) : call E1 GP 27 [.int .u8 k] H = some (.isl ((spaceC (k % 14)).map cA), H, false) := by
  rw [call_fun (by rfl) (f := a27) rfl rfl]
  have hm : ((k : Nat) : Int).tmod 14 = ((k % 14 : Nat) : Int) := rfl
  have hj2 : k % 14 < 14 := by omega
  have fzf := fz_fA
  have rff := fA_ref
  have sof := solid_fA
  by_cases h0 : k % 14 = 0
  · have hm1 : ((k : Nat) : Int).tmod 14 = 0 := by rw [hm, h0]; rfl
    rw [h0]
    simp (maxSteps := 1000000) only [si, simprocAttr, spaceC, sp0, a27, a27R, spc0, spc1, spc2, spc3, spc4, spc5, spc6, spc7, spc8, spc9, spc10, spc11, spc12, spc13, spc14, spc15, spc16, spc17, spc18, spc19, spc20, hm1, fzf, rff, sof, fA_size, List.map_cons, List.map_nil, List.cons_append, List.nil_append, List.append_nil, cA, maxLenA]
  by_cases h1 : k % 14 = 1
  · have hm1 : ((k : Nat) : Int).tmod 14 = 1 := by rw [hm, h1]; rfl
    rw [h1]
    simp (maxSteps := 1000000) only [si, simprocAttr, spaceC, sp0, a27, a27R, spc0, spc1, spc2, spc3, spc4, spc5, spc6, spc7, spc8, spc9, spc10, spc11, spc12, spc13, spc14, spc15, spc16, spc17, spc18, spc19, spc20, hm1, fzf, rff, sof, fA_size, List.map_cons, List.map_nil, List.cons_append, List.nil_append, List.append_nil, cA, maxLenA]
  by_cases h2 : k % 14 = 2
  · have hm1 : ((k : Nat) : Int).tmod 14 = 2 := by rw [hm, h2]; rfl
    rw [h2]
    simp (maxSteps := 1000000) only [si, simprocAttr, spaceC, sp0, a27, a27R, spc0, spc1, spc2, spc3, spc4, spc5, spc6, spc7, spc8, spc9, spc10, spc11, spc12, spc13, spc14, spc15, spc16, spc17, spc18, spc19, spc20, hm1, fzf, rff, sof, fA_size, List.map_cons, List.map_nil, List.cons_append, List.nil_append, List.append_nil, cA, maxLenA]
  by_cases h3 : k % 14 = 3
  · have hm1 : ((k : Nat) : Int).tmod 14 = 3 := by rw [hm, h3]; rfl
    rw [h3]
    simp (maxSteps := 1000000) only [si, simprocAttr, spaceC, sp0, a27, a27R, spc0, spc1, spc2, spc3, spc4, spc5, spc6, spc7, spc8, spc9, spc10, spc11, spc12, spc13, spc14, spc15, spc16, spc17, spc18, spc19, spc20, hm1, fzf, rff, sof, fA_size, List.map_cons, List.map_nil, List.cons_append, List.nil_append, List.append_nil, cA, maxLenA]
  by_cases h4 : k % 14 = 4
  · have hm1 : ((k : Nat) : Int).tmod 14 = 4 := by rw [hm, h4]; rfl
    rw [h4]
    simp (maxSteps := 1000000) only [si, simprocAttr, spaceC, sp0, a27, a27R, spc0, spc1, spc2, spc3, spc4, spc5, spc6, spc7, spc8, spc9, spc10, spc11, spc12, spc13, spc14, spc15, spc16, spc17, spc18, spc19, spc20, hm1, fzf, rff, sof, fA_size, List.map_cons, List.map_nil, List.cons_append, List.nil_append, List.append_nil, cA, maxLenA]
  by_cases h5 : k % 14 = 5
  · have hm1 : ((k : Nat) : Int).tmod 14 = 5 := by rw [hm, h5]; rfl
    rw [h5]
    simp (maxSteps := 1000000) only [si, simprocAttr, spaceC, sp0, a27, a27R, spc0, spc1, spc2, spc3, spc4, spc5, spc6, spc7, spc8, spc9, spc10, spc11, spc12, spc13, spc14, spc15, spc16, spc17, spc18, spc19, spc20, hm1, fzf, rff, sof, fA_size, List.map_cons, List.map_nil, List.cons_append, List.nil_append, List.append_nil, cA, maxLenA]
  by_cases h6 : k % 14 = 6
  · have hm1 : ((k : Nat) : Int).tmod 14 = 6 := by rw [hm, h6]; rfl
    rw [h6]
    simp (maxSteps := 1000000) only [si, simprocAttr, spaceC, sp0, a27, a27R, spc0, spc1, spc2, spc3, spc4, spc5, spc6, spc7, spc8, spc9, spc10, spc11, spc12, spc13, spc14, spc15, spc16, spc17, spc18, spc19, spc20, hm1, fzf, rff, sof, fA_size, List.map_cons, List.map_nil, List.cons_append, List.nil_append, List.append_nil, cA, maxLenA]
  by_cases h7 : k % 14 = 7
  · have hm1 : ((k : Nat) : Int).tmod 14 = 7 := by rw [hm, h7]; rfl
    rw [h7]
    simp (maxSteps := 1000000) only [si, simprocAttr, spaceC, sp0, a27, a27R, spc0, spc1, spc2, spc3, spc4, spc5, spc6, spc7, spc8, spc9, spc10, spc11, spc12, spc13, spc14, spc15, spc16, spc17, spc18, spc19, spc20, hm1, fzf, rff, sof, fA_size, List.map_cons, List.map_nil, List.cons_append, List.nil_append, List.append_nil, cA, maxLenA]
  by_cases h8 : k % 14 = 8
  · have hm1 : ((k : Nat) : Int).tmod 14 = 8 := by rw [hm, h8]; rfl
    rw [h8]
    simp (maxSteps := 1000000) only [si, simprocAttr, spaceC, sp0, a27, a27R, spc0, spc1, spc2, spc3, spc4, spc5, spc6, spc7, spc8, spc9, spc10, spc11, spc12, spc13, spc14, spc15, spc16, spc17, spc18, spc19, spc20, hm1, fzf, rff, sof, fA_size, List.map_cons, List.map_nil, List.cons_append, List.nil_append, List.append_nil, cA, maxLenA]
  by_cases h9 : k % 14 = 9
  · have hm1 : ((k : Nat) : Int).tmod 14 = 9 := by rw [hm, h9]; rfl
    rw [h9]
    simp (maxSteps := 1000000) only [si, simprocAttr, spaceC, sp0, a27, a27R, spc0, spc1, spc2, spc3, spc4, spc5, spc6, spc7, spc8, spc9, spc10, spc11, spc12, spc13, spc14, spc15, spc16, spc17, spc18, spc19, spc20, hm1, fzf, rff, sof, fA_size, List.map_cons, List.map_nil, List.cons_append, List.nil_append, List.append_nil, cA, maxLenA]
  by_cases h10 : k % 14 = 10
  · have hm1 : ((k : Nat) : Int).tmod 14 = 10 := by rw [hm, h10]; rfl
    rw [h10]
    simp (maxSteps := 1000000) only [si, simprocAttr, spaceC, sp0, a27, a27R, spc0, spc1, spc2, spc3, spc4, spc5, spc6, spc7, spc8, spc9, spc10, spc11, spc12, spc13, spc14, spc15, spc16, spc17, spc18, spc19, spc20, hm1, fzf, rff, sof, fA_size, List.map_cons, List.map_nil, List.cons_append, List.nil_append, List.append_nil, cA, maxLenA]
  by_cases h11 : k % 14 = 11
  · have hm1 : ((k : Nat) : Int).tmod 14 = 11 := by rw [hm, h11]; rfl
    rw [h11]
    simp (maxSteps := 1000000) only [si, simprocAttr, spaceC, sp0, a27, a27R, spc0, spc1, spc2, spc3, spc4, spc5, spc6, spc7, spc8, spc9, spc10, spc11, spc12, spc13, spc14, spc15, spc16, spc17, spc18, spc19, spc20, hm1, fzf, rff, sof, fA_size, List.map_cons, List.map_nil, List.cons_append, List.nil_append, List.append_nil, cA, maxLenA]
  by_cases h12 : k % 14 = 12
  · have hm1 : ((k : Nat) : Int).tmod 14 = 12 := by rw [hm, h12]; rfl
    rw [h12]
    simp (maxSteps := 1000000) only [si, simprocAttr, spaceC, sp0, a27, a27R, spc0, spc1, spc2, spc3, spc4, spc5, spc6, spc7, spc8, spc9, spc10, spc11, spc12, spc13, spc14, spc15, spc16, spc17, spc18, spc19, spc20, hm1, fzf, rff, sof, fA_size, List.map_cons, List.map_nil, List.cons_append, List.nil_append, List.append_nil, cA, maxLenA]
  by_cases h13 : k % 14 = 13
  · have hm1 : ((k : Nat) : Int).tmod 14 = 13 := by rw [hm, h13]; rfl
    rw [h13]
    simp (maxSteps := 1000000) only [si, simprocAttr, spaceC, sp0, a27, a27R, spc0, spc1, spc2, spc3, spc4, spc5, spc6, spc7, spc8, spc9, spc10, spc11, spc12, spc13, spc14, spc15, spc16, spc17, spc18, spc19, spc20, hm1, fzf, rff, sof, fA_size, List.map_cons, List.map_nil, List.cons_append, List.nil_append, List.append_nil, cA, maxLenA]
  omega
end Tor
namespace Tor
open Go
theorem cellsC_app (c : List Cel) (x : Cel) (k : Int) : cellsC (c ++ [x]) k = cellsC c k ++ (if x.dim = k then [x.id] else []) := by
  unfold cellsC
  rw [List.filter_append, List.map_append]
  congr 1
  by_cases h : x.dim = k <;> simp [h]
theorem cell_app {c : List Cel} {x : Cel} {i : Int} (h : ∃ y ∈ c, y.id = i) : cellOf? (c ++ [x]) i = cellOf? c i := by
  unfold cellOf? findC
  rw [List.find?_append]
  cases hf : c.find? (fun x => decide (x.id = i)) with
  | some y => rfl
  | none =>
    obtain ⟨y, hy, he⟩ := h
    have := List.find?_eq_none.1 hf y hy
    simp [he] at this
theorem lin_congr {f g : Int → Int} : ∀ {l : List (Int × Int)}, (∀ p ∈ l, f p.1 = g p.1) → lin f l = lin g l
  | [], _ => rfl
  | p :: r, h => by simp only [lin]; rw [h p (.head _), lin_congr (fun q hq => h q (.tail _ hq))]
theorem gB_law (P : Int → Prop) (N Lc : Nat) (f : Int → Int) : ∀ (L : List (List (Int × Int))) (es : List Int) (i : Nat) (b : List (Int × Int)), (∀ e ∈ es, -3 ≤ e ∧ e ≤ 3) →
    (∀ l ∈ L, Bd N l ∧ l.length ≤ Lc ∧ Canon none l ∧ (∀ p ∈ l, P p.1) ∧ lin f l = 0) → Bd (3 * N * Lc * i) b → b.length ≤ Lc * i → Canon none b → (∀ p ∈ b, P p.1) → lin f b = 0 →
    ∀ b', b' = (L.zip es).foldl (fun b p => add26 b p.1 p.2) b → Bd (3 * N * Lc * (i + es.length)) b' ∧ b'.length ≤ Lc * (i + es.length) ∧ Canon none b' ∧ (∀ p ∈ b', P p.1) ∧ lin f b' = 0
  | [], es, i, b, he, hL, h1, h2, h3, h4, h5, b', hb => by
    rw [hb]
    show Bd _ b ∧ b.length ≤ _ ∧ Canon none b ∧ (∀ p ∈ b, P p.1) ∧ lin f b = 0
    exact ⟨bd_mono (Nat.mul_le_mul_left _ (by omega)) h1, Nat.le_trans h2 (Nat.mul_le_mul_left _ (by omega)), h3, h4, h5⟩
  | l :: L, [], i, b, he, hL, h1, h2, h3, h4, h5, b', hb => by
    rw [hb]
    show Bd _ b ∧ b.length ≤ _ ∧ Canon none b ∧ (∀ p ∈ b, P p.1) ∧ lin f b = 0
    exact ⟨bd_mono (Nat.mul_le_mul_left _ (by omega)) h1, Nat.le_trans h2 (Nat.mul_le_mul_left _ (by omega)), h3, h4, h5⟩
  | l :: L, e :: es, i, b, he, hL, h1, h2, h3, h4, h5, b', hb => by
    obtain ⟨g1, g2, g3, g4, g5⟩ := hL l (.head _)
    have he1 := he e (.head _)
    have hp : ∀ p ∈ l, (e * p.2).natAbs ≤ 3 * N := fun p hp => by
      rw [Int.natAbs_mul]; exact Nat.mul_le_mul (by omega) (g1 p hp)
    obtain ⟨a1, a2⟩ := add_bd e l b (3 * N * Lc * i) hp h1
    have mm : 3 * N * l.length ≤ 3 * N * Lc := Nat.mul_le_mul_left _ g2
    have := gB_law P N Lc f L es (i + 1) (add26 b l e) (fun x hx => he x (.tail _ hx)) (fun x hx => hL x (.tail _ hx))
      (bd_mono (by rw [Nat.mul_succ]; omega) a1) (by rw [Nat.mul_succ]; omega) (add_law e l b h3).1 (add_keys e l b g4 h4) (by rw [lin_add, h5, g5]; omega) b' (by rw [hb, List.zip_cons_cons, List.foldl_cons])
    rw [List.length_cons]
    have e1 : i + 1 + es.length = i + (es.length + 1) := by omega
    rw [e1] at this
    exact this
theorem last_max {c : List Cel} (h : c.Pairwise (fun x y => x.id < y.id)) (hc : 0 < c.length) : ∀ y ∈ c, y.id ≤ (c.getD (c.length - 1) zC).id := by
  intro y hy
  obtain ⟨i, hi, rfl⟩ := List.mem_iff_getElem.1 hy
  have e : c.getD (c.length - 1) zC = c[c.length - 1] := by simp [List.getD, show c.length - 1 < c.length by omega]
  rw [e]
  rcases Nat.lt_or_ge i (c.length - 1) with h1 | h1
  · have := List.pairwise_iff_getElem.1 h i (c.length - 1) hi (by omega) h1
    omega
  · have : i = c.length - 1 := by omega
    subst this; exact Int.le_refl _
theorem grow_n (s : GS) (d k : Nat) (hd : d ≤ 3) : (s.grow d).n k = s.n k + (if d = k then 1 else 0) := by
  rcases d with _ | _ | _ | _ | d
  · rcases k with _ | _ | _ | _ | k <;> simp [GS.grow, GS.n]
  · rcases k with _ | _ | _ | _ | k <;> simp [GS.grow, GS.n]
  · rcases k with _ | _ | _ | _ | k <;> simp [GS.grow, GS.n]
  · rcases k with _ | _ | _ | _ | k <;> simp [GS.grow, GS.n]
  · omega
theorem grow_b (s : GS) (d k : Nat) : s.b k ≤ (s.grow d).b k := by
  rcases d with _ | _ | _ | _ | d
  · rcases k with _ | _ | _ | _ | k <;> simp [GS.grow, GS.b]
  · rcases k with _ | _ | _ | _ | k <;> simp [GS.grow, GS.b] <;> omega
  · rcases k with _ | _ | _ | _ | k <;> simp [GS.grow, GS.b] <;> omega
  · rcases k with _ | _ | _ | _ | k <;> simp [GS.grow, GS.b] <;> omega
  · exact Nat.le_refl _
theorem grow_k (s : GS) (d : Nat) (h1 : 1 ≤ d) (h3 : d ≤ 3) : s.kb (d - 1) + 8 ≤ (s.grow d).b d := by
  rcases d with _ | _ | _ | _ | d
  · omega
  · simp [GS.grow, GS.b]; omega
  · simp [GS.grow, GS.b]; omega
  · simp [GS.grow, GS.b]; omega
  · omega
variable {E : CallF} (hE : Free E)
include hE
theorem good_grow {c : List Cel} {s : GS} {m : Nat} (h : Good c s m) (h1m : 1 ≤ m) (hm : m ≤ 15) (hbig : ∀ k, s.kb k + 16 ≤ 16000000000) (x : Dg) (hx : x.ok) :
    ∃ c', Good c' (s.grow (gDim x).toNat) (m + 1) ∧ ∀ H, call E GP 28 [.isl (c.map cA), gA x] H = some (.isl (c'.map cA), H, false) := by
  have hu := u8w x.a
  have td1 := Int.tmod_lt_of_pos (IntKind.u8.wrap x.a) (show (0 : Int) < 4 by omega)
  have td2 := Int.tmod_nonneg 4 hu.1
  have hlen := h.len
  obtain ⟨L, l1, l2, l3⟩ := cycles_good hE h (by omega) (gDim x - 1) (by unfold gDim; omega) hbig
  have hkb := hbig (gDim x - 1).toNat
  generalize hK : (gDim x - 1).toNat = kk at *
  have hgr := r26_grown hE c x hx L (2 ^ s.kb kk) m (by omega) (fun y hy => by have := h.idr y hy; omega) (by omega) l1 (fun l hl => ⟨(l3 l hl).2.1, (l3 l hl).2.2.1⟩)
    (by
      have : 12 * 2 ^ s.kb kk * (m + 1) = 2 ^ s.kb kk * (12 * (m + 1)) := by rw [Nat.mul_comm 12, Nat.mul_assoc]
      rw [this]
      exact mul_big (j := 8) (Nat.le_refl _) (by omega) (by omega)) (by omega)
  refine ⟨grown c x L, ?_, hgr⟩
  have hgB : ∀ id, Bd (3 * 2 ^ s.kb kk * m * (0 + 3)) (gB L x.cs) ∧ (gB L x.cs).length ≤ m * (0 + 3) ∧ Canon none (gB L x.cs) ∧ (∀ p ∈ gB L x.cs, p.1 ∈ cellsC c (gDim x - 1)) ∧ lin (fun i => lookL id (cellOf? c i).b) (gB L x.cs) = 0 := fun id =>
    gB_law (· ∈ cellsC c (gDim x - 1)) (2 ^ s.kb kk) m (fun i => lookL id (cellOf? c i).b) L x.cs 0 [] (fun e he => by
      unfold Dg.cs at he
      have ts : ∀ y : Int, -3 ≤ y.tmod 4 ∧ y.tmod 4 ≤ 3 := fun y => by
        have t1 := Int.tmod_lt_of_pos y (show (0 : Int) < 4 by omega)
        have t2 := Int.lt_tmod_of_pos y (show (0 : Int) < 4 by omega)
        omega
      simp only [List.mem_cons, List.not_mem_nil, or_false] at he
      rcases he with rfl | rfl | rfl <;> exact ts _) (fun l hl => by
        obtain ⟨_, a1, a2, a3, a4, a5⟩ := l3 l hl
        exact ⟨a1, a2, a3, a4, a5 id⟩) (fun p hp => by cases hp) (Nat.zero_le _) trivial (fun p hp => by cases hp) rfl _ rfl
  have hold : ∀ i, (∃ k, i ∈ cellsC c k) → cellOf? (grown c x L) i = cellOf? c i := fun i ⟨k, hi⟩ => by
    obtain ⟨y, hy, _, he⟩ := cells_mem.1 hi
    exact cell_app ⟨y, hy, he⟩
  have hL0 : ¬ 1 ≤ gDim x → L = [] := fun hd => by
    cases L with
    | nil => rfl
    | cons l r => have := (l3 l (.head _)).1; omega
  have hdn : (gDim x).toNat ≤ 3 := by unfold gDim; omega
  refine ⟨?_, ?_, ?_, ?_, ?_, ?_, ?_, ?_, ?_, ?_⟩
  · unfold grown; simp; omega
  · unfold grown
    rw [List.pairwise_append]
    refine ⟨h.ids, List.pairwise_singleton _ _, fun y hy z hz => ?_⟩
    simp only [List.mem_singleton] at hz
    subst hz
    have hpos : 0 < c.length := List.length_pos_of_mem hy
    have := last_max h.ids hpos y hy
    show y.id < gId c x
    unfold gId
    rw [if_neg (by omega)]
    have := Int.tdiv_nonneg hu.1 (show (0 : Int) ≤ 128 by omega)
    omega
  · intro y hy
    unfold grown at hy
    rcases List.mem_append.1 hy with hy | hy
    · have := h.idr y hy; omega
    · simp only [List.mem_singleton] at hy
      subst hy
      show 1 ≤ gId c x ∧ gId c x ≤ 2 * (((m + 1 : Nat)) : Int)
      unfold gId
      split
      · omega
      · have hpos : 0 < c.length := by omega
        have hl : c.getD (c.length - 1) zC ∈ c := by simp [List.getD, show c.length - 1 < c.length by omega]
        have := h.idr _ hl
        have h1 := Int.tdiv_nonneg hu.1 (show (0 : Int) ≤ 128 by omega)
        have h2 : (IntKind.u8.wrap x.a).tdiv 128 ≤ 1 := by
          rw [Int.tdiv_eq_ediv_of_nonneg hu.1]; omega
        omega
  · intro y hy
    unfold grown at hy
    rcases List.mem_append.1 hy with hy | hy
    · exact h.dims y hy
    · simp only [List.mem_singleton] at hy
      subst hy
      show 0 ≤ gDim x ∧ gDim x ≤ 3
      unfold gDim; omega
  · intro k hk
    unfold grown
    rw [cellsC_app, List.length_append, h.cnt k hk, grow_n s _ k hdn]
    show s.n k + (if gDim x = (k : Int) then [gId c x] else []).length = _
    by_cases e : gDim x = (k : Int)
    · rw [if_pos e, if_pos (by omega)]; rfl
    · rw [if_neg e, if_neg (by unfold gDim at *; omega)]; rfl
  · intro y hy
    unfold grown at hy
    rcases List.mem_append.1 hy with hy | hy
    · exact bd_mono (Nat.pow_le_pow_right (by decide) (grow_b s _ _)) (h.bd y hy)
    · simp only [List.mem_singleton] at hy
      subst hy
      show Bd (2 ^ (s.grow (gDim x).toNat).b (gDim x).toNat) (gB L x.cs)
      by_cases hd : 1 ≤ gDim x
      · refine bd_mono ?_ (hgB 0).1
        have hk8 := grow_k s (gDim x).toNat (by omega) hdn
        rw [show (gDim x).toNat - 1 = kk by omega] at hk8
        refine Nat.le_trans ?_ (Nat.pow_le_pow_right (by decide) hk8)
        rw [Nat.pow_add]
        have : 3 * 2 ^ s.kb kk * m * (0 + 3) = 2 ^ s.kb kk * (9 * m) := by
          rw [Nat.mul_comm 3, Nat.mul_assoc, Nat.mul_assoc]; congr 1; omega
        rw [this]
        exact Nat.mul_le_mul_left _ (by omega)
      · have := hL0 hd
        subst this
        intro p hp
        simp [gB] at hp
  · intro y hy
    unfold grown at hy
    rcases List.mem_append.1 hy with hy | hy
    · exact h.cn y hy
    · simp only [List.mem_singleton] at hy
      subst hy; exact (hgB 0).2.2.1
  · intro y hy p hp
    unfold grown at hy ⊢
    rw [cellsC_app]
    rcases List.mem_append.1 hy with hy | hy
    · exact List.mem_append_left _ (h.key y hy p hp)
    · simp only [List.mem_singleton] at hy
      subst hy
      exact List.mem_append_left _ ((hgB 0).2.2.2.1 p hp)
  · intro y hy
    unfold grown at hy
    rcases List.mem_append.1 hy with hy | hy
    · exact h.bl y hy
    · simp only [List.mem_singleton] at hy
      subst hy
      have := (hgB 0).2.1
      show (gB L x.cs).length ≤ 150
      omega
  · intro y hy id
    have hy' := hy
    unfold grown at hy
    rcases List.mem_append.1 hy with hy | hy
    · rw [← h.bb y hy id]
      exact lin_congr fun p hp => by rw [hold _ ⟨_, h.key y hy p hp⟩]
    · simp only [List.mem_singleton] at hy
      subst hy
      rw [← (hgB id).2.2.2.2]
      exact lin_congr fun p hp => by rw [hold _ ⟨_, (hgB id).2.2.2.1 p hp⟩]
end Tor
namespace Tor
open Go
def gsp : Nat → GS
  | 1 => ⟨1, 0, 0, 0, 0, 0, 0⟩
  | 2 => ⟨2, 0, 0, 0, 0, 0, 0⟩
  | 3 => ⟨2, 1, 0, 0, 0, 0, 0⟩
  | 4 => ⟨1, 1, 0, 0, 0, 0, 0⟩
  | 5 => ⟨3, 3, 0, 0, 0, 0, 0⟩
  | 6 => ⟨3, 3, 1, 0, 0, 0, 0⟩
  | 7 => ⟨1, 0, 1, 0, 0, 0, 0⟩
  | 8 => ⟨1, 2, 1, 0, 0, 0, 0⟩
  | 9 => ⟨1, 1, 1, 0, 0, 1, 0⟩
  | 10 => ⟨1, 2, 1, 0, 0, 1, 0⟩
  | 11 => ⟨1, 1, 1, 1, 0, 2, 0⟩
  | 12 => ⟨1, 1, 2, 0, 0, 3, 0⟩
  | 13 => ⟨2, 2, 1, 0, 0, 1, 0⟩
  | _ => ⟨0, 0, 0, 0, 0, 0, 0⟩
def GS.fin (s : GS) : Bool := decide (s.b1 ≤ 1000000000) && decide (s.b2 ≤ 1000000000) && decide (s.b3 ≤ 1000000000)
def GS.kok (s : GS) : Bool := decide (s.kb 1 + 16 ≤ 16000000000) && decide (s.kb 2 + 16 ≤ 16000000000)
def okT : Nat → GS → Bool
  | 0, s => s.fin
  | f + 1, s => s.fin && (s.kok && (okT f (s.grow 0) && (okT f (s.grow 1) && (okT f (s.grow 2) && okT f (s.grow 3)))))
theorem ok_all : ((List.range 14).all fun j => okT 4 (gsp j)) = true := by kernel_rfl
theorem kok_all {s : GS} (h : s.kok = true) : ∀ k, s.kb k + 16 ≤ 16000000000 := by
  unfold GS.kok at h
  simp only [Bool.and_eq_true, decide_eq_true_eq] at h
  intro k
  rcases k with _ | _ | _ | k
  · simp [GS.kb]
  · exact h.1
  · exact h.2
  · simp [GS.kb]
theorem gs_good (j : Nat) (hj : j < 14) : Good (spaceC j) (gsp j) 7 := by
  have mk : ∀ (c : List Cel) (s : GS), c.length ≤ 7 → c.Pairwise (fun x y => x.id < y.id) → (∀ x ∈ c, (1 ≤ x.id ∧ x.id ≤ 14) ∧ (0 ≤ x.dim ∧ x.dim ≤ 3) ∧ Bd (2 ^ s.b x.dim.toNat) x.b ∧ Canon none x.b ∧ (∀ p ∈ x.b, p.1 ∈ cellsC c (x.dim - 1)) ∧ x.b.length ≤ 150 ∧ ∀ id, lin (fun i => lookL id (cellOf? c i).b) x.b = 0) →
      (∀ k : Nat, k ≤ 3 → (cellsC c k).length = s.n k) → Good c s 7 := fun c s h1 h2 h3 h4 =>
    ⟨h1, h2, fun x hx => by have := (h3 x hx).1; omega, fun x hx => (h3 x hx).2.1, h4, fun x hx => (h3 x hx).2.2.1, fun x hx => (h3 x hx).2.2.2.1, fun x hx => (h3 x hx).2.2.2.2.1, fun x hx => (h3 x hx).2.2.2.2.2.1, fun x hx => (h3 x hx).2.2.2.2.2.2⟩
  have hk4 : ∀ k : Nat, k ≤ 3 → k = 0 ∨ k = 1 ∨ k = 2 ∨ k = 3 := fun k h => by omega
  have cases14 : j = 0 ∨ j = 1 ∨ j = 2 ∨ j = 3 ∨ j = 4 ∨ j = 5 ∨ j = 6 ∨ j = 7 ∨ j = 8 ∨ j = 9 ∨ j = 10 ∨ j = 11 ∨ j = 12 ∨ j = 13 := by omega
  rcases cases14 with rfl | rfl | rfl | rfl | rfl | rfl | rfl | rfl | rfl | rfl | rfl | rfl | rfl | rfl
  all_goals
    refine mk _ _ (by decide) (by simp [spaceC, sp0]) ?_ (fun k hk => by rcases hk4 k hk with rfl | rfl | rfl | rfl <;> rfl)
    intro x hx
    simp only [spaceC, sp0, List.cons_append, List.nil_append, List.mem_cons, List.not_mem_nil, or_false, false_or] at hx
  all_goals
    first
    | (rcases hx with rfl | rfl | rfl | rfl | rfl | rfl | rfl <;> (refine ⟨by decide, by decide, ?_, ?_, ?_, by decide, ?_⟩ <;> simp [Bd, Canon, gsp, GS.b, spaceC, sp0, cellsC, lin, cellOf?, findC, zC, lookL] <;> (try (intro id; repeat' split)) <;> (try omega)))
    | (rcases hx with rfl | rfl | rfl | rfl | rfl | rfl <;> (refine ⟨by decide, by decide, ?_, ?_, ?_, by decide, ?_⟩ <;> simp [Bd, Canon, gsp, GS.b, spaceC, sp0, cellsC, lin, cellOf?, findC, zC, lookL] <;> (try (intro id; repeat' split)) <;> (try omega)))
    | (rcases hx with rfl | rfl | rfl | rfl | rfl <;> (refine ⟨by decide, by decide, ?_, ?_, ?_, by decide, ?_⟩ <;> simp [Bd, Canon, gsp, GS.b, spaceC, sp0, cellsC, lin, cellOf?, findC, zC, lookL] <;> (try (intro id; repeat' split)) <;> (try omega)))
    | (rcases hx with rfl | rfl | rfl | rfl <;> (refine ⟨by decide, by decide, ?_, ?_, ?_, by decide, ?_⟩ <;> simp [Bd, Canon, gsp, GS.b, spaceC, sp0, cellsC, lin, cellOf?, findC, zC, lookL] <;> (try (intro id; repeat' split)) <;> (try omega)))
    | (rcases hx with rfl | rfl | rfl <;> (refine ⟨by decide, by decide, ?_, ?_, ?_, by decide, ?_⟩ <;> simp [Bd, Canon, gsp, GS.b, spaceC, sp0, cellsC, lin, cellOf?, findC, zC, lookL] <;> (try (intro id; repeat' split)) <;> (try omega)))
    | (rcases hx with rfl | rfl <;> (refine ⟨by decide, by decide, ?_, ?_, ?_, by decide, ?_⟩ <;> simp [Bd, Canon, gsp, GS.b, spaceC, sp0, cellsC, lin, cellOf?, findC, zC, lookL] <;> (try (intro id; repeat' split)) <;> (try omega)))
    | (rcases hx with rfl <;> (refine ⟨by decide, by decide, ?_, ?_, ?_, by decide, ?_⟩ <;> simp [Bd, Canon, gsp, GS.b, spaceC, sp0, cellsC, lin, cellOf?, findC, zC, lookL] <;> (try (intro id; repeat' split)) <;> (try omega)))
end Tor
namespace Tor
open Go
theorem gA_get {l : List Dg} {i : Nat} (h : i < l.length) : (l.map gA)[i]? = some (gA l[i]) := by simp [h]
theorem refs_gA : ∀ l : List Dg, AV.hasRefs (l.map gA) = false
  | [] => rfl
  | x :: r => by simp only [List.map_cons, AV.hasRefs, gA, AV.hasRef, refs_gA r, Bool.or_self]
def mdst (k : Int) (ds : List Dg) (c : List Cel) (i : Int) (w4 : AV) : St :=
  { vars := [.agg [.int .u8 k, .isl (ds.map gA)], .isl [], .isl (c.map cA), .int .i64 i, w4, .agg [.int .u8 k, .isl (ds.map gA)]], heap := [], rs := false }
variable {E : CallF} (hE : Free E)
include hE
theorem made26_loop (k : Int) (ds : List Dg) (hds : ∀ x ∈ ds, x.ok) : ∀ (n i : Nat) (c : List Cel) (s : GS), 4 = i + n → okT n s = true → Good c s (7 + i) →
    ∃ c' s' m' j, Good c' s' m' ∧ m' ≤ 11 ∧ s'.fin = true ∧ run E GP a1l0 (mdst k ds c i .u) = some (.exit 0, mdst k ds c' j (.bool false)) := by
  intro n
  induction n with
  | zero =>
    intro i c s h4 hok hg
    have hi : i = 4 := by omega
    subst hi
    refine ⟨c, s, 11, 4, hg, Nat.le_refl _, hok, ?_⟩
    unfold mdst
    rw [a1l0_run]
    by_cases hl : (4 : Int) < (ds.length : Int)
    · simp (maxSteps := 1000000) only [si, simprocAttr, a1b0, a1R, hl]
    · simp (maxSteps := 1000000) only [si, simprocAttr, a1b0, a1R, hl]
  | succ n ih =>
    intro i c s h4 hok hg
    rw [okT] at hok
    simp only [Bool.and_eq_true] at hok
    obtain ⟨f1, f2, o0, o1, o2, o3⟩ := hok
    by_cases hl : (i : Int) < (ds.length : Int)
    · have hlt : i < ds.length := by omega
      have g1 := gA_get hlt
      obtain ⟨c2, q1, q2⟩ := good_grow hE hg (by omega) (by omega) (kok_all f2) ds[i] (hds _ (List.getElem_mem hlt))
      have hok2 : okT n (s.grow (gDim ds[i]).toNat) = true := by
        have hu := u8w ds[i].a
        have td1 := Int.tmod_lt_of_pos (IntKind.u8.wrap ds[i].a) (show (0 : Int) < 4 by omega)
        have td2 := Int.tmod_nonneg 4 hu.1
        have : (gDim ds[i]).toNat = 0 ∨ (gDim ds[i]).toNat = 1 ∨ (gDim ds[i]).toNat = 2 ∨ (gDim ds[i]).toNat = 3 := by unfold gDim; omega
        rcases this with h | h | h | h <;> rw [h] <;> assumption
      obtain ⟨c', s', m', j, r1, r2, r3, r4⟩ := ih (i + 1) c2 _ (by omega) hok2 q1
      refine ⟨c', s', m', j, r1, r2, r3, ?_⟩
      rw [← r4]
      have wi : IntKind.i64.wrap ((i : Int) + 1) = ((i + 1 : Nat) : Int) := i64a (by omega)
      have k4 : (i : Int) < 4 := by omega
      have hr := refs_gA ds
      have hrc := refs_cA c2
      rw [show gA ds[i] = .agg [.int .i8 ds[i].a, .int .i8 ds[i].b, .int .i8 ds[i].c, .int .i8 ds[i].d] from rfl] at g1 q2
      unfold mdst
      conv => lhs; rw [a1l0_run]
      simp (maxSteps := 1000000) only [si, simprocAttr, a1b0, a1R, hl, k4, g1, q2, wi, hr, hrc]
    · refine ⟨c, s, 7 + i, i, hg, by omega, f1, ?_⟩
      unfold mdst
      rw [a1l0_run]
      simp (maxSteps := 1000000) only [si, simprocAttr, a1b0, a1R, hl]
omit hE in
theorem r26_made (k : Nat) (hk : k < 256) (ds : List Dg) (hds : ∀ x ∈ ds, x.ok) :
    ∃ c s m, Good c s m ∧ m ≤ 11 ∧ s.fin = true ∧ ∀ H, call E1 GP 1 [.agg [.int .u8 k, .isl (ds.map gA)]] H = some (.isl (c.map cA), H, false) := by
  have hj : k % 14 < 14 := Nat.mod_lt _ (by decide)
  have hok := List.all_eq_true.1 ok_all (k % 14) (List.mem_range.2 hj)
  obtain ⟨c, s, m, j, r1, r2, r3, r4⟩ := made26_loop free1 (k : Int) ds hds 4 0 _ _ (by omega) hok (gs_good _ hj)
  refine ⟨c, s, m, r1, r2, r3, fun H => ?_⟩
  rw [call_fun (by rfl) (f := a1) rfl rfl]
  have hsp := fun H => r26_space k hk H
  have hr := refs_gA ds
  have hr0 := refs_cA (spaceC (k % 14))
  have hrc := refs_cA c
  have hsc := solids_cA c
  have hz : ∀ n H, (c.map cA).map (fz n H 7) = c.map cA := fun n H => by
    rw [List.map_map]; apply List.map_congr_left; intro y _; exact fz_cA n H 1 y
  unfold mdst at r4
  simp only [Int.ofNat_zero] at r4
  simp (maxSteps := 1000000) only [si, simprocAttr, a1, a1R, hsp, hr, hr0, r4, hrc, hsc, hz]
end Tor
namespace Tor
open Go
variable {E : CallF} (hE : Free E)
include hE
theorem c_place1 (x : Cel) (id : Int) (H : Heap) : call E GP 77 [.agg [.int .i64 x.id, .int .i64 x.dim, .isl (x.b.map fA)], .int .i64 id] H = some (.int .i64 (cmp3 x.id id), H, false) := by
  rw [call_fun (hE _ _ _ (by decide)) (f := a77) rfl rfl]
  have h1 := c_cmp64 hE x.id id
  have h2 := refs_fA x.b
  simp (maxSteps := 1000000) only [si, simprocAttr, a77, a77R, h1, h2]
theorem bs_loop (c : List Cel) (id : Int) (hc : c.length < 2147483648) (hs : c.Pairwise (fun x y => x.id < y.id)) (H : Heap) (b : Bool) : ∀ (n i j : Nat), j - i < n → i ≤ j → j ≤ c.length →
    (∀ a, a < i → (c.getD a zC).id < id) → (∀ a, j ≤ a → a < c.length → id ≤ (c.getD a zC).id) →
    ∃ p : Nat, p ≤ c.length ∧ (∀ a, a < p → (c.getD a zC).id < id) ∧ (∀ a, p ≤ a → a < c.length → id ≤ (c.getD a zC).id) ∧
      run E GP a78l0 { vars := [.isl (c.map cA), .int .i64 id, .fn 77 [], .int .i64 0, .bool false, .int .i64 c.length, .int .i64 i, .int .i64 j, .u, .u, .u], heap := H, rs := b } =
        some (.exit 0, { vars := [.isl (c.map cA), .int .i64 id, .fn 77 [], .int .i64 0, .bool false, .int .i64 c.length, .int .i64 p, .int .i64 p, .u, .bool false, .u], heap := H, rs := b }) := by
  intro n
  induction n with
  | zero => intro i j h; omega
  | succ n ih =>
    intro i j h hij hj h1 h2
    by_cases hlt : i < j
    · have k1 : (i : Int) < (j : Int) := by omega
      have w1 : IntKind.i64.wrap ((i : Int) + (j : Int)) = ((i + j : Nat) : Int) := by rw [i64w (by omega)]; omega
      have w2 : IntKind.u64.wrap ((i + j : Nat) : Int) = ((i + j : Nat) : Int) := by
        simp [IntKind.wrap, IntKind.bits, IntKind.signed]; omega
      have w3 : ((i + j : Nat) : Int).fdiv (2 ^ Nat.min 1 IntKind.u64.bits) = (((i + j) / 2 : Nat) : Int) := by
        rw [show (2 : Int) ^ Nat.min 1 IntKind.u64.bits = 2 from rfl, Int.fdiv_eq_ediv_of_nonneg _ (by decide)]; rfl
      have hh : (i + j) / 2 < c.length := by omega
      have w4 : IntKind.i64.wrap (((i + j) / 2 : Nat) : Int) = (((i + j) / 2 : Nat) : Int) := i64w (by omega)
      have w5 : IntKind.i64.wrap ((((i + j) / 2 : Nat) : Int) + 1) = (((i + j) / 2 + 1 : Nat) : Int) := i64a (by omega)
      have e0 : c.getD ((i + j) / 2) zC = c[(i + j) / 2] := by simp [List.getD, hh]
      have g1 := cA_get hh
      have hp := fun H => c_place1 hE c[(i + j) / 2] id H
      have hrc := refs_cA c
      have htk : List.take H.length H = H := List.take_length
      have hsort : ∀ a b, a < b → b < c.length → (c.getD a zC).id < (c.getD b zC).id := fun a b hab hb => by
        have := List.pairwise_iff_getElem.1 hs a b (by omega) hb hab
        simpa [List.getD, show a < c.length by omega, hb] using this
      by_cases hlow : c[(i + j) / 2].id < id
      · have hc3 : cmp3 c[(i + j) / 2].id id < 0 := by unfold cmp3; rw [if_pos hlow]; decide
        obtain ⟨p, p1, p2, p3, p4⟩ := ih ((i + j) / 2 + 1) j (by omega) (by omega) hj (fun a ha => by
          rcases Nat.lt_or_ge a ((i + j) / 2) with h | h
          · have := hsort a _ h hh; rw [e0] at this; omega
          · have : a = (i + j) / 2 := by omega
            subst this; rw [e0]; exact hlow) h2
        refine ⟨p, p1, p2, p3, ?_⟩
        rw [← p4]
        generalize (i + j) / 2 = q at *
        generalize c[q] = x at *
        conv => lhs; rw [a78l0_run]
        simp (maxSteps := 1000000) only [si, simprocAttr, a78b0, a78R, k1, w1, w2, w3, w4, w5, g1, hp, hrc, htk, hc3]
      · have hc3 : ¬ cmp3 c[(i + j) / 2].id id < 0 := by unfold cmp3; rw [if_neg hlow]; split <;> decide
        obtain ⟨p, p1, p2, p3, p4⟩ := ih i ((i + j) / 2) (by omega) (by omega) (by omega) h1 (fun a ha ha2 => by
          rcases Nat.eq_or_lt_of_le ha with h | h
          · subst h; rw [e0]; omega
          · have := hsort _ a h ha2; rw [e0] at this; omega)
        refine ⟨p, p1, p2, p3, ?_⟩
        rw [← p4]
        generalize (i + j) / 2 = q at *
        generalize c[q] = x at *
        conv => lhs; rw [a78l0_run]
        simp (maxSteps := 1000000) only [si, simprocAttr, a78b0, a78R, k1, w1, w2, w3, w4, w5, g1, hp, hrc, htk, hc3]
    · have hij2 : i = j := by omega
      subst hij2
      have k1 : ¬ (i : Int) < (i : Int) := by omega
      refine ⟨i, hj, h1, h2, ?_⟩
      rw [a78l0_run]
      simp (maxSteps := 1000000) only [si, simprocAttr, a78b0, a78R, k1]
theorem c_search (c : List Cel) (id : Int) (hc : c.length < 2147483648) (hs : c.Pairwise (fun x y => x.id < y.id)) :
    ∃ p : Nat, p ≤ c.length ∧ (∀ a, a < p → (c.getD a zC).id < id) ∧ (∀ a, p ≤ a → a < c.length → id ≤ (c.getD a zC).id) ∧
      ∀ H, call E GP 78 [.isl (c.map cA), .int .i64 id, .fn 77 []] H = some (.tup [.int .i64 p, .bool (decide (p < c.length ∧ (c.getD p zC).id = id))], H, false) := by
  obtain ⟨p, p1, p2, p3, _⟩ := bs_loop hE c id hc hs [] false (c.length + 1) 0 c.length (by omega) (by omega) (Nat.le_refl _) (fun a h => by omega) (fun a h h2 => by omega)
  have uni : ∀ q : Nat, q ≤ c.length → (∀ a, a < q → (c.getD a zC).id < id) → (∀ a, q ≤ a → a < c.length → id ≤ (c.getD a zC).id) → q = p := fun q q1 q2 q3 => by
    rcases Nat.lt_trichotomy p q with h | h | h
    · have a1 := q2 p h
      have a2 := p3 p (Nat.le_refl _) (by omega)
      omega
    · exact h.symm
    · have a1 := p2 q h
      have a2 := q3 q (Nat.le_refl _) (by omega)
      omega
  refine ⟨p, p1, p2, p3, fun H => ?_⟩
  obtain ⟨q, q1, q2, q3, hl⟩ := bs_loop hE c id hc hs H false (c.length + 1) 0 c.length (by omega) (by omega) (Nat.le_refl _) (fun a h => by omega) (fun a h h2 => by omega)
  have := uni q q1 q2 q3
  subst this
  rw [call_fun (hE _ _ _ (by decide)) (f := a78) rfl rfl]
  have hrc := refs_cA c
  simp only [Int.ofNat_zero] at hl
  have hmode : a78.mode = .shr := rfl
  by_cases hlt : q < c.length
  · have k1 : (q : Int) < (c.length : Int) := by omega
    have e0 : c.getD q zC = c[q] := by simp [List.getD, hlt]
    have g1 := cA_get hlt
    rw [e0]
    generalize c[q] = x at *
    have hp := fun H => c_place1 hE x id H
    have e1 : decide (q < c.length ∧ x.id = id) = decide (cmp3 x.id id = 0) := by
      by_cases h : x.id = id
      · have : cmp3 x.id id = 0 := by unfold cmp3; rw [if_neg (by omega), if_neg (by omega)]
        simp [h, hlt] at this ⊢; exact this
      · have := cmp3_ne h
        simp [h, this]
    rw [e1]
    simp (maxSteps := 1000000) only [hmode, si, simprocAttr, a78, a78R, hl, hrc, k1, g1, hp]
  · have k1 : ¬ (q : Int) < (c.length : Int) := by omega
    have e1 : decide (q < c.length ∧ (c.getD q zC).id = id) = false := by simp; intro h; omega
    rw [e1]
    simp (maxSteps := 1000000) only [hmode, si, simprocAttr, a78, a78R, hl, hrc, k1]
omit hE in
theorem find_pos {c : List Cel} {id : Int} (hs : c.Pairwise (fun x y => x.id < y.id)) {p : Nat} (h1 : p ≤ c.length) (h2 : ∀ a, a < p → (c.getD a zC).id < id) (h3 : ∀ a, p ≤ a → a < c.length → id ≤ (c.getD a zC).id) :
    findC c id = if p < c.length ∧ (c.getD p zC).id = id then some (c.getD p zC) else none := by
  split
  · rename_i h
    have e0 : c.getD p zC = c[p] := by simp [List.getD, h.1]
    rw [e0] at h ⊢
    have := find_mem hs (List.getElem_mem h.1)
    exact (congrArg (findC c) h.2).symm.trans this
  · rename_i h
    unfold findC
    rw [List.find?_eq_none]
    intro x hx hid
    simp only [decide_eq_true_eq] at hid
    obtain ⟨a, ha, rfl⟩ := List.mem_iff_getElem.1 hx
    have ea : c.getD a zC = c[a] := by simp [List.getD, ha]
    rcases Nat.lt_or_ge a p with h4 | h4
    · have := h2 a h4; rw [ea] at this; omega
    · rcases Nat.eq_or_lt_of_le h4 with h5 | h5
      · subst h5; exact h ⟨ha, by rw [ea]; exact hid⟩
      · have hp : p < c.length := by omega
        have ep : c.getD p zC = c[p] := by simp [List.getD, hp]
        have a1 := h3 p (Nat.le_refl _) hp
        have a2 := List.pairwise_iff_getElem.1 hs p a hp ha h5
        rw [ep] at a1
        omega
theorem c_find (c : List Cel) (id : Int) (hc : c.length < 2147483648) (hs : c.Pairwise (fun x y => x.id < y.id)) (H : Heap) :
    call E GP 50 [.isl (c.map cA), .int .i64 id] H = some (.tup [cA ((findC c id).getD zC), .bool (findC c id).isSome], H, false) := by
  obtain ⟨p, p1, p2, p3, p4⟩ := c_search hE c id hc hs
  rw [call_fun (hE _ _ _ (by decide)) (f := a50) rfl rfl]
  have hf := find_pos hs p1 p2 p3
  have hrc := refs_cA c
  have h65 : ∀ H, call E GP 65 [.isl (c.map cA), .int .i64 id] H = some (.tup [.int .i64 p, .bool (decide (p < c.length ∧ (c.getD p zC).id = id))], H, false) := fun H => by
    rw [call_fun (hE _ _ _ (by decide)) (f := a65) rfl rfl]
    simp (maxSteps := 1000000) only [si, simprocAttr, a65, a65R, hrc, p4]
  by_cases h : p < c.length ∧ (c.getD p zC).id = id
  · rw [if_pos h] at hf
    rw [hf]
    simp only [Option.getD_some, Option.isSome_some]
    have hd : decide (p < c.length ∧ (c.getD p zC).id = id) = true := decide_eq_true h
    rw [hd] at h65
    have g1 := cA_get h.1
    have e0 : c.getD p zC = c[p] := by simp [List.getD, h.1]
    rw [e0]
    generalize c[p] = x at *
    have r1 := refs_fA x.b
    have r2 := solids_fA x.b
    unfold cA at hrc h65 g1 ⊢
    simp (maxSteps := 1000000) only [si, simprocAttr, a50, a50R, hrc, h65, g1, r1, r2, fz_fAs]
  · rw [if_neg h] at hf
    rw [hf, Option.getD_none, Option.isSome_none, show cA zC = .agg [.int .i64 0, .int .i64 0, .isl []] from rfl]
    have hd : decide (p < c.length ∧ (c.getD p zC).id = id) = false := decide_eq_false h
    rw [hd] at h65
    simp (maxSteps := 1000000) only [si, simprocAttr, a50, a50R, hrc, h65]
end Tor
namespace Tor
open Go
variable {E : CallF} (hE : Free E)
include hE
theorem pcells_loop (c : List Cel) (k : Int) (hc : c.length < 2147483648) : ∀ (n i : Nat) (out : List Int), c.length = i + n → out.length ≤ i →
    run E GP a35l0 { vars := [.isl (c.map cA), .int .i64 k, .isl [], .sl 0 out.length 1 0 out.length, .isl (c.map cA), .int .i64 c.length, .int .i64 i, .u, .u, .u], heap := [.arr out.length 1 (out.map iA)], rs := false } =
      some (.exit 0, { vars := [.isl (c.map cA), .int .i64 k, .isl [], .sl 0 (out ++ cellsC (c.drop i) k).length 1 0 (out ++ cellsC (c.drop i) k).length, .isl (c.map cA), .int .i64 c.length, .int .i64 c.length, .bool false, .u, .u], heap := [.arr (out ++ cellsC (c.drop i) k).length 1 ((out ++ cellsC (c.drop i) k).map iA)], rs := false }) := by
  intro n
  induction n with
  | zero =>
    intro i out h ho
    have hi : i = c.length := by omega
    subst hi
    have k1 : ¬ (c.length : Int) < (c.length : Int) := by omega
    have e : out ++ cellsC (c.drop c.length) k = out := by simp [cellsC]
    rw [e, a35l0_run]
    simp (maxSteps := 1000000) only [si, simprocAttr, a35b0, a35R, k1]
  | succ n ih =>
    intro i out h ho
    have hi : i < c.length := by omega
    have k1 : (i : Int) < (c.length : Int) := by omega
    have wi : IntKind.i64.wrap ((i : Int) + 1) = ((i + 1 : Nat) : Int) := i64a (by omega)
    have g1 := cA_get hi
    have hm : out.length + 1 ≤ 4294967296 := by omega
    have hrc := refs_cA c
    have rb := refs_fA c[i].b
    by_cases he : c[i].dim = k
    · have hb : decide (c[i].dim = k) = true := decide_eq_true he
      have e : out ++ cellsC (c.drop i) k = (out ++ [c[i].id]) ++ cellsC (c.drop (i + 1)) k := by
        rw [List.drop_eq_getElem_cons hi]; unfold cellsC; rw [List.filter_cons_of_pos (by simpa using he)]; simp
      rw [e, ← ih (i + 1) (out ++ [c[i].id]) (by omega) (by simp; omega)]
      have el : (out ++ [c[i].id]).length = out.length + 1 := by simp
      have em : (out ++ [c[i].id]).map iA = out.map iA ++ [.int .i64 c[i].id] := by simp [iA]
      rw [el, em]
      conv => lhs; rw [a35l0_run]
      simp (maxSteps := 1000000) only [si, simprocAttr, a35b0, a35R, k1, g1, hb, wi, hm, hrc, rb, maxLenA]
    · have hb : decide (c[i].dim = k) = false := decide_eq_false he
      have e : out ++ cellsC (c.drop i) k = out ++ cellsC (c.drop (i + 1)) k := by
        rw [List.drop_eq_getElem_cons hi]; unfold cellsC; rw [List.filter_cons_of_neg (by simpa using he)]
      rw [e, ← ih (i + 1) out (by omega) (by omega)]
      conv => lhs; rw [a35l0_run]
      simp (maxSteps := 1000000) only [si, simprocAttr, a35b0, a35R, k1, g1, hb, wi, hm, hrc, rb, maxLenA]
theorem c_cells (c : List Cel) (k : Int) (hc : c.length < 2147483648) (H : Heap) :
    call E GP 35 [.isl (c.map cA), .int .i64 k] H = some (.isl ((cellsC c k).map iA), H, false) := by
  rw [call_fun (hE _ _ _ (by decide)) (f := a35) rfl rfl]
  have h1 := pcells_loop hE c k hc c.length 0 [] (by omega) (Nat.le_refl _)
  rw [List.drop_zero, List.nil_append] at h1
  have hrf := refs_cA c
  have hs := solids_iA (cellsC c k)
  have hr := refs_iA (cellsC c k)
  have ht : List.take (cellsC c k).length ((cellsC c k).map iA) = (cellsC c k).map iA := List.take_of_length_le (by simp)
  have hz : ∀ n H k', ((cellsC c k).map iA).map (fz n H (k' + 1)) = (cellsC c k).map iA := fun n H k' => fz_iA n H k' _
  have hz6 := fun n H => hz n H 6
  simp only [Int.ofNat_zero, List.length_nil, List.map_nil] at h1
  generalize cellsC c k = l at *
  simp (maxSteps := 1000000) only [si, simprocAttr, a35, a35R, hrf, h1, hs, hr, ht, hz6]
end Tor
namespace Tor
open Go
def lkH (fs : List Cel) (d : Int) : Heap := [.arr fs.length 3 (fs.map cA), .var (.int .i64 d)]
variable {E : CallF} (hE : Free E)
include hE
theorem c_look1 (fs : List Cel) (d : Int) (x : Cel) : call E GP 51 [.agg [.int .i64 x.id, .int .i64 x.dim, .isl (x.b.map fA)], .ptr 1 0 []] (lkH fs d) = some (.bool (!decide (x.dim = d)), lkH fs d, false) := by
  rw [call_fun (hE _ _ _ (by decide)) (f := a51) rfl rfl]
  have hmode : a51.mode = .shr := rfl
  unfold lkH
  simp (maxSteps := 1000000) only [hmode, si, simprocAttr, a51, a51R, List.take]
theorem ix_loop (fs : List Cel) (d : Int) (hc : fs.length < 2147483648) : ∀ (n i : Nat), fs.length = i + n →
    ((∀ x ∈ fs.drop i, x.dim = d) → run E GP a66l0 { vars := [.sl 0 fs.length 3 0 fs.length, .fn 51 [.ptr 1 0 []], .int .i64 0, .u, .int .i64 fs.length, .int .i64 i, .u, .u], heap := lkH fs d, rs := false } =
      some (.exit 0, { vars := [.sl 0 fs.length 3 0 fs.length, .fn 51 [.ptr 1 0 []], .int .i64 0, .u, .int .i64 fs.length, .int .i64 fs.length, .bool false, .u], heap := lkH fs d, rs := false })) ∧
    (¬ (∀ x ∈ fs.drop i, x.dim = d) → ∃ j : Nat, run E GP a66l0 { vars := [.sl 0 fs.length 3 0 fs.length, .fn 51 [.ptr 1 0 []], .int .i64 0, .u, .int .i64 fs.length, .int .i64 i, .u, .u], heap := lkH fs d, rs := false } =
      some (.ret, { vars := [.sl 0 fs.length 3 0 fs.length, .fn 51 [.ptr 1 0 []], .int .i64 j, .int .i64 j, .int .i64 fs.length, .int .i64 j, .bool true, .bool true], heap := lkH fs d, rs := false })) := by
  intro n
  induction n with
  | zero =>
    intro i h
    have hi : i = fs.length := by omega
    subst hi
    have k1 : ¬ (fs.length : Int) < (fs.length : Int) := by omega
    refine ⟨fun _ => ?_, fun h => absurd (by simp) h⟩
    rw [a66l0_run]
    simp (maxSteps := 1000000) only [si, simprocAttr, a66b0, a66R, k1]
  | succ n ih =>
    intro i h
    have hi : i < fs.length := by omega
    have k1 : (i : Int) < (fs.length : Int) := by omega
    have wi : IntKind.i64.wrap ((i : Int) + 1) = ((i + 1 : Nat) : Int) := i64a (by omega)
    have g1 := cA_get hi
    have h51 := c_look1 hE fs d fs[i]
    have rb := refs_fA fs[i].b
    obtain ⟨i1, i2⟩ := ih (i + 1) (by omega)
    rw [List.drop_eq_getElem_cons hi]
    by_cases he : fs[i].dim = d
    · have hst : run E GP a66l0 { vars := [.sl 0 fs.length 3 0 fs.length, .fn 51 [.ptr 1 0 []], .int .i64 0, .u, .int .i64 fs.length, .int .i64 i, .u, .u], heap := lkH fs d, rs := false } =
          run E GP a66l0 { vars := [.sl 0 fs.length 3 0 fs.length, .fn 51 [.ptr 1 0 []], .int .i64 0, .u, .int .i64 fs.length, .int .i64 (i + 1 : Nat), .u, .u], heap := lkH fs d, rs := false } := by
        have hb : (!decide (fs[i].dim = d)) = false := by simp [he]
        rw [hb] at h51
        unfold lkH at h51 ⊢
        conv => lhs; rw [a66l0_run]
        simp (maxSteps := 1000000) only [si, simprocAttr, a66b0, a66R, k1, wi, g1, h51, rb, List.take]
      rw [hst]
      refine ⟨fun hall => i1 fun x hx => hall x (.tail _ hx), fun hn => i2 fun hall => hn fun x hx => ?_⟩
      cases hx with
      | head => exact he
      | tail _ hx => exact hall x hx
    · refine ⟨fun hall => absurd (hall _ (.head _)) he, fun _ => ⟨i, ?_⟩⟩
      have hb : (!decide (fs[i].dim = d)) = true := by simp [he]
      rw [hb] at h51
      unfold lkH at h51 ⊢
      rw [a66l0_run]
      simp (maxSteps := 1000000) only [si, simprocAttr, a66b0, a66R, k1, wi, g1, h51, rb, List.take]
theorem c_contains (fs : List Cel) (d : Int) (hc : fs.length < 2147483648) :
    call E GP 52 [.sl 0 fs.length 3 0 fs.length, .fn 51 [.ptr 1 0 []]] (lkH fs d) = some (.bool (decide (¬ ∀ x ∈ fs, x.dim = d)), lkH fs d, false) := by
  rw [call_fun (hE _ _ _ (by decide)) (f := a52) rfl rfl]
  have hmode : a52.mode = .shr := rfl
  obtain ⟨h1, h2⟩ := ix_loop hE fs d hc fs.length 0 (by omega)
  rw [List.drop_zero] at h1 h2
  simp only [Int.ofNat_zero] at h1 h2
  have hmode6 : a66.mode = .shr := rfl
  by_cases h : ∀ x ∈ fs, x.dim = d
  · have h66 : call E GP 66 [.sl 0 fs.length 3 0 fs.length, .fn 51 [.ptr 1 0 []]] (lkH fs d) = some (.int .i64 (-1), lkH fs d, false) := by
      rw [call_fun (hE _ _ _ (by decide)) (f := a66) rfl rfl]
      have h1 := h1 h
      unfold lkH at h1 ⊢
      simp (maxSteps := 1000000) only [hmode6, si, simprocAttr, a66, a66R, h1, List.take]
    have hd : decide (¬ ∀ x ∈ fs, x.dim = d) = false := by simpa using h
    rw [hd]
    unfold lkH at h66 ⊢
    simp (maxSteps := 1000000) only [hmode, si, simprocAttr, a52, a52R, h66, List.take]
  · obtain ⟨j, h2⟩ := h2 h
    have h66 : call E GP 66 [.sl 0 fs.length 3 0 fs.length, .fn 51 [.ptr 1 0 []]] (lkH fs d) = some (.int .i64 j, lkH fs d, false) := by
      rw [call_fun (hE _ _ _ (by decide)) (f := a66) rfl rfl]
      unfold lkH at h2 ⊢
      simp (maxSteps := 1000000) only [hmode6, si, simprocAttr, a66, a66R, h2, List.take]
    have hd : decide (¬ ∀ x ∈ fs, x.dim = d) = true := by simpa using h
    rw [hd]
    have hj : (j : Int) ≥ 0 := by omega
    unfold lkH at h66 ⊢
    simp (maxSteps := 1000000) only [hmode, si, simprocAttr, a52, a52R, h66, hj, List.take]
omit hE in
theorem headSize_cA (l : List Cel) : headSize 3 (l.map cA) = true := by cases l <;> rfl
theorem look_loop (c : List Cel) (x : List (Int × Int)) (hc : c.length < 2147483648) (hs : c.Pairwise (fun x y => x.id < y.id)) (hx : x.length < 2147483648) : ∀ (n i : Nat) (out : List Cel), x.length = i + n → out.length = i →
    ((∀ p ∈ x.drop i, (findC c p.1).isSome = true) → run E GP a30l0 { vars := [.isl (c.map cA), .isl (x.map fA), .isl [], .int .i64 0, .int .i64 0, .sl 0 out.length 3 0 out.length, .u, .u, .isl (x.map fA), .int .i64 x.length, .int .i64 i, .u, .u, .u, .u, .u, .u], heap := [.arr out.length 3 (out.map cA)], rs := false } =
      some (.exit 0, { vars := [.isl (c.map cA), .isl (x.map fA), .isl [], .int .i64 0, .int .i64 0, .sl 0 x.length 3 0 x.length, .u, .u, .isl (x.map fA), .int .i64 x.length, .int .i64 x.length, .bool false, .u, .u, .u, .u, .u], heap := [.arr x.length 3 ((out ++ (x.drop i).map (fun p => cellOf? c p.1)).map cA)], rs := false })) ∧
    (¬ (∀ p ∈ x.drop i, (findC c p.1).isSome = true) → ∃ v5 v10 v15 v16 H', run E GP a30l0 { vars := [.isl (c.map cA), .isl (x.map fA), .isl [], .int .i64 0, .int .i64 0, .sl 0 out.length 3 0 out.length, .u, .u, .isl (x.map fA), .int .i64 x.length, .int .i64 i, .u, .u, .u, .u, .u, .u], heap := [.arr out.length 3 (out.map cA)], rs := false } =
      some (.ret, { vars := [.isl (c.map cA), .isl (x.map fA), .isl [], .int .i64 0, .int .i64 250, v5, .bool false, .u, .isl (x.map fA), .int .i64 x.length, v10, .bool true, .bool true, .u, .u, v15, v16], heap := H', rs := false })) := by
  intro n
  induction n with
  | zero =>
    intro i out h ho
    have hi : i = x.length := by omega
    subst hi
    have k1 : ¬ (x.length : Int) < (x.length : Int) := by omega
    refine ⟨fun _ => ?_, fun h => absurd (by simp) h⟩
    rw [List.drop_length, List.map_nil, List.append_nil, a30l0_run, ho]
    simp (maxSteps := 1000000) only [si, simprocAttr, a30b0, a30R, k1]
  | succ n ih =>
    intro i out h ho
    have hi : i < x.length := by omega
    have k1 : (i : Int) < (x.length : Int) := by omega
    have wi : IntKind.i64.wrap ((i : Int) + 1) = ((i + 1 : Nat) : Int) := i64a (by omega)
    have g1 := fA_get hi
    have hm : out.length + 1 ≤ 4294967296 := by omega
    have hf := fun H => c_find hE c x[i].1 hc hs H
    have hrc := refs_cA c
    have hrx := refs_fA x
    have hhs := headSize_cA out
    rw [show (findC c x[i].1).getD zC = cellOf? c x[i].1 from rfl] at hf
    obtain ⟨i1, i2⟩ := ih (i + 1) (out ++ [cellOf? c x[i].1]) (by omega) (by simp [ho])
    rw [List.drop_eq_getElem_cons hi]
    by_cases he : (findC c x[i].1).isSome = true
    · have e3 : out ++ (x[i] :: x.drop (i + 1)).map (fun p => cellOf? c p.1) = (out ++ [cellOf? c x[i].1]) ++ (x.drop (i + 1)).map (fun p => cellOf? c p.1) := by rw [List.map_cons, List.append_assoc]; rfl
      rw [e3]
      rw [he] at hf
      generalize cellOf? c x[i].1 = f at *
      have hst : run E GP a30l0 { vars := [.isl (c.map cA), .isl (x.map fA), .isl [], .int .i64 0, .int .i64 0, .sl 0 out.length 3 0 out.length, .u, .u, .isl (x.map fA), .int .i64 x.length, .int .i64 i, .u, .u, .u, .u, .u, .u], heap := [.arr out.length 3 (out.map cA)], rs := false } =
          run E GP a30l0 { vars := [.isl (c.map cA), .isl (x.map fA), .isl [], .int .i64 0, .int .i64 0, .sl 0 (out ++ [f]).length 3 0 (out ++ [f]).length, .u, .u, .isl (x.map fA), .int .i64 x.length, .int .i64 (i + 1 : Nat), .u, .u, .u, .u, .u, .u], heap := [.arr (out ++ [f]).length 3 ((out ++ [f]).map cA)], rs := false } := by
        have el : (out ++ [f]).length = out.length + 1 := by simp
        have em : (out ++ [f]).map cA = out.map cA ++ [.agg [.int .i64 f.id, .int .i64 f.dim, .isl (f.b.map fA)]] := by simp [cA]
        rw [el, em]
        have rb := refs_fA f.b
        rw [show cA f = .agg [.int .i64 f.id, .int .i64 f.dim, .isl (f.b.map fA)] from rfl] at hf
        conv => lhs; rw [a30l0_run]
        simp (maxSteps := 1000000) only [si, simprocAttr, a30b0, a30R, k1, wi, g1, hf, hm, hrc, hrx, rb, hhs, maxLenA]
      rw [hst]
      refine ⟨fun hall => i1 fun p hp => hall p (.tail _ hp), fun hn => i2 fun hall => hn fun p hp => ?_⟩
      cases hp with
      | head => exact he
      | tail _ hp => exact hall p hp
    · refine ⟨fun hall => absurd (hall _ (.head _)) he, fun _ => ?_⟩
      have hn : (findC c x[i].1).isSome = false := by simpa using he
      rw [hn] at hf
      generalize cellOf? c x[i].1 = f at *
      have rb := refs_fA f.b
      rw [show cA f = .agg [.int .i64 f.id, .int .i64 f.dim, .isl (f.b.map fA)] from rfl] at hf
      rw [a30l0_run]
      simp (maxSteps := 1000000) only [si, simprocAttr, a30b0, a30R, k1, wi, g1, hf, hm, hrc, hrx, rb, maxLenA]
      exact ⟨_, _, _, _, _, rfl⟩
def fsOf (c : List Cel) (x : List (Int × Int)) : List Cel := x.map fun p => cellOf? c p.1
def lookP (c : List Cel) (x : List (Int × Int)) : List Cel × Int × Int :=
  if ¬ (∀ p ∈ x, (findC c p.1).isSome = true) then ([], 0, 250)
  else if x = [] then ([], -1, 0)
  else if ¬ (∀ f ∈ fsOf c x, f.dim = ((fsOf c x).getD 0 zC).dim) then ([], 0, 260)
  else (fsOf c x, ((fsOf c x).getD 0 zC).dim, 0)
theorem c_look (c : List Cel) (x : List (Int × Int)) (hc : c.length < 2147483648) (hs : c.Pairwise (fun x y => x.id < y.id)) (hx : x.length < 2147483648) (H : Heap) :
    call E GP 30 [.isl (c.map cA), .isl (x.map fA)] H = some (.tup [.isl ((lookP c x).1.map cA), .int .i64 (lookP c x).2.1, .int .i64 (lookP c x).2.2], H, false) := by
  rw [call_fun (hE _ _ _ (by decide)) (f := a30) rfl rfl]
  obtain ⟨h1, h2⟩ := look_loop hE c x hc hs hx x.length 0 [] (by omega) rfl
  rw [List.drop_zero] at h1 h2
  simp only [List.length_nil, List.map_nil, List.nil_append, Int.ofNat_zero] at h1 h2
  have hrc := refs_cA c
  have hrx := refs_fA x
  unfold lookP
  by_cases ha : ∀ p ∈ x, (findC c p.1).isSome = true
  · rw [if_neg (fun h => h ha)]
    have h1 := h1 ha
    rw [show x.map (fun p => cellOf? c p.1) = fsOf c x from rfl] at h1
    by_cases h0 : x = []
    · subst h0
      rw [if_pos rfl]
      simp only [fsOf, List.map_nil, List.length_nil, Int.ofNat_zero] at h1 hrx ⊢
      simp (maxSteps := 1000000) only [si, simprocAttr, a30, a30R, hrc, h1, List.length_nil]
    · rw [if_neg h0]
      have hpos : 0 < x.length := List.length_pos_iff.2 h0
      have hlen : (fsOf c x).length = x.length := by simp [fsOf]
      have hne : ¬ (x.length : Int) = 0 := by omega
      have hfl : 0 < (fsOf c x).length := by omega
      have g0 := cA_get hfl
      have e0 : (fsOf c x).getD 0 zC = (fsOf c x)[0] := by simp [List.getD, hfl]
      rw [e0]
      have hcon := c_contains hE (fsOf c x) (fsOf c x)[0].dim (by omega)
      have k0 : (0 : Int) < (x.length : Int) := by omega
      have hrf := refs_cA (fsOf c x)
      have hsf := solids_cA (fsOf c x)
      have hz : ∀ n H, ((fsOf c x).map cA).map (fz n H 6) = (fsOf c x).map cA := fun n H => by
        rw [List.map_map]; apply List.map_congr_left; intro y _; exact fz_cA n H 0 y
      have htk : List.take x.length ((fsOf c x).map cA) = (fsOf c x).map cA := List.take_of_length_le (by simp [hlen])
      unfold lkH at hcon
      rw [hlen] at hcon
      have hle : x.length ≤ (fsOf c x).length := by omega
      generalize (fsOf c x)[0] = f0 at *
      by_cases hd : ∀ f ∈ fsOf c x, f.dim = f0.dim
      · rw [if_neg (fun h => h hd)]
        rw [show decide (¬ ∀ x_1 ∈ fsOf c x, x_1.dim = f0.dim) = false by simpa using hd] at hcon
        generalize fsOf c x = fs at *
        simp (maxSteps := 1000000) only [si, simprocAttr, a30, a30R, hrc, hrx, h1, g0, hcon, hne, k0, hrf, hsf, hz, htk, hle, List.take]
      · rw [if_pos hd]
        rw [show decide (¬ ∀ x_1 ∈ fsOf c x, x_1.dim = f0.dim) = true by simpa using hd] at hcon
        generalize fsOf c x = fs at *
        simp (maxSteps := 1000000) only [si, simprocAttr, a30, a30R, hrc, hrx, h1, g0, hcon, hne, k0, List.take, List.map_nil]
  · rw [if_pos ha]
    obtain ⟨v5, v10, v15, v16, H', h2⟩ := h2 ha
    simp (maxSteps := 1000000) only [si, simprocAttr, a30, a30R, hrc, hrx, h2, List.map_nil]
end Tor
namespace Tor
open Go
theorem dim_all (c : List Cel) (D : Int) : ∀ (r : List (Int × Int)) (fst : Bool) (d : Int) (m : Bool), (∀ p ∈ r, (findC c p.1).isSome = true) → (∀ p ∈ r, (cellOf? c p.1).dim = D) → (fst = true ∨ d = D) →
    dimGo c r fst d m = some (if r = [] then d else D, m)
  | [], fst, d, m, _, _, _ => rfl
  | p :: r, fst, d, m, h1, h2, h3 => by
    rw [dimGo, if_pos (h1 p (.head _)), h2 p (.head _)]
    have e : (m || (!fst && !decide (D = d))) = m := by
      rcases h3 with h | h
      · subst h; simp
      · subst h; simp
    rw [e, dim_all c D r false D m (fun q hq => h1 q (.tail _ hq)) (fun q hq => h2 q (.tail _ hq)) (.inr rfl)]
    simp
theorem dim_mixed (c : List Cel) : ∀ (r : List (Int × Int)) (fst : Bool) (d : Int), (∀ p ∈ r, (findC c p.1).isSome = true) → ∃ d', dimGo c r fst d true = some (d', true)
  | [], fst, d, _ => ⟨d, rfl⟩
  | p :: r, fst, d, h => by
    rw [dimGo, if_pos (h p (.head _)), Bool.true_or]
    exact dim_mixed c r _ _ (fun q hq => h q (.tail _ hq))
theorem dim_mix (c : List Cel) (D : Int) : ∀ (r : List (Int × Int)), (∀ p ∈ r, (findC c p.1).isSome = true) → ¬ (∀ p ∈ r, (cellOf? c p.1).dim = D) → ∃ d', dimGo c r false D false = some (d', true)
  | [], _, h => absurd (by simp) h
  | p :: r, h1, h2 => by
    rw [dimGo, if_pos (h1 p (.head _))]
    by_cases e : (cellOf? c p.1).dim = D
    · rw [e]
      have e2 : (false || (!false && !decide (D = D))) = false := by simp
      rw [e2]
      exact dim_mix c D r (fun q hq => h1 q (.tail _ hq)) (fun h => h2 fun q hq => by
        cases hq with
        | head => exact e
        | tail _ hq => exact h q hq)
    · have e2 : (false || (!false && !decide ((cellOf? c p.1).dim = D))) = true := by simp [e]
      rw [e2]
      exact dim_mixed c r _ _ (fun q hq => h1 q (.tail _ hq))
theorem dim_none (c : List Cel) : ∀ (r : List (Int × Int)) (fst : Bool) (d : Int) (m : Bool), ¬ (∀ p ∈ r, (findC c p.1).isSome = true) → dimGo c r fst d m = none
  | [], _, _, _, h => absurd (by simp) h
  | p :: r, fst, d, m, h => by
    rw [dimGo]
    by_cases e : (findC c p.1).isSome = true
    · rw [if_pos e]
      exact dim_none c r _ _ _ (fun h2 => h fun q hq => by
        cases hq with
        | head => exact e
        | tail _ hq => exact h2 q hq)
    · rw [if_neg e]
theorem look_dim (c : List Cel) (x : List (Int × Int)) : (lookP c x).2 = dim26 c x := by
  unfold lookP dim26
  by_cases ha : ∀ p ∈ x, (findC c p.1).isSome = true
  · rw [if_neg (fun h => h ha)]
    cases x with
    | nil => rfl
    | cons p r =>
      rw [if_neg (by simp)]
      have e0 : ((fsOf c (p :: r)).getD 0 zC).dim = (cellOf? c p.1).dim := rfl
      rw [e0]
      have hall : (∀ f ∈ fsOf c (p :: r), f.dim = (cellOf? c p.1).dim) ↔ ∀ q ∈ p :: r, (cellOf? c q.1).dim = (cellOf? c p.1).dim :=
        ⟨fun h q hq => h _ (List.mem_map_of_mem hq), fun h f hf => by obtain ⟨q, hq, rfl⟩ := List.mem_map.1 hf; exact h q hq⟩
      by_cases hd : ∀ q ∈ p :: r, (cellOf? c q.1).dim = (cellOf? c p.1).dim
      · rw [if_neg (fun h => h (hall.2 hd)), dim_all c _ (p :: r) true (-1) false ha hd (.inl rfl), if_neg (by simp)]; rfl
      · rw [if_pos (fun h => hd (hall.1 h))]
        rw [dimGo, if_pos (ha p (.head _))]
        have e2 : (false || (!true && !decide ((cellOf? c p.1).dim = -1))) = false := by simp
        rw [e2]
        obtain ⟨d', h⟩ := dim_mix c _ r (fun q hq => ha q (.tail _ hq)) (fun h => hd fun q hq => by
          cases hq with
          | head => rfl
          | tail _ hq => exact h q hq)
        rw [h]; rfl
  · rw [if_pos ha, dim_none c x _ _ _ ha]; rfl
theorem look_fs (c : List Cel) (x : List (Int × Int)) (h : (dim26 c x).2 = 0) : (lookP c x).1 = fsOf c x := by
  rw [← look_dim] at h
  unfold lookP at h ⊢
  split
  · rename_i h1; rw [if_pos h1] at h; exact absurd h (by decide)
  · rename_i h1
    rw [if_neg h1] at h
    split
    · rename_i h2; subst h2; rfl
    · rename_i h2
      rw [if_neg h2] at h
      split
      · rename_i h3; rw [if_pos h3] at h; exact absurd h (by decide)
      · rfl
theorem sumsK_bd {N : Nat} (c : Int) : ∀ (l m : List (Int × Int)) (M : Nat), (∀ p ∈ l, (c * p.2).natAbs ≤ N) → Bd M m → Bd (M + N * l.length) (sumsK c l m)
  | [], m, M, _, h => by simpa [sumsK] using h
  | p :: r, m, M, hl, h => by
    have h1 := sadd_bd (k := p.1) (c := c * p.2) h (hl p (.head _))
    have := sumsK_bd c r _ _ (fun q hq => hl q (.tail _ hq)) h1
    rw [List.length_cons, Nat.mul_succ]
    refine bd_mono (by omega) this
def bndG (c : List Cel) (m : List (Int × Int)) (p : Int × Int) : List (Int × Int) := sumsK p.2 (cellOf? c p.1).b m
def bndS (c : List Cel) (x : List (Int × Int)) : List (Int × Int) := x.foldl (bndG c) []
variable {E : CallF} (hE : Free E)
include hE
theorem c_dim (c : List Cel) (x : List (Int × Int)) (hc : c.length < 2147483648) (hs : c.Pairwise (fun x y => x.id < y.id)) (hx : x.length < 2147483648) (H : Heap) :
    call E GP 4 [.isl (c.map cA), .isl (x.map fA)] H = some (.tup [.int .i64 (dim26 c x).1, .int .i64 (dim26 c x).2], H, false) := by
  rw [call_fun (hE _ _ _ (by decide)) (f := a4) rfl rfl]
  have hl := fun H => c_look hE c x hc hs hx H
  rw [look_dim] at hl
  have hrc := refs_cA c
  have hrx := refs_fA x
  have hrl := refs_cA (lookP c x).1
  generalize (lookP c x).1 = fs at *
  simp (maxSteps := 1000000) only [si, simprocAttr, a4, a4R, hrc, hrx, hrl, hl]
theorem pbnd_inner (c : List Cel) (x : List (Int × Int)) (fs : List Cel) (i : Nat) (hi : i < x.length) (f : Cel) (N : Nat) (hlen : f.b.length < 2147483647) (hc : Sm x[i]) (hsm : ∀ p ∈ f.b, Sm p) (hl : ∀ p ∈ f.b, (x[i].2 * p.2).natAbs ≤ N) (M : Nat) (hN : M + N * (f.b.length + 1) < BIG) : ∀ (k j : Nat) (m : List (Int × Int)), f.b.length = j + k → Bd (M + N * j) m →
    run E GP a6l1 { vars := [.isl (c.map cA), .isl (x.map fA), .isl [], .int .i64 0, .isl (fs.map cA), .int .i64 0, .mp 0, .int .i64 i, .bool false, .isl (fs.map cA), .int .i64 fs.length, .int .i64 i, .bool true, .isl (f.b.map fA), .int .i64 f.b.length, .int .i64 j, .u, .agg [.int .i64 f.id, .int .i64 f.dim, .isl (f.b.map fA)], .u], heap := [.map (kvM m)], rs := false } =
      some (.exit 2, { vars := [.isl (c.map cA), .isl (x.map fA), .isl [], .int .i64 0, .isl (fs.map cA), .int .i64 0, .mp 0, .int .i64 i, .bool false, .isl (fs.map cA), .int .i64 fs.length, .int .i64 i, .bool true, .isl (f.b.map fA), .int .i64 f.b.length, .int .i64 f.b.length, .bool false, .agg [.int .i64 f.id, .int .i64 f.dim, .isl (f.b.map fA)], .u], heap := [.map (kvM (sumsK x[i].2 (f.b.drop j) m))], rs := false }) := by
  intro k
  induction k with
  | zero =>
    intro j m h1 h2
    have hj : j = f.b.length := by omega
    subst hj
    have k1 : ¬ (f.b.length : Int) < (f.b.length : Int) := by omega
    rw [a6l1_run, List.drop_length]
    simp (maxSteps := 1000000) only [si, simprocAttr, a6b1, a6R, k1, sumsK, List.foldl_nil]
  | succ k ih =>
    intro j m h1 h2
    have hj : j < f.b.length := by omega
    have k1 : (j : Int) < (f.b.length : Int) := by omega
    have g1 := fA_get hj
    have g2 := fA_get hi
    have wi : IntKind.i64.wrap ((j : Int) + 1) = ((j + 1 : Nat) : Int) := i64a (by omega)
    have hd : f.b.drop j = f.b[j] :: f.b.drop (j + 1) := List.drop_eq_getElem_cons hj
    have hb := hl _ (List.getElem_mem hj)
    have hp := hsm _ (List.getElem_mem hj)
    have hNi : N * j ≤ N * (f.b.length + 1) := Nat.mul_le_mul_left _ (by omega)
    have hN1 : N * 1 ≤ N * (f.b.length + 1) := Nat.mul_le_mul_left _ (by omega)
    have hmul := fun H => i_mul hE x[i].2 f.b[j].2 H (by unfold Sm at hc; omega) (by unfold Sm at hp; omega)
    have hadd := c_sumadd hE m f.b[j].1 (x[i].2 * f.b[j].2) [.map (kvM m)] 0 rfl (sm_nat (N := M + N * j) (by omega) (lookL_bd m h2)) (sm_nat (N := N) (by omega) hb)
    have hacc : Bd (M + N * (j + 1)) (sadd m f.b[j].1 (x[i].2 * f.b[j].2)) := by
      rw [Nat.mul_succ, ← Nat.add_assoc]; exact sadd_bd h2 hb
    have hsum : sumsK x[i].2 (f.b.drop j) m = sumsK x[i].2 (f.b.drop (j + 1)) (sadd m f.b[j].1 (x[i].2 * f.b[j].2)) := by rw [hd]; rfl
    rw [hsum, ← ih (j + 1) _ (by omega) hacc]
    have hrc := refs_cA c
    have hrx := refs_fA x
    have hrf := refs_cA fs
    have hrb := refs_fA f.b
    conv => lhs; rw [a6l1_run]
    simp (maxSteps := 1000000) only [si, simprocAttr, a6b1, a6R, k1, g1, g2, wi, hmul, hadd, hrc, hrx, hrf, hrb]
theorem pbnd_loop (c : List Cel) (x : List (Int × Int)) (N L : Nat) (h : BndOk c x N L) : ∀ (k i : Nat) (m : List (Int × Int)), x.length = i + k → Bd (N * L * i) m →
    run E GP a6l0 { vars := [.isl (c.map cA), .isl (x.map fA), .isl [], .int .i64 0, .isl ((fsOf c x).map cA), .int .i64 0, .mp 0, .u, .bool false, .isl ((fsOf c x).map cA), .int .i64 (fsOf c x).length, .int .i64 i, .u, .u, .u, .u, .u, .u, .u], heap := [.map (kvM m)], rs := false } =
      some (.exit 0, { vars := [.isl (c.map cA), .isl (x.map fA), .isl [], .int .i64 0, .isl ((fsOf c x).map cA), .int .i64 0, .mp 0, .u, .bool false, .isl ((fsOf c x).map cA), .int .i64 (fsOf c x).length, .int .i64 x.length, .bool false, .u, .u, .u, .u, .u, .u], heap := [.map (kvM ((x.drop i).foldl (bndG c) m))], rs := false }) := by
  have hxl := h.xl
  have hfl : (fsOf c x).length = x.length := by simp [fsOf]
  intro k
  induction k with
  | zero =>
    intro i m h1 h2
    have hi : i = x.length := by omega
    subst hi
    have k1 : ¬ (x.length : Int) < ((fsOf c x).length : Int) := by omega
    rw [a6l0_run, List.drop_length]
    simp (maxSteps := 1000000) only [si, simprocAttr, a6b0, a6R, k1, List.foldl_nil]
  | succ k ih =>
    intro i m h1 h2
    have hi : i < x.length := by omega
    have hif : i < (fsOf c x).length := by omega
    have k1 : (i : Int) < ((fsOf c x).length : Int) := by omega
    have g1 := cA_get hif
    have ef : (fsOf c x)[i] = cellOf? c x[i].1 := by simp [fsOf]
    rw [ef] at g1
    have wi : IntKind.i64.wrap ((i : Int) + 1) = ((i + 1 : Nat) : Int) := i64a (by omega)
    have hm : x[i] ∈ x := List.getElem_mem hi
    have hl := h.ll _ hm
    have hlb := h.lb
    have hbig := h.big
    have e1 : N * L * i + N * ((cellOf? c x[i].1).b.length + 1) ≤ N * (L + 1) * (x.length + 1) := by
      have a1 : N * ((cellOf? c x[i].1).b.length + 1) ≤ N * (L + 1) := Nat.mul_le_mul_left _ (by omega)
      have a2 : N * L * i ≤ N * (L + 1) * x.length := Nat.mul_le_mul (Nat.mul_le_mul_left _ (by omega)) (by omega)
      have a3 : N * (L + 1) * (x.length + 1) = N * (L + 1) * x.length + N * (L + 1) := Nat.mul_succ _ _
      omega
    have hin := pbnd_inner hE c x (fsOf c x) i hi (cellOf? c x[i].1) N (by omega) (h.sx _ hm) (h.sb _ hm) (h.pr _ hm) (N * L * i) (by omega) (cellOf? c x[i].1).b.length 0 m (by omega) (by simpa using h2)
    rw [List.drop_zero] at hin
    have hbd := sumsK_bd x[i].2 (cellOf? c x[i].1).b m (N * L * i) (h.pr _ hm) h2
    have hsum : (x.drop i).foldl (bndG c) m = (x.drop (i + 1)).foldl (bndG c) (bndG c m x[i]) := by rw [List.drop_eq_getElem_cons hi]; rfl
    rw [hsum, ← ih (i + 1) (bndG c m x[i]) (by omega) (bd_mono (by
      have : N * (cellOf? c x[i].1).b.length ≤ N * L := Nat.mul_le_mul_left _ hl
      rw [Nat.mul_succ]; omega) hbd)]
    rw [show sumsK x[i].2 (cellOf? c x[i].1).b m = bndG c m x[i] from rfl] at hin
    generalize bndG c m x[i] = m' at *
    generalize cellOf? c x[i].1 = f at *
    have hrc := refs_cA c
    have hrx := refs_fA x
    have hrf := refs_cA (fsOf c x)
    have hrb := refs_fA f.b
    simp only [Int.ofNat_zero] at hin
    conv => lhs; rw [a6l0_run]
    simp (maxSteps := 1000000) only [si, simprocAttr, a6b0, a6R, k1, g1, wi, hin, hrc, hrx, hrf, hrb]
theorem c_boundary (c : List Cel) (x : List (Int × Int)) (N L : Nat) (hs : c.Pairwise (fun x y => x.id < y.id)) (hc : c.length < 2147483648) (hx : x.length < 1073741824) (h : (dim26 c x).2 = 0 → BndOk c x N L)
    (ks : List Int) (hS : (dim26 c x).2 = 0 → Srt E (bndS c x) ks) (hk : ks.length < 2147483647) (H : Heap) :
    call E GP 6 [.isl (c.map cA), .isl (x.map fA)] H = some (.tup [.isl ((if (dim26 c x).2 = 0 then chainOf ks (bndS c x) else []).map fA), .int .i64 (dim26 c x).2], H, false) := by
  rw [call_fun (hE _ _ _ (by decide)) (f := a6) rfl rfl]
  have hl := fun H => c_look hE c x hc hs (by omega) H
  rw [look_dim] at hl
  have hrc := refs_cA c
  have hrx := refs_fA x
  by_cases h0 : (dim26 c x).2 = 0
  · rw [look_fs c x h0] at hl
    have hq := pbnd_loop hE c x N L (h h0) x.length 0 [] (by omega) (by intro p hp; cases hp)
    rw [List.drop_zero, show x.foldl (bndG c) [] = bndS c x from rfl] at hq
    have hch := c_chain hE _ ks (hS h0) hk
    rw [if_pos h0]
    rw [h0] at hl ⊢
    have hrl := refs_cA (fsOf c x)
    have hr3 := refs_fA (chainOf ks (bndS c x))
    have hs3 := solids_fA (chainOf ks (bndS c x))
    simp only [kvM, List.map_nil, Int.ofNat_zero] at hq hch
    simp (maxSteps := 1000000) only [si, simprocAttr, a6, a6R, hrc, hrx, hrl, hl, hq, hch, hr3, hs3, fz_fAs7, fz_fAs, ne_eq, not_true_eq_false]
  · rw [if_neg h0]
    have hn : ¬ (dim26 c x).2 = 0 := h0
    have hrl := refs_cA (lookP c x).1
    generalize (lookP c x).1 = fs at *
    simp (maxSteps := 1000000) only [si, simprocAttr, a6, a6R, hrc, hrx, hrl, hl, hn, ne_eq, not_false_eq_true, List.map_nil]
end Tor
namespace Tor
open Go
def vmap (x m : List (Int × Int)) : List (Int × Int) := x.foldl (fun m p => setL p.1 p.2 m) m
theorem vmap_look (k : Int) : ∀ (x m : List (Int × Int)), lookL k (vmap x m) = x.foldl (lastF k) (lookL k m)
  | [], m => rfl
  | p :: r, m => by
    have := vmap_look k r (setL p.1 p.2 m)
    unfold vmap at this ⊢
    rw [List.foldl_cons, this, look_set, List.foldl_cons]
    congr 1
    unfold lastF
    by_cases e : k = p.1
    · rw [if_pos e, if_pos e.symm]
    · rw [if_neg e, if_neg (fun h => e h.symm)]
variable {E : CallF} (hE : Free E)
include hE
theorem vmap_loop (c : List Cel) (k d : Int) (x : List (Int × Int)) (b11 : Bool) (hx : x.length < 2147483648) : ∀ (n i : Nat) (m : List (Int × Int)), x.length = i + n →
    run E GP a8l0 { vars := [.isl (c.map cA), .int .i64 k, .isl (x.map fA), .isl [], .int .i64 0, .int .i64 d, .int .i64 0, .mp 0, .u, .u, .bool false, .bool b11, .isl (x.map fA), .int .i64 x.length, .int .i64 i, .u, .u, .u, .u, .u, .u], heap := [.map (kvM m)], rs := false } =
      some (.exit 1, { vars := [.isl (c.map cA), .int .i64 k, .isl (x.map fA), .isl [], .int .i64 0, .int .i64 d, .int .i64 0, .mp 0, .u, .u, .bool false, .bool b11, .isl (x.map fA), .int .i64 x.length, .int .i64 x.length, .bool false, .u, .u, .u, .u, .u], heap := [.map (kvM (vmap (x.drop i) m))], rs := false }) := by
  intro n
  induction n with
  | zero =>
    intro i m h
    have hi : i = x.length := by omega
    subst hi
    have k1 : ¬ (x.length : Int) < (x.length : Int) := by omega
    rw [a8l0_run, List.drop_length]
    simp (maxSteps := 1000000) only [si, simprocAttr, a8b0, a8R, k1, vmap, List.foldl_nil]
  | succ n ih =>
    intro i m h
    have hi : i < x.length := by omega
    have k1 : (i : Int) < (x.length : Int) := by omega
    have g1 := fA_get hi
    have wi : IntKind.i64.wrap ((i : Int) + 1) = ((i + 1 : Nat) : Int) := i64a (by omega)
    have e : vmap (x.drop i) m = vmap (x.drop (i + 1)) (setL x[i].1 x[i].2 m) := by rw [List.drop_eq_getElem_cons hi]; rfl
    rw [e, ← ih (i + 1) _ (by omega)]
    have hrc := refs_cA c
    have hrx := refs_fA x
    have hset := set_kv x[i].1 x[i].2 m
    conv => lhs; rw [a8l0_run]
    simp (maxSteps := 1000000) only [si, simprocAttr, a8b0, a8R, k1, g1, wi, hrc, hrx, hset]
theorem vrow_loop (c : List Cel) (k d : Int) (x : List (Int × Int)) (b11 : Bool) (m : List (Int × Int)) (ids : List Int) (hl : ids.length < 2147483648) : ∀ (n i : Nat) (out : List Int), ids.length = i + n → out.length = i →
    run E GP a8l1 { vars := [.isl (c.map cA), .int .i64 k, .isl (x.map fA), .isl [], .int .i64 0, .int .i64 d, .int .i64 0, .mp 0, .sl 1 out.length 2 0 out.length, .u, .bool false, .bool b11, .isl (x.map fA), .int .i64 x.length, .int .i64 x.length, .bool false, .isl (ids.map iA), .int .i64 ids.length, .int .i64 i, .u, .u], heap := [.map (kvM m), .arr out.length 2 (rowA out)], rs := false } =
      some (.exit 3, { vars := [.isl (c.map cA), .int .i64 k, .isl (x.map fA), .isl [], .int .i64 0, .int .i64 d, .int .i64 0, .mp 0, .sl 1 ids.length 2 0 ids.length, .u, .bool false, .bool b11, .isl (x.map fA), .int .i64 x.length, .int .i64 x.length, .bool false, .isl (ids.map iA), .int .i64 ids.length, .int .i64 ids.length, .bool false, .u], heap := [.map (kvM m), .arr ids.length 2 (rowA (out ++ (ids.drop i).map fun id => lookL id m))], rs := false }) := by
  intro n
  induction n with
  | zero =>
    intro i out h ho
    have hi : i = ids.length := by omega
    subst hi
    have k1 : ¬ (ids.length : Int) < (ids.length : Int) := by omega
    rw [a8l1_run, List.drop_length, List.map_nil, List.append_nil, ho]
    simp (maxSteps := 1000000) only [si, simprocAttr, a8b1, a8R, k1]
  | succ n ih =>
    intro i out h ho
    have hi : i < ids.length := by omega
    have k1 : (i : Int) < (ids.length : Int) := by omega
    have g1 := iA_get hi
    have wi : IntKind.i64.wrap ((i : Int) + 1) = ((i + 1 : Nat) : Int) := i64a (by omega)
    have hm : out.length + 1 ≤ 4294967296 := by omega
    have hd : ids.drop i = ids.getD i 0 :: ids.drop (i + 1) := by rw [List.drop_eq_getElem_cons hi]; simp [List.getD, hi]
    have hlk := look_kv (ids.getD i 0) m
    have e : out ++ (ids.drop i).map (fun id => lookL id m) = (out ++ [lookL (ids.getD i 0) m]) ++ (ids.drop (i + 1)).map (fun id => lookL id m) := by rw [hd, List.map_cons, List.append_assoc]; rfl
    rw [e, ← ih (i + 1) (out ++ [lookL (ids.getD i 0) m]) (by omega) (by simp [ho])]
    generalize lookL (ids.getD i 0) m = y at *
    generalize ids.getD i 0 = id at *
    have el : (out ++ [y]).length = out.length + 1 := by simp
    have em : rowA (out ++ [y]) = rowA out ++ [Z y] := by simp [rowA]
    have ell := rowA_len out
    rw [el, em]
    have hrc := refs_cA c
    have hrx := refs_fA x
    have hri := refs_iA ids
    have hhs : headSize 2 (rowA out) = true := by cases out <;> simp [rowA, headSize, Z_size]
    conv => lhs; rw [a8l1_run]
    simp (maxSteps := 1000000) only [si, simprocAttr, a8b1, a8R, k1, g1, wi, hm, hrc, hrx, hri, hlk, hhs, ell, lookIn, maxLenA]
theorem c_vector (c : List Cel) (k : Int) (x : List (Int × Int)) (hs : c.Pairwise (fun x y => x.id < y.id)) (hc : c.length < 2147483648) (hx : x.length < 2147483648) (H : Heap) :
    call E GP 8 [.isl (c.map cA), .int .i64 k, .isl (x.map fA)] H = some (.tup [.isl (rowA (vec26 c k x).1), .int .i64 (vec26 c k x).2], H, false) := by
  rw [call_fun (hE _ _ _ (by decide)) (f := a8) rfl rfl]
  have hl := fun H => c_look hE c x hc hs hx H
  rw [look_dim] at hl
  have hrc := refs_cA c
  have hrx := refs_fA x
  have hrl := refs_cA (lookP c x).1
  generalize (lookP c x).1 = fs at *
  unfold vec26
  by_cases h0 : (dim26 c x).2 = 0
  · rw [if_neg (by simpa using h0)]
    rw [h0] at hl
    have hcells := fun H => c_cells hE c k hc H
    have hlc := cellsC_len c k
    have hr3 := refs_rowA (vecV c k x)
    have hs3 := solids_rowA (vecV c k x)
    have hz := fun n H => fz_rowA n H 4 (vecV c k x)
    have hvl : (rowA (vecV c k x)).length = (cellsC c k).length := by rw [rowA_len]; simp [vecV]
    have htk : List.take (cellsC c k).length (rowA (vecV c k x)) = rowA (vecV c k x) := List.take_of_length_le (by omega)
    have hrow : ((cellsC c k).map fun id => lookL id (vmap x [])) = vecV c k x := by
      unfold vecV lastL
      apply List.map_congr_left
      intro id _
      rw [vmap_look]; rfl
    have hv := fun b => vmap_loop hE c k (dim26 c x).1 x b hx x.length 0 [] (by omega)
    have ho := fun b => vrow_loop hE c k (dim26 c x).1 x b (vmap x []) (cellsC c k) (by omega) (cellsC c k).length 0 [] (by omega) rfl
    simp only [List.drop_zero, List.nil_append, hrow] at hv ho
    have hro : rowA [] = [] := rfl
    simp only [kvM, List.map_nil, Int.ofNat_zero, List.length_nil, hro] at hv ho
    have hri := refs_iA (cellsC c k)
    by_cases hx0 : (x.length : Int) > 0
    · by_cases hdk : (dim26 c x).1 = k
      · rw [if_neg (fun h => h.2 hdk)]
        rw [hdk] at hl hv ho
        generalize cellsC c k = ids at *
        simp (maxSteps := 1000000) only [si, simprocAttr, a8, a8R, hrc, hrx, hrl, hl, hx0, hcells, hri, hv, ho, hvl, htk, hr3, hs3, hz, ne_eq, not_true_eq_false]
      · rw [if_pos ⟨fun e => by rw [e] at hx0; simp at hx0, hdk⟩]
        simp (maxSteps := 1000000) only [si, simprocAttr, a8, a8R, hrc, hrx, hrl, hl, hx0, hdk, hro, ne_eq, not_true_eq_false, not_false_eq_true]
    · have hxe : x = [] := by
        cases x with
        | nil => rfl
        | cons p r => simp at hx0
      rw [if_neg (fun h => h.1 hxe)]
      generalize cellsC c k = ids at *
      simp (maxSteps := 1000000) only [si, simprocAttr, a8, a8R, hrc, hrx, hrl, hl, hx0, hcells, hri, hv, ho, hvl, htk, hr3, hs3, hz, ne_eq, not_true_eq_false]
  · rw [if_pos h0]
    have hn : ¬ ((dim26 c x).2 = 0) := h0
    have hro : rowA [] = [] := rfl
    simp (maxSteps := 1000000) only [si, simprocAttr, a8, a8R, hrc, hrx, hrl, hl, hn, hro, ne_eq, not_false_eq_true]
theorem c_cycle (c : List Cel) (x z : List (Int × Int)) (hb : ∀ H, call E GP 6 [.isl (c.map cA), .isl (x.map fA)] H = some (.tup [.isl (z.map fA), .int .i64 (dim26 c x).2], H, false)) (H : Heap) :
    call E GP 11 [.isl (c.map cA), .isl (x.map fA)] H = some (.bool (decide ((dim26 c x).2 = 0) && decide (z = [])), H, false) := by
  rw [call_fun (hE _ _ _ (by decide)) (f := a11) rfl rfl]
  have hrc := refs_cA c
  have hrx := refs_fA x
  have hrz := refs_fA z
  by_cases h0 : (dim26 c x).2 = 0
  · rw [h0] at hb ⊢
    cases z with
    | nil =>
      simp only [List.map_nil] at hb
      simp (maxSteps := 1000000) only [si, simprocAttr, a11, a11R, hrc, hrx, hb]
    | cons p r =>
      have hn : ¬ ((r.length + 1 : Nat) : Int) = 0 := by omega
      have hn2 : ¬ (p :: r = []) := by simp
      simp (maxSteps := 1000000) only [si, simprocAttr, a11, a11R, hrc, hrx, hrz, hb, hn, hn2, decide_false]
  · have hn : ¬ (dim26 c x).2 = 0 := h0
    simp (maxSteps := 1000000) only [si, simprocAttr, a11, a11R, hrc, hrx, hrz, hb, hn, decide_false, Bool.false_and]
theorem crow_loop (c : List Cel) (k : Int) (ids r : List Int) (N : Nat) (hl : ids.length = r.length) (hs : r.length < 2147483647) (hb : ∀ y ∈ r, y.natAbs ≤ N) (hN : N * (r.length + 1) < BIG) : ∀ (n i : Nat) (m : List (Int × Int)), r.length = i + n → Bd (N * i) m →
    run E GP a24l0 { vars := [.isl (c.map cA), .int .i64 k, .isl (rowA r), .isl [], .int .i64 0, .isl (ids.map iA), .mp 0, .u, .u, .bool false, .isl (ids.map iA), .int .i64 ids.length, .int .i64 i, .u], heap := [.map (kvM m)], rs := false } =
      some (.exit 0, { vars := [.isl (c.map cA), .int .i64 k, .isl (rowA r), .isl [], .int .i64 0, .isl (ids.map iA), .mp 0, .u, .u, .bool false, .isl (ids.map iA), .int .i64 ids.length, .int .i64 ids.length, .bool false], heap := [.map (kvM (sums ((ids.zip r).drop i) m))], rs := false }) := by
  intro n
  induction n with
  | zero =>
    intro i m h1 h2
    have hi : i = ids.length := by omega
    subst hi
    have k1 : ¬ (ids.length : Int) < (ids.length : Int) := by omega
    rw [a24l0_run, List.drop_of_length_le (by simp; omega)]
    simp (maxSteps := 1000000) only [si, simprocAttr, a24b0, a24R, k1, sums, List.foldl_nil]
  | succ n ih =>
    intro i m h1 h2
    have hi : i < r.length := by omega
    have hi2 : i < ids.length := by omega
    have k1 : (i : Int) < (ids.length : Int) := by omega
    have g1 := iA_get hi2
    have g2 := rowA_get hi
    have wi : IntKind.i64.wrap ((i : Int) + 1) = ((i + 1 : Nat) : Int) := i64a (by omega)
    have hd : (ids.zip r).drop i = (ids.getD i 0, r.getD i 0) :: (ids.zip r).drop (i + 1) := by
      rw [List.drop_eq_getElem_cons (by simp; omega)]
      simp [List.getElem_zip, List.getD, hi, hi2]
    have hbi : (r.getD i 0).natAbs ≤ N := hb _ (by simp [List.getD, hi])
    have hNi : N * i ≤ N * (r.length + 1) := Nat.mul_le_mul_left _ (by omega)
    have hN1 : N * 1 ≤ N * (r.length + 1) := Nat.mul_le_mul_left _ (by omega)
    have hadd := c_sumadd hE m (ids.getD i 0) (r.getD i 0) [.map (kvM m)] 0 rfl (sm_nat (N := N * i) (by omega) (lookL_bd m h2)) (sm_nat (N := N) (by omega) hbi)
    have hacc : Bd (N * (i + 1)) (sadd m (ids.getD i 0) (r.getD i 0)) := by
      rw [Nat.mul_succ]; exact sadd_bd h2 hbi
    have hsum : sums ((ids.zip r).drop i) m = sums ((ids.zip r).drop (i + 1)) (sadd m (ids.getD i 0) (r.getD i 0)) := by rw [hd]; rfl
    rw [hsum, ← ih (i + 1) _ (by omega) hacc]
    have hrc := refs_cA c
    have hri := refs_iA ids
    have hrr := refs_rowA r
    conv => lhs; rw [a24l0_run]
    simp (maxSteps := 1000000) only [si, simprocAttr, a24b0, a24R, k1, g1, g2, wi, hadd, hrc, hri, hrr]
theorem c_chainrow (c : List Cel) (k : Int) (r : List Int) (N : Nat) (hc : c.length < 2147483647) (hs : r.length < 2147483647) (hb : ∀ y ∈ r, y.natAbs ≤ N) (hN : N * (r.length + 1) < BIG)
    (ks : List Int) (hS : Srt E (sums ((cellsC c k).zip r) []) ks) (hk : ks.length < 2147483647) (H : Heap) :
    call E GP 24 [.isl (c.map cA), .int .i64 k, .isl (rowA r)] H = some (.tup [.isl ((if r.length = (cellsC c k).length then chainOf ks (sums ((cellsC c k).zip r) []) else []).map fA), .int .i64 (if r.length = (cellsC c k).length then 0 else 50)], H, false) := by
  rw [call_fun (hE _ _ _ (by decide)) (f := a24) rfl rfl]
  have hcells := fun H => c_cells hE c k (by omega) H
  have hlc := cellsC_len c k
  have hrc := refs_cA c
  have hrr := refs_rowA r
  have hri := refs_iA (cellsC c k)
  have k2 := rowA_len r
  by_cases h0 : r.length = (cellsC c k).length
  · rw [if_pos h0, if_pos h0]
    have hl := crow_loop hE c k (cellsC c k) r N h0.symm hs hb hN r.length 0 [] (by omega) (by intro p hp; cases hp)
    rw [List.drop_zero] at hl
    have hch := c_chain hE _ ks hS hk
    have hr3 := refs_fA (chainOf ks (sums ((cellsC c k).zip r) []))
    have hs3 := solids_fA (chainOf ks (sums ((cellsC c k).zip r) []))
    simp only [kvM, List.map_nil, Int.ofNat_zero] at hl hch
    generalize cellsC c k = ids at *
    have hz2 : (ids.length : Int) = (r.length : Int) := by omega
    rw [hz2] at hl
    simp (maxSteps := 1000000) only [si, simprocAttr, a24, a24R, hrc, hrr, hri, k2, hcells, hl, hch, hr3, hs3, hz2, fz_fAs7, fz_fAs, ne_eq, not_true_eq_false]
  · rw [if_neg h0, if_neg h0]
    have hz : ¬ ((cellsC c k).length : Int) = (r.length : Int) := by omega
    simp (maxSteps := 1000000) only [si, simprocAttr, a24, a24R, hrc, hrr, hri, k2, hcells, hz, ne_eq, not_false_eq_true, List.map_nil]
end Tor
namespace Tor
open Go
theorem bndG_eq (c : List Cel) : ∀ (x m a : List (Int × Int)), Sums m → Canon none a → (∀ k, lookL k m = lookL k a) →
    Sums (x.foldl (bndG c) m) ∧ Canon none (x.foldl (bndF c) a) ∧ ∀ k, lookL k (x.foldl (bndG c) m) = lookL k (x.foldl (bndF c) a)
  | [], m, a, h1, h2, h3 => ⟨h1, h2, h3⟩
  | p :: r, m, a, h1, h2, h3 => by
    rw [List.foldl_cons, List.foldl_cons]
    obtain ⟨s1, s2⟩ := sumsK_law p.2 (cellOf? c p.1).b m h1
    obtain ⟨t1, t2⟩ := add_law p.2 (cellOf? c p.1).b a h2
    exact bndG_eq c r _ _ s1 t1 fun k => by unfold bndG bndF; rw [s2, t2, h3]
theorem bnd_eq (c : List Cel) (x : List (Int × Int)) : chainOf (ksOf (bndS c x)) (bndS c x) = bnd26 c x := by
  obtain ⟨h1, h2, h3⟩ := bndG_eq c x [] [] sums_nil trivial (fun _ => rfl)
  change Sums (bndS c x) at h1
  obtain ⟨g1, g2⟩ := chain_law (bndS c x) h1 _ (ksOf_lt _ h1) (ksOf_mem _)
  exact canon_ext _ _ none none g1 h2 fun k => by rw [g2]; exact h3 k
theorem bndS_keys {P : Int → Prop} (c : List Cel) (L : Nat) : ∀ (x m : List (Int × Int)), (∀ p ∈ x, (∀ q ∈ (cellOf? c p.1).b, P q.1) ∧ (cellOf? c p.1).b.length ≤ L) → (∀ p ∈ m, P p.1) →
    (∀ p ∈ x.foldl (bndG c) m, P p.1) ∧ (x.foldl (bndG c) m).length ≤ m.length + L * x.length
  | [], m, _, h => ⟨h, by simp⟩
  | p :: r, m, h1, h => by
    obtain ⟨a1, a2⟩ := h1 p (.head _)
    obtain ⟨b1, b2⟩ := sumsK_keys (P := P) p.2 (cellOf? c p.1).b m a1 h
    obtain ⟨c1, c2⟩ := bndS_keys c L r _ (fun q hq => h1 q (.tail _ hq)) b1
    rw [List.foldl_cons]
    refine ⟨c1, Nat.le_trans c2 ?_⟩
    rw [List.length_cons, Nat.mul_succ]
    omega
variable {E : CallF} (hE : Free E)
include hE
theorem vec_loop (a b : List Int) (ha : ∀ y ∈ a, Fit y) (hb : ∀ y ∈ b, Fit y) (hl : a.length = b.length) (hs : a.length < 2147483648) : ∀ (n i : Nat), a.length = i + n →
    (a.drop i = b.drop i → run E GP a13l0 { vars := [.isl (rowA a), .isl (rowA b), .bool false, .int .i64 i, .bool false, .u, .u], heap := [], rs := false } =
      some (.exit 0, { vars := [.isl (rowA a), .isl (rowA b), .bool false, .int .i64 a.length, .bool false, .bool false, .u], heap := [], rs := false })) ∧
    (a.drop i ≠ b.drop i → ∃ v3, run E GP a13l0 { vars := [.isl (rowA a), .isl (rowA b), .bool false, .int .i64 i, .bool false, .u, .u], heap := [], rs := false } =
      some (.ret, { vars := [.isl (rowA a), .isl (rowA b), .bool false, v3, .bool false, .bool true, .bool true], heap := [], rs := false })) := by
  have la := rowA_len a
  have lb := rowA_len b
  have ra := refs_rowA a
  have rb := refs_rowA b
  intro n
  induction n with
  | zero =>
    intro i h
    have hi : i = a.length := by omega
    subst hi
    have k1 : ¬ (a.length : Int) < (a.length : Int) := by omega
    refine ⟨fun _ => ?_, fun h => absurd (by rw [List.drop_length, List.drop_of_length_le (by omega)]) h⟩
    rw [a13l0_run]
    simp (maxSteps := 1000000) only [si, simprocAttr, a13b0, a13R, la, k1]
  | succ n ih =>
    intro i h
    have hi : i < a.length := by omega
    have hi2 : i < b.length := by omega
    have k1 : (i : Int) < (a.length : Int) := by omega
    have wi : IntKind.i64.wrap ((i : Int) + 1) = ((i + 1 : Nat) : Int) := i64a (by omega)
    have g1 := rowA_get hi
    have g2 := rowA_get hi2
    have f1 := ha (a.getD i 0) (by simp [List.getD, hi])
    have f2 := hb (b.getD i 0) (by simp [List.getD, hi2])
    have hsm := fun H => r1_same hE (a.getD i 0) (b.getD i 0) H (by unfold Fit at f1; omega) (by unfold Fit at f2; omega)
    have da : a.drop i = a.getD i 0 :: a.drop (i + 1) := by rw [List.drop_eq_getElem_cons hi]; simp [List.getD, hi]
    have db : b.drop i = b.getD i 0 :: b.drop (i + 1) := by rw [List.drop_eq_getElem_cons hi2]; simp [List.getD, hi2]
    obtain ⟨i1, i2⟩ := ih (i + 1) (by omega)
    rw [da, db]
    by_cases he : a.getD i 0 = b.getD i 0
    · have hd : decide (a.getD i 0 = b.getD i 0) = true := decide_eq_true he
      rw [hd] at hsm
      have hst : run E GP a13l0 { vars := [.isl (rowA a), .isl (rowA b), .bool false, .int .i64 i, .bool false, .u, .u], heap := [], rs := false } =
          run E GP a13l0 { vars := [.isl (rowA a), .isl (rowA b), .bool false, .int .i64 (i + 1 : Nat), .bool false, .u, .u], heap := [], rs := false } := by
        conv => lhs; rw [a13l0_run]
        simp (maxSteps := 1000000) only [si, simprocAttr, a13b0, a13R, la, lb, ra, rb, k1, wi, g1, g2, hsm]
      rw [hst]
      exact ⟨fun h => i1 (List.cons.inj h).2, fun h => i2 fun e => h (by rw [he, e])⟩
    · have hd : decide (a.getD i 0 = b.getD i 0) = false := decide_eq_false he
      rw [hd] at hsm
      refine ⟨fun h => absurd (List.cons.inj h).1 he, fun _ => ⟨.int .i64 i, ?_⟩⟩
      rw [a13l0_run]
      simp (maxSteps := 1000000) only [si, simprocAttr, a13b0, a13R, la, lb, ra, rb, k1, wi, g1, g2, hsm]
theorem r5_samevec (a b : List Int) (ha : ∀ y ∈ a, Fit y) (hb : ∀ y ∈ b, Fit y) (hs : a.length < 2147483648) (H : Heap) :
    call E GP 13 [.isl (rowA a), .isl (rowA b)] H = some (.bool (decide (a = b)), H, false) := by
  rw [call_fun (hE _ _ _ (by decide)) (f := a13) rfl rfl]
  have la := rowA_len a
  have lb := rowA_len b
  have ra := refs_rowA a
  have rb := refs_rowA b
  by_cases hl : a.length = b.length
  · have hne : (a.length : Int) = (b.length : Int) := by omega
    obtain ⟨h1, h2⟩ := vec_loop hE a b ha hb hl hs a.length 0 (by omega)
    rw [List.drop_zero, List.drop_zero] at h1 h2
    simp only [Int.ofNat_zero] at h1 h2
    by_cases he : a = b
    · have h1 := h1 he
      have hd : decide (a = b) = true := decide_eq_true he
      rw [hd]
      simp (maxSteps := 1000000) only [si, simprocAttr, a13, a13R, la, lb, ra, rb, hne, h1, ne_eq, not_true_eq_false]
      first | done | (simp (maxSteps := 1000000) only [← hne, h1, si, simprocAttr, a13R]; done)
    · obtain ⟨v3, h2⟩ := h2 he
      have hd : decide (a = b) = false := decide_eq_false he
      rw [hd]
      simp (maxSteps := 1000000) only [si, simprocAttr, a13, a13R, la, lb, ra, rb, hne, h2, ne_eq, not_true_eq_false]
  · have hne : ¬ (a.length : Int) = (b.length : Int) := by omega
    have hd : decide (a = b) = false := decide_eq_false fun e => hl (by rw [e])
    rw [hd]
    simp (maxSteps := 1000000) only [si, simprocAttr, a13, a13R, la, lb, ra, rb, hne, ne_eq, not_false_eq_true]
end Tor
