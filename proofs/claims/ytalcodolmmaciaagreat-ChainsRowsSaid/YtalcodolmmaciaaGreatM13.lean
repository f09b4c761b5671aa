/-
  A part of the proof: an abstract machine for the program, its soundness, and what the functions compute (Main, Open, Fits, Law11, Law12, E1, Frame).
  Conditions: none.
-/
import Derived.Test.YtalcodolmmaciaaGreatM06
import Derived.Test.YtalcodolmmaciaaGreatM07
import Derived.Test.YtalcodolmmaciaaGreatM09
import Derived.Test.YtalcodolmmaciaaGreatM12
import Derived.OpenShut
import Derived.ChangeOld
import Derived.Shelf.SlIterI.Sorted
import Derived.Carry
import Derived.ChangeShapes
set_option linter.unusedSectionVars false
set_option linter.unusedVariables false
set_option linter.unusedSimpArgs false
set_option linter.defProp false
namespace Tor
open Go Go.RowKit
theorem Rvs_leU {n : Nat} {C C' : Cx} (h : LeU n C C') {l vs} (hu : AV.unders n l = true) (hr : Rvs C l vs) : Rvs C' l vs := by
  induction hr with
  | nil => exact .nil
  | cons a _ ih =>
    simp only [AV.unders, Bool.and_eq_true] at hu
    exact .cons (Rv_leU h hu.1 a) (ih hu.2)
theorem shut_inv {n H o r} (h : shut n H o = some r) : ∃ x, o = some x ∧ r = fz n H fzDepth x ∧ (fz n H fzDepth x).under n = true ∧ (fz n H fzDepth x).solid = true := by
  cases o with
  | none => cases h
  | some x =>
    simp only [shut] at h
    split at h
    · rename_i hh; cases h; exact ⟨x, rfl, rfl, hh⟩
    · cases h
theorem shrEnd_inv {n rs o r} (h : shrEnd n rs o = some r) : ∃ st x, o = some st ∧ st.rs = false ∧ shut n st.heap (resAll st rs) = some x ∧ r = (x, st.heap.take n, false) := by
  cases o with
  | none => cases h
  | some st =>
    simp only [shrEnd] at h
    split at h
    · cases h
    · rename_i hrs
      obtain ⟨x, hx, e⟩ := withHeap_inv h
      exact ⟨st, x, rfl, by simpa using hrs, hx, e⟩
theorem keepEnd_inv {rs o r} (h : keepEnd rs o = some r) : ∃ st x, o = some st ∧ resAll st rs = some x ∧ r = (x, st.heap, st.rs) := by
  cases o with
  | none => cases h
  | some st =>
    obtain ⟨x, hx, e⟩ := withHeap_inv h
    exact ⟨st, x, rfl, hx, e⟩
theorem runIso_inv {R f args r} (h : runIso R f args = some r) : AV.hasRefs args = false ∧ ∃ st, ended (R f.body (start f args [])) = some st ∧ shut 0 st.heap (resAll st f.results) = some r := by
  unfold runIso at h
  split at h
  · cases h
  · rename_i hh
    refine ⟨by simpa using hh, ?_⟩
    cases he : ended (R f.body (start f args [])) with
    | none => rw [he] at h; cases h
    | some st => rw [he] at h; exact ⟨st, rfl, h⟩
section
variable {k : Ck} {base : Nat} {C : Cx}
theorem iso_ok {R : AIR → St → Option (Ex × St)} {f : AFun} {fn : Func} {g : Nat} {args : List AV} {H : Heap} {vals : List Value} {r : AV} (hR : RS k R) (hfn : k.P.funcs[k.ι g]? = some fn) (hok : funOk k fn f = true)
    (hι : C.ι = k.ι) (hs : Sim base C H) (hr : Rvs C args vals) (hl : args.length = f.params) (h : runIso R f args = some r) : Called k.P (k.ι g) vals.toArray C.w (CPost base C H r H) := by
  obtain ⟨hnr, st, he, hsh⟩ := runIso_inv h
  obtain ⟨x, hx, rfl, hun, hso⟩ := shut_inv hsh
  let C0 : Cx := { C with β := fun _ _ => none }
  have hC0 : Sim C.w.heap.size C0 [] := ⟨hs.fsz, fun _ _ _ => rfl, fun o ob ho => by simp at ho, fun o o' ob ob' b ho => by simp at ho, Nat.le_refl _⟩
  have hl0 : LeU 0 C C0 := ⟨rfl, fun _ h => h, fun o g q ho => by omega, fun _ _ => rfl, fun _ _ h => h⟩
  have hr0 : Rvs C0 args vals := Rvs_leU hl0 (noRefs_unders 0 args hnr) hr
  refine body_ok (C := C0) hR hfn hok hι hC0 hr0 hl he hx fun v C1 hst hv => ?_
  -- the objects are given up; their blocks stay
  have hu0 : HUnder 0 st.heap := fun o ob ho => by omega
  have hst2 : OStep C.w.heap.size C0 [] (C1.fzn 0 st.heap) (st.heap.take 0) := hst.dropTo hC0 hu0 (leU_fzn C1 0 st.heap) rfl (fun _ _ => rfl) (fun _ h => h)
  have hv2 := fz_Rv hst.sim 0 fzDepth hv hso hun
  let C3 : Cx := { C1.fzn 0 st.heap with β := C.β }
  have hle : Le C C3 := ⟨hst2.le.ι, hst2.le.F, fun _ _ _ h => h, hst2.le.mem, hst2.le.shp⟩
  have hl3 : LeU 0 (C1.fzn 0 st.heap) C3 := ⟨rfl, fun _ h => h, fun o g q ho => by omega, fun _ _ => rfl, fun _ _ h => h⟩
  have hfg : ∀ b, C3.F b → C.F b ∨ C.w.heap.size ≤ b := hst2.fgr
  refine ⟨C3, rfl, ⟨hle, hs.world hle (fun b hb => ⟨hst2.sim.fsz b hb, hfg b hb⟩) (fun _ _ => rfl) hst2.below.4 (fun b hb _ _ => hst2.below.5 b hb),
    ⟨hst2.below.1, hst2.below.2, hst2.below.3, hst2.below.4, fun b hb => hst2.below.5 b (Nat.lt_of_lt_of_le hb hs.bsz)⟩, fun b hb => ?_, fun b hb hF hno => ⟨hst2.below.5 b hb, fun h => (hfg b h).elim hF (fun h => by omega), hno⟩⟩, Rv_leU hl3 hun hv2⟩
  rcases hfg b hb with hb | hb
  · exact .inl hb
  · exact .inr (Nat.le_trans hs.bsz hb)
theorem consume_ok : ∀ (args : List AV) (vals : List Value) (C : Cx) (H : Heap) (args' : List AV) (H' : Heap), Sim base C H → Rvs C args vals → consume H args = some (args', H') →
    ∃ C', C'.w = C.w ∧ OStep base C H C' H' ∧ Rvs C' args' vals ∧ args'.length = args.length
  | [], vals, C, H, args', H', hs, hr, h => by
    simp only [consume] at h; cases h
    cases hr
    exact ⟨C, rfl, Step.refl hs, .nil, rfl⟩
  | x :: r, _, C, H, args', H', hs, hr, h => by
    cases hr with
    | cons hx hr =>
      rename_i v vs
      have keep : ∀ y H0, (∀ z, x ≠ z ∨ True) → consume1 y (consume H0 r) = some (args', H') → ∃ l', consume H0 r = some (l', H') ∧ args' = y :: l' := by
        intro y H0 _ h
        cases hc : consume H0 r with
        | none => rw [hc] at h; cases h
        | some q => obtain ⟨l', H2⟩ := q; rw [hc] at h; cases h; exact ⟨l', rfl, rfl⟩
      by_cases hsl : ∃ o g sz st len, x = .sl o g sz st len
      · obtain ⟨o, g, sz, st, len, rfl⟩ := hsl
        simp only [consume] at h
        cases hel : elems H (.sl o g sz st len) with
        | none => rw [hel] at h; cases h
        | some l =>
          rw [hel] at h
          simp only at h
          split at h
          · cases h
          · rename_i hnr
            obtain ⟨l', hc, rfl⟩ := keep _ _ (fun _ => .inr trivial) h
            obtain ⟨a, cap, ob, rfl, hob, hcs⟩ := sl_cells hs hx hel
            let C1 : Cx := { C with F := fun b => C.F b ∨ blk C o ob = some b }
            have hle : Le C C1 := ⟨rfl, fun _ h => .inl h, fun _ _ _ h => h, fun _ _ => rfl, fun _ _ h => h⟩
            have hbl := fun b (hb : blk C o ob = some b) => blk_heap (hs.obj o ob hob).1 hb
            have hst : OStep base C H C1 (H.set o .dead) := by
              refine ⟨hle, hs.set hob hle (fun b hb => ?_) (Nat.le_refl _) (fun _ _ _ => rfl) (fun _ _ _ => rfl) trivial trivial (fun b hb => by cases hb), (Grow.refl C.w).below hs.bsz, fun b hb => ?_, fun b hb hF hno => ⟨rfl, fun h => h.elim hF (hno o ob hob), fun o1 ob1 h1 hbk => ?_⟩⟩
              · rcases hb with hb | hb
                · exact ⟨hs.fsz b hb, .inl hb⟩
                · exact ⟨(hbl b hb).2.2, .inr (.inr hb)⟩
              · rcases hb with hb | hb
                · exact .inl hb
                · exact .inr (hbl b hb).1
              · rw [List.getElem?_set] at h1
                split at h1
                · split at h1
                  · cases h1; cases hbk
                  · cases h1
                · have : blk C1 o1 ob1 = blk C o1 ob1 := by cases ob1 <;> rfl
                  rw [this] at hbk
                  exact hno o1 ob1 h1 hbk
            obtain ⟨C2, hw, hst2, hr2, hl2⟩ := consume_ok r vs C1 _ _ _ hst.sim (Rvs_le hle hr) hc
            refine ⟨C2, hw, hst.trans hst2, .cons (Rv_le hst2.le (Rv_one ?_ rfl rfl)) hr2, by simp [hl2]⟩
            simp only [Rc]
            refine ⟨by simpa using hnr, _, rfl, a, cap, rfl, ?_⟩
            rcases hcs with rfl | ⟨b, off, css, rfl, hb, hcap, h1, h2, h3⟩
            · exact .inl rfl
            · exact .inr ⟨b, off, css, sz, rfl, .inr hb, hcap, Rcl_le hle _ _ h1, h2, h3⟩
      · have h' : consume1 x (consume H r) = some (args', H') := by
          cases x <;> first | exact h | exact absurd ⟨_, _, _, _, _, rfl⟩ hsl
        obtain ⟨l', hc, rfl⟩ := keep _ _ (fun _ => .inr trivial) h'
        obtain ⟨C2, hw, hst2, hr2, hl2⟩ := consume_ok r vs C _ _ _ hs hr hc
        exact ⟨C2, hw, hst2, .cons (Rv_le hst2.le hx) hr2, by simp [hl2]⟩
end
structure Tied (P : Program) (ι : Nat → FuncId) (pureF : Nat → Bool) (E : CallF) (GP : Nat → Option AFun) : Prop where
  funs : ∀ g f, GP g = some f → ∃ k fn, k.P = P ∧ k.ι = ι ∧ k.pureF = pureF ∧ P.funcs[ι g]? = some fn ∧ funOk k fn f = true
  pureG : ∀ g, pureF g = true → (∀ f, GP g = some f → f.mode = .iso) ∧ ∀ args H H2, E g args H = none → E g args H2 = none
  pureE : PureC pureF E
  soundE : SoundC P ι E
  keepE : CKeeps E
theorem Called.mono {P f args w} {R R' : Value → World → Prop} (h : Called P f args w R) (hR : ∀ v w', R v w' → R' v w') : Called P f args w R' := by
  unfold Called at h ⊢
  split
  · rename_i e; rw [e] at h; exact hR _ _ h
  · rename_i e
    rw [e] at h
    refine Calls.mono h fun e' w' he => ?_
    cases e' with
    | returned v => exact hR _ _ he
    | panicked _ => exact he.elim
    | outgrown => exact he.elim
  · rename_i h1 h2
    split at h
    · rename_i e; exact absurd e (h1 _ _)
    · rename_i e; exact absurd e (h2 _ _ _)
    · exact h
section
variable {P : Program} {ι : Nat → FuncId} {pureF : Nat → Bool} {E : CallF} {GP : Nat → Option AFun}
theorem stepCall_pure (T : Tied P ι pureF E GP) (R : AIR → St → Option (Ex × St)) : PureC pureF (stepCall E GP R) := by
  intro g hg args H r H' b h
  obtain ⟨h1, h2⟩ := T.pureG g hg
  unfold stepCall at h ⊢
  cases hE : E g args H with
  | some q =>
    rw [hE] at h
    simp only [callE] at h
    cases h
    obtain ⟨a1, a2, a3⟩ := T.pureE g hg args H _ _ _ hE
    exact ⟨a1, a2, fun H2 => by rw [a3 H2]; rfl⟩
  | none =>
    rw [hE] at h
    simp only [callE] at h
    have hE2 := fun H2 => h2 args H H2 hE
    cases hf : GP g with
    | none => rw [hf] at h; cases h
    | some f =>
      rw [hf] at h
      simp only [callG, h1 f hf] at h
      split at h
      · rename_i hl
        simp only [callFun] at h
        obtain ⟨x, hx, e⟩ := withHeap_inv h
        cases e
        refine ⟨rfl, rfl, fun H2 => ?_⟩
        rw [hE2 H2]
        simp only [callE]
        rw [hf]
        simp only [callG, hl, if_true, h1 f hf, callFun, hx, withHeap]
      · cases h
theorem stepCall_ok (T : Tied P ι pureF E GP) {R : AIR → St → Option (Ex × St)} (hK : RKeeps R) (hR : ∀ k : Ck, k.P = P → k.ι = ι → k.pureF = pureF → nodupB (k.slots ++ k.cells) = true → RS k R) : SoundC P ι (stepCall E GP R) := by
  intro g args H r H' b h base C vals hι hs hr
  unfold stepCall at h
  cases hE : E g args H with
  | some q =>
    rw [hE] at h
    simp only [callE] at h
    cases h
    exact T.soundE g args H _ _ _ hE base C vals hι hs hr
  | none =>
    rw [hE] at h
    simp only [callE] at h
    cases hf : GP g with
    | none => rw [hf] at h; cases h
    | some f =>
      rw [hf] at h
      simp only [callG] at h
      split at h
      case isFalse => cases h
      rename_i hl
      obtain ⟨k, fn, rfl, rfl, rfl, hfn, hok⟩ := T.funs g f hf
      have hnd : nodupB (k.slots ++ k.cells) = true := by
        have := hok
        unfold funOk at this
        simp only [Bool.and_eq_true] at this
        exact this.1.1.1.1.1.1.2
      have hRk := hR k rfl rfl rfl hnd
      cases hm : f.mode with
      | iso =>
        rw [hm] at h
        simp only [callFun] at h
        obtain ⟨x, hx, e⟩ := withHeap_inv h
        cases e
        exact iso_ok hRk hfn hok hι hs hr hl hx
      | con =>
        rw [hm] at h
        simp only [callFun] at h
        cases hc : consume H args with
        | none => rw [hc] at h; cases h
        | some q =>
          obtain ⟨args', H2⟩ := q
          rw [hc] at h
          simp only [conCall] at h
          obtain ⟨x, hx, e⟩ := withHeap_inv h
          cases e
          obtain ⟨C2, hw, hst, hr2, hl2⟩ := consume_ok args vals C H _ _ hs hr hc
          rw [← hw]
          refine (iso_ok hRk hfn hok (hst.le.ι.trans hι) hst.sim hr2 (hl2.trans hl) hx).mono ?_
          rintro v w' ⟨C', hw', hst', hv⟩
          exact ⟨C', hw', hst.trans (hst'.ent_le (by rw [hw]; exact Nat.le_refl _)), hv⟩
      | shr =>
        rw [hm] at h
        simp only [callFun] at h
        obtain ⟨st, x, he, hrs, hsh, e⟩ := shrEnd_inv h
        cases e
        obtain ⟨y, hy, rfl, hun, hso⟩ := shut_inv hsh
        obtain ⟨e, hbody⟩ := ended_inv he
        have hu : HUnder H.length st.heap := ((hK _ _ _ _ hbody hrs).2).2 _ (Nat.le_refl _) (HUnder_sim hs)
        refine body_ok hRk hfn hok hι hs hr hl he hy fun v C1 hst hv => ?_
        exact ⟨C1.fzn H.length st.heap, rfl, hst.dropTo hs hu (leU_fzn C1 _ st.heap) rfl (fun _ _ => rfl) (fun _ h => h), fz_Rv hst.sim _ fzDepth hv hso hun⟩
      | keep =>
        rw [hm] at h
        simp only [callFun] at h
        obtain ⟨st, x, he, hx, e⟩ := keepEnd_inv h
        cases e
        exact body_ok hRk hfn hok hι hs hr hl he hx fun v C1 hst hv => ⟨C1, rfl, hst, hv⟩
theorem machine_ok (T : Tied P ι pureF E GP) (n : Nat) : (∀ k : Ck, k.P = P → k.ι = ι → k.pureF = pureF → nodupB (k.slots ++ k.cells) = true → RS k (Tor.runN E GP n)) ∧ SoundC P ι (callN E GP n) ∧ PureC pureF (callN E GP n) := by
  induction n with
  | zero =>
    refine ⟨fun k _ _ _ _ => ⟨fun air code st e st' _ h => ?_, fun gc keep x body st e st' _ h => ?_⟩, fun g args H r H' b h => ?_, fun g _ args H r H' b h => ?_⟩
    · rw [Tor.runN] at h; cases h
    · rw [Tor.runN] at h; cases h
    · rw [callN] at h; cases h
    · rw [callN] at h; cases h
  | succ n ih =>
    obtain ⟨h1, h2, h3⟩ := ih
    have hK := runN_keeps (E := E) (GP := GP) T.keepE n
    refine ⟨?_, ?_, ?_⟩
    · rintro k rfl rfl rfl hnd
      rw [Tor.runN]
      exact stepRun_ok h2 h3 hnd hK.1 (h1 k rfl rfl rfl hnd)
    · rw [callN]; exact stepCall_ok T hK.1 h1
    · rw [callN]; exact stepCall_pure T _
theorem call_sound (T : Tied P ι pureF E GP) : SoundC P ι (call E GP) := by
  intro g args H r H' b h
  obtain ⟨n, hn⟩ := call_ex h
  exact (machine_ok T n).2.1 g args H r H' b hn
end
end Tor
namespace Tor
open Go Go.RowKit
inductive Shp where
  | int (k : IntKind)
  | bool
  | sl (s : Shp)
  | agg (l : List Shp)
mutual
def Fits : Shp → AV → Prop
  | .int k, x => ∃ n, x = .int k n ∧ k.min ≤ n ∧ n ≤ k.max
  | .bool, x => ∃ b, x = .bool b
  | .sl s, x => ∃ l, x = .isl l ∧ l.length ≤ maxLen ∧ ∀ y ∈ l, Fits s y
  | .agg ss, x => ∃ l, x = .agg l ∧ Fitss ss l
def Fitss : List Shp → List AV → Prop
  | [], l => l = []
  | s :: ss, l => ∃ x r, l = x :: r ∧ Fits s x ∧ Fitss ss r
end
def partsOf (P : Program) (t : TypeId) : Option (List (TypeId × Nat)) :=
  match P.underlying t with
  | some (.struct fs) => some (fs.toList.map fun f => (f.type, f.offset))
  | some (.array n e) => some ((List.range n).map fun i => (e, i * P.cellsOf e))
  | _ => none
mutual
def shpOk (P : Program) (t : TypeId) : Shp → Bool
  | .int k => (match P.underlying t with | some (.int k') => k' == k | _ => false)
  | .bool => (match P.underlying t with | some .bool => true | _ => false)
  | .sl s => (match sliceB P t with | some e => !(P.cellsOf e == 0) && shpOk P e s | none => false)
  | .agg ss => (match partsOf P t with | some ps => shpsOk P 0 (P.cellsOf t) ps ss | none => false)
def shpsOk (P : Program) (off total : Nat) : List (TypeId × Nat) → List Shp → Bool
  | [], [] => off == total
  | (t, o) :: ps, s :: ss => o == off && shpOk P t s && shpsOk P (off + P.cellsOf t) total ps ss
  | _, _ => false
end
def Cx.init (ι : Nat → FuncId) (w : World) : Cx := { ι := ι, F := fun b => b < w.heap.size, β := fun _ _ => none, w := w }
theorem Sim.init (ι : Nat → FuncId) (w : World) : Sim w.heap.size (Cx.init ι w) [] :=
  ⟨fun _ h => h, fun _ _ _ => rfl, fun o ob ho => by simp at ho, fun o o' ob ob' b ho => by simp at ho, Nat.le_refl _⟩
section
variable {P : Program} {ι : Nat → FuncId} {w : World} {H : Type} {enc : TypeId × Value → H} {base : Nat} {spare : Nat → Bool} {held : Bool}
mutual
theorem Fits_ref : ∀ (s : Shp) (x : AV), Fits s x → x.hasRef = false
  | .int k, x, h => by simp only [Fits] at h; obtain ⟨n, rfl, _⟩ := h; rfl
  | .bool, x, h => by simp only [Fits] at h; obtain ⟨n, rfl⟩ := h; rfl
  | .sl s, x, h => by simp only [Fits] at h; obtain ⟨l, rfl, _⟩ := h; rfl
  | .agg ss, x, h => by
    simp only [Fits] at h; obtain ⟨l, rfl, h⟩ := h
    simp only [AV.hasRef]; exact Fitss_ref ss l h
theorem Fitss_ref : ∀ (ss : List Shp) (l : List AV), Fitss ss l → AV.hasRefs l = false
  | [], l, h => by simp only [Fitss] at h; subst h; rfl
  | s :: ss, l, h => by
    simp only [Fitss] at h; obtain ⟨x, r, rfl, h1, h2⟩ := h
    simp only [AV.hasRefs, Bool.or_eq_false_iff]; exact ⟨Fits_ref s x h1, Fitss_ref ss r h2⟩
end
theorem cells_at {a : Addr} {n : Nat} {cs : List Value} (h : w.cells? base a n = some cs) (hn : n ≠ 0) : a.spot = none ∧ a.block < w.heap.size ∧ cs.length = n ∧ cellsAt w a.block a.off cs := by
  have hb := World.cells?_block h (by omega)
  have hs := World.cells?_some h
  obtain ⟨_, hl, hc⟩ := hs
  have h0 : w.cell? a = cs[0]? := by
    have := hc 0 (by omega)
    simpa [Addr.add] using this
  have hsp : a.spot = none := by
    have : cs[0]? = some cs[0] := List.getElem?_eq_getElem (by omega)
    rw [this] at h0
    exact World.cell?_spot h0
  obtain ⟨b, off, sp⟩ := a
  simp only at hsp
  subst hsp
  refine ⟨rfl, hb, hl, fun i x hx => ?_⟩
  have hi : i < n := by rw [← hl]; exact (List.getElem?_eq_some_iff.1 hx).1
  have := hc i hi
  rw [addr_add] at this
  exact this.trans hx
theorem trod_parts {t : TypeId} {ps : List (TypeId × Nat)} {fuel : Nat} {cs : List Value} {x : DataW H × List MemPlace} (hp : partsOf P t = some ps) (h : DataW.trod enc P w base spare held fuel t cs = some x) :
    cs.length = P.cellsOf t ∧ ∃ m, ∀ (i : Nat) (e : TypeId) (o : Nat), ps[i]? = some (e, o) → ∃ y, DataW.trod enc P w base spare held m e ((cs.drop o).take (P.cellsOf e)) = some y := by
  unfold partsOf at hp
  split at hp
  · rename_i fs ht
    cases hp
    obtain ⟨xs, n, _, _, hl, hx, hi⟩ := DataW.trod_struct ht h
    refine ⟨hl, n, fun i e o he => ?_⟩
    rw [List.getElem?_map] at he
    cases hf : fs.toList[i]? with
    | none => rw [hf] at he; cases he
    | some f =>
      rw [hf] at he
      cases he
      have hf' : fs[i]? = some f := by simpa using hf
      have := hi i f hf'
      have hlt : i < xs.length := by rw [hx]; exact (Array.getElem?_eq_some_iff.1 hf').1
      exact ⟨xs[i], by rw [this]; exact List.getElem?_eq_getElem hlt⟩
  · rename_i n e ht
    cases hp
    obtain ⟨xs, m, _, _, hl, hx, hi⟩ := DataW.trod_array ht h
    refine ⟨hl, m, fun i e' o he => ?_⟩
    rw [List.getElem?_map] at he
    by_cases hin : i < n
    · rw [List.getElem?_range hin] at he
      cases he
      have := hi i hin
      exact ⟨xs[i], by rw [this]; exact List.getElem?_eq_getElem (by omega)⟩
    · rw [List.getElem?_eq_none (by simpa using hin)] at he; cases he
  · cases hp
mutual
theorem open_ok : ∀ (s : Shp) (t : TypeId) (fuel : Nat) (cs : List Value) (x : DataW H × List MemPlace), shpOk P t s = true → DataW.trod enc P w base spare held fuel t cs = some x →
    ∃ y, Fits s y ∧ Rc (Cx.init ι w) y cs
  | .int k, t, fuel, cs, x, hs, h => by
    simp only [shpOk] at hs
    split at hs
    · rename_i k' ht
      simp only [beq_iff_eq] at hs
      subst hs
      obtain ⟨n, rfl, _, hw⟩ := DataW.trod_int ht h
      simp only [Lit.wf, Bool.and_eq_true, decide_eq_true_eq] at hw
      exact ⟨.int k' n, by simp only [Fits]; exact ⟨n, rfl, hw⟩, by simp [Rc]⟩
    · cases hs
  | .bool, t, fuel, cs, x, hs, h => by
    simp only [shpOk] at hs
    split at hs
    · rename_i ht
      cases fuel with
      | zero => simp [DataW.trod] at h
      | succ n =>
        unfold DataW.trod at h
        rw [ht] at h
        split at h <;> simp_all
        rename_i b
        exact ⟨.bool b, by simp only [Fits]; exact ⟨_, rfl⟩, by simp [Rc]⟩
    · cases hs
  | .sl s, t, fuel, cs, x, hs, h => by
    simp only [shpOk] at hs
    split at hs
    · rename_i e he
      simp only [Bool.and_eq_true, Bool.not_eq_true', beq_eq_false_iff_ne] at hs
      rcases DataW.trod_slice (sliceB_inv he) h with ⟨rfl, _⟩ | ⟨a, len, cap, elems, rest, n, _, rfl, _, hb, hl, hm, hlen, hel, _, _⟩
      · exact ⟨.isl [], by simp only [Fits]; exact ⟨[], rfl, Nat.zero_le _, fun y hy => by cases hy⟩, by simp only [Rc]; exact ⟨rfl, _, rfl, none, 0, rfl, .inl rfl⟩⟩
      · have each : ∀ i, i < len → ∃ cs' y, w.cells? base (a.add (i * P.cellsOf e)) (P.cellsOf e) = some cs' ∧ Fits s y ∧ Rc (Cx.init ι w) y cs' := by
          intro i hi
          have h1 := hel i hi
          have h2 : elems[i]? = some elems[i] := List.getElem?_eq_getElem (by omega)
          rw [h2] at h1
          cases hc : w.cells? base (a.add (i * P.cellsOf e)) (P.cellsOf e) with
          | none => rw [hc] at h1; cases h1
          | some cs' =>
            rw [hc] at h1
            obtain ⟨y, hy1, hy2⟩ := open_ok s e n cs' _ hs.2 h1
            exact ⟨cs', y, rfl, hy1, hy2⟩
        have hrow : ∀ k, k ≤ len → ∃ (l : List AV) (css : List (List Value)), l.length = k ∧ (∀ y ∈ l, Fits s y) ∧ Rcl (Cx.init ι w) l css ∧ (∀ c ∈ css, c.length = P.cellsOf e) ∧
            (k = 0 ∨ (a.spot = none ∧ a.block < w.heap.size)) ∧ cellsAt w a.block a.off css.flatten := by
          intro k
          induction k with
          | zero => intro _; exact ⟨[], [], rfl, fun y hy => (by cases hy), rfl, fun c hc => (by cases hc), .inl rfl, fun i x hx => by simp at hx⟩
          | succ k ih =>
            intro hk
            obtain ⟨l, css, i1, i2, i3, i4, i5, i6⟩ := ih (by omega)
            obtain ⟨cs', y, h1, h2, h3⟩ := each k (by omega)
            obtain ⟨s1, s2, s3, s4⟩ := cells_at h1 hs.1
            have hsp : a.spot = none := by
              obtain ⟨b, off, sp⟩ := a
              cases sp with
              | none => rfl
              | some q => simp [Addr.add] at s1; split at s1 <;> simp_all
            obtain ⟨b, off, sp⟩ := a
            simp only at hsp
            subst hsp
            rw [addr_add] at s2 s4
            have hcl := Rcl_count _ _ i3
            refine ⟨l ++ [y], css ++ [cs'], by simp [i1], fun z hz => ?_, Rcl_append _ _ _ _ i3 (by simp only [Rcl]; exact ⟨cs', [], rfl, h3, rfl⟩), fun c hc => ?_, .inr ⟨rfl, s2⟩, ?_⟩
            · rcases List.mem_append.1 hz with hz | hz
              · exact i2 z hz
              · simp at hz; subst hz; exact h2
            · rcases List.mem_append.1 hc with hc | hc
              · exact i4 c hc
              · simp at hc; subst hc; exact s3
            · intro i x hx
              rw [List.flatten_append, List.flatten_singleton] at hx
              have hfl := uniform_len css i4
              rw [hcl, i1] at hfl
              by_cases hi : i < css.flatten.length
              · rw [List.getElem?_append_left hi] at hx
                exact i6 i x hx
              · rw [List.getElem?_append_right (by omega)] at hx
                have := s4 (i - css.flatten.length) x hx
                rw [← this]
                simp only
                congr 2
                omega
        obtain ⟨l, css, i1, i2, i3, i4, i5, i6⟩ := hrow len (Nat.le_refl _)
        refine ⟨.isl l, by simp only [Fits]; exact ⟨l, rfl, by omega, i2⟩, ?_⟩
        simp only [Rc]
        refine ⟨hasRefs_of_mem fun y hy => Fits_ref s y (i2 y hy), _, rfl, some a, cap, by rw [i1], ?_⟩
        rcases i5 with h0 | ⟨h1, h2⟩
        · exact .inl (by omega)
        · obtain ⟨b, off, sp⟩ := a
          simp only at h1
          subst h1
          exact .inr ⟨b, off, css, P.cellsOf e, rfl, h2, by omega, i3, i4, i6⟩
    · cases hs
  | .agg ss, t, fuel, cs, x, hs, h => by
    simp only [shpOk] at hs
    split at hs
    · rename_i ps hp
      obtain ⟨hl, m, hi⟩ := trod_parts hp h
      obtain ⟨ys, css, h1, h2, h3⟩ := opens_ok ss ps 0 (P.cellsOf t) m cs hs hl hi
      refine ⟨.agg ys, by simp only [Fits]; exact ⟨ys, rfl, h1⟩, ?_⟩
      simp only [Rc]
      exact ⟨css, h2, by simpa using h3⟩
    · cases hs
theorem opens_ok : ∀ (ss : List Shp) (ps : List (TypeId × Nat)) (off total m : Nat) (cs : List Value), shpsOk P off total ps ss = true → cs.length = total →
    (∀ (i : Nat) (e : TypeId) (o : Nat), ps[i]? = some (e, o) → ∃ y : DataW H × List MemPlace, DataW.trod enc P w base spare held m e ((cs.drop o).take (P.cellsOf e)) = some y) →
    ∃ ys css, Fitss ss ys ∧ Rcl (Cx.init ι w) ys css ∧ cs.drop off = css.flatten
  | [], [], off, total, m, cs, hs, hl, _ => by
    simp only [shpsOk, beq_iff_eq] at hs
    exact ⟨[], [], rfl, rfl, by rw [hs, ← hl]; simp⟩
  | [], _ :: _, off, total, m, cs, hs, hl, _ => by simp [shpsOk] at hs
  | _ :: _, [], off, total, m, cs, hs, hl, _ => by simp [shpsOk] at hs
  | s :: ss, (t, o) :: ps, off, total, m, cs, hs, hl, hi => by
    simp only [shpsOk, Bool.and_eq_true, beq_iff_eq] at hs
    obtain ⟨⟨rfl, h1⟩, h2⟩ := hs
    obtain ⟨y, hy⟩ := hi 0 t o rfl
    obtain ⟨z, z1, z2⟩ := open_ok s t m _ y h1 hy
    obtain ⟨ys, css, e1, e2, e3⟩ := opens_ok ss ps _ total m cs h2 hl fun i e o' he => hi (i + 1) e o' (by simpa using he)
    refine ⟨z :: ys, _ :: css, by simp only [Fitss]; exact ⟨z, ys, rfl, z1, e1⟩, by simp only [Rcl]; exact ⟨_, css, rfl, z2, e2⟩, ?_⟩
    rw [List.flatten_cons, ← e3, ← List.drop_drop, List.take_append_drop]
end
theorem open_arg {s : Shp} {r : Reach} {b0 : Nat} {t : TypeId} {v : Value} {d : DataW H} {ps : List MemPlace} (hs : shpOk P t s = true) (hv : Value.okWide P w r b0 t v)
    (h : DataW.Trod enc P w base spare held t v d ps) : ∃ y, Fits s y ∧ Rv (Cx.init ι w) y v := by
  obtain ⟨fuel, hf⟩ := h
  obtain ⟨y, h1, h2⟩ := open_ok (ι := ι) s t fuel _ _ hs hf
  refine ⟨y, h1, ?_⟩
  have hno : ∀ (v : Value), vIsA v = false → y.isA = false → Rc (Cx.init ι w) y v.cells.toList → Rv (Cx.init ι w) y v := fun v h3 h4 h5 => by
    rw [cells_one h3] at h5; exact Rv_one h5 h4 h3
  cases s with
  | int k =>
    simp only [Fits] at h1
    obtain ⟨n, rfl, _⟩ := h1
    simp only [shpOk] at hs
    split at hs
    · rename_i k' hk
      refine hno v ?_ rfl h2
      cases v <;> first | rfl | (simp only [Value.okWide, hk, Cell.okWide, Cell.ok] at hv)
    · cases hs
  | bool =>
    simp only [Fits] at h1
    obtain ⟨n, rfl⟩ := h1
    simp only [shpOk] at hs
    split at hs
    · rename_i hk
      refine hno v ?_ rfl h2
      cases v <;> first | rfl | (simp only [Value.okWide, hk, Cell.okWide, Cell.ok] at hv)
    · cases hs
  | sl s =>
    simp only [Fits] at h1
    obtain ⟨l, rfl, _⟩ := h1
    simp only [shpOk] at hs
    split at hs
    · rename_i e he
      obtain ⟨a, len, cap, rfl⟩ := Go.WideShapes.okWide_slice (sliceB_inv he) hv
      exact hno _ rfl rfl h2
    · cases hs
  | agg ss =>
    simp only [Fits] at h1
    obtain ⟨l, rfl, _⟩ := h1
    simp only [shpOk] at hs
    have : ∃ cs, v = .agg cs := by
      split at hs
      · rename_i ps hp
        unfold partsOf at hp
        split at hp
        · rename_i fs ht
          simp only [Value.okWide, ht] at hv
          obtain ⟨cs, e, _⟩ := hv; exact ⟨cs, e⟩
        · rename_i n e ht
          simp only [Value.okWide, ht] at hv
          obtain ⟨cs, e, _⟩ := hv; exact ⟨cs, e⟩
        · cases hp
      · cases hs
    obtain ⟨cs, rfl⟩ := this
    exact Rv_of h2 rfl
end
theorem law_calls {P : Program} {ι : Nat → FuncId} {pureF : Nat → Bool} {E : CallF} {GP : Nat → Option AFun} (T : Tied P ι pureF E GP) {g : Nat} {xs : List AV} {H' : Heap} {b : Bool} {vals : List Value} {W : World}
    (h : call E GP g xs [] = some (.bool true, H', b)) (hr : Rvs (Cx.init ι W) xs vals) (henter : ∀ args w, (callFunc (ι g) args).run P w = .ok (.enter (ι g) args) w) :
    Calls P (ι g) vals.toArray W fun e w' => e = .returned (.bool true) ∧ Below W.heap.size W w' := by
  have hc := call_sound T g xs [] _ _ _ h W.heap.size (Cx.init ι W) vals rfl (Sim.init ι W) hr
  have hw : (Cx.init ι W).w = W := rfl
  rw [hw] at hc
  unfold Called at hc
  rw [henter] at hc
  refine Calls.mono hc fun e w' he => ?_
  cases e with
  | returned v =>
    obtain ⟨C', rfl, hst, hv⟩ := he
    exact ⟨by rw [Rv_bool hv], hst.below⟩
  | panicked _ => exact he.elim
  | outgrown => exact he.elim
end Tor
namespace Tor
open Go
def pS : Shp := .agg [.int .i8, .int .i8]
theorem fits_pA {y : AV} (h : Fits pS y) : ∃ p : Int × Int, y = pA p ∧ (-128 ≤ p.1 ∧ p.1 ≤ 127) ∧ (-128 ≤ p.2 ∧ p.2 ≤ 127) := by
  simp only [pS, Fits, Fitss] at h
  obtain ⟨l, rfl, x, r, rfl, ⟨n, rfl, hn⟩, x2, r2, rfl, ⟨m, rfl, hm⟩, rfl⟩ := h
  exact ⟨(n, m), rfl, hn, hm⟩
theorem fits_list {S : Shp} {α : Type} {f : α → AV} {Q : α → Prop} (h : ∀ y, Fits S y → ∃ p, y = f p ∧ Q p) : ∀ (l : List AV), (∀ y ∈ l, Fits S y) → ∃ m : List α, l = m.map f ∧ ∀ p ∈ m, Q p
  | [], _ => ⟨[], rfl, fun p hp => by cases hp⟩
  | y :: r, hl => by
    obtain ⟨p, rfl, hp⟩ := h y (hl y (.head _))
    obtain ⟨m, rfl, hm⟩ := fits_list h r fun z hz => hl z (.tail _ hz)
    exact ⟨p :: m, rfl, fun q hq => by
      cases hq with
      | head => exact hp
      | tail _ hq => exact hm q hq⟩
theorem fits_pAs {x : AV} (h : Fits (.sl pS) x) : ∃ l : List (Int × Int), x = .isl (l.map pA) ∧ ∀ p ∈ l, (-128 ≤ p.1 ∧ p.1 ≤ 127) ∧ (-128 ≤ p.2 ∧ p.2 ≤ 127) := by
  simp only [Fits] at h
  obtain ⟨l, rfl, _, hl⟩ := h
  obtain ⟨m, rfl, hm⟩ := fits_list (fun y hy => fits_pA hy) l hl
  exact ⟨m, rfl, hm⟩
end Tor
namespace Tor
open Go
def dS : Shp := .agg [.int .i8, .int .i8, .int .i8, .int .i8]
def mS : Shp := .agg [.int .u8, .sl dS]
theorem fits_gA {y : AV} (h : Fits dS y) : ∃ p : Dg, y = gA p ∧ p.ok := by
  simp only [dS, Fits, Fitss] at h
  obtain ⟨l, rfl, x, r, rfl, ⟨a, rfl, ha⟩, x2, r2, rfl, ⟨b, rfl, hb⟩, x3, r3, rfl, ⟨c, rfl, hc⟩, x4, r4, rfl, ⟨d, rfl, hd⟩, rfl⟩ := h
  exact ⟨⟨a, b, c, d⟩, rfl, ha, hb, hc, hd⟩
theorem fits_mS {y : AV} (h : Fits mS y) : ∃ (k : Nat) (ds : List Dg), y = .agg [.int .u8 k, .isl (ds.map gA)] ∧ k < 256 ∧ ∀ x ∈ ds, x.ok := by
  simp only [mS, Fits, Fitss] at h
  obtain ⟨l, rfl, x, r, rfl, ⟨a, rfl, ha⟩, x2, r2, rfl, ⟨l2, rfl, _, hl2⟩, rfl⟩ := h
  obtain ⟨ds, rfl, hds⟩ := fits_list (fun y hy => fits_gA hy) l2 hl2
  have h1 : (0 : Int) ≤ a := ha.1
  have h2 : a ≤ 255 := ha.2
  refine ⟨a.toNat, ds, ?_, by omega, hds⟩
  rw [Int.toNat_of_nonneg h1]
theorem law123 (xs : List AV) (h : Fitss [.agg [.int .u8, .sl (.agg [.int .i8, .int .i8, .int .i8, .int .i8])], .sl pS, .int .i8] xs) : call E1 GP 123 xs [] = some (.bool true, [], false) := by
  simp only [Fitss] at h
  obtain ⟨x, r, rfl, hx, y, s, rfl, hy, z, t, rfl, hz, rfl⟩ := h
  obtain ⟨k, ds, rfl, hk, hds⟩ := fits_mS hx
  obtain ⟨l, rfl, hl⟩ := fits_pAs hy
  simp only [Fits] at hz
  obtain ⟨n, rfl, hn⟩ := hz
  exact matches_true k hk ds hds l (fun p hp => (hl p hp).2) n hn []
end Tor
namespace Tor
open Go
theorem vec_chR {c : List Cel} {s : GS} {m : Nat} (g : Good c s m) (k : Int) (r : List Int) (hr : r.length = (cellsC c k).length) : vec26 c k (chR (cellsC c k) r) = (r, 0) := by
  have hf : ∀ p ∈ chR (cellsC c k) r, (findC c p.1).isSome = true ∧ (cellOf? c p.1).dim = k := fun p hp => by
    obtain ⟨x, hx, hd, hid⟩ := cells_mem.1 (chR_keys _ _ p hp)
    rw [← hid]
    exact ⟨by rw [find_mem g.ids hx]; rfl, by rw [cellC_mem g.ids hx]; exact hd⟩
  have hdim := dim_all c k (chR (cellsC c k) r) true (-1) false (fun p hp => (hf p hp).1) (fun p hp => (hf p hp).2) (.inl rfl)
  have hd : dim26 c (chR (cellsC c k) r) = (if chR (cellsC c k) r = [] then -1 else k, 0) := by unfold dim26; rw [hdim]; rfl
  unfold vec26
  rw [hd]
  rw [if_neg (by simp), if_neg (fun h => by
    obtain ⟨h1, h2⟩ := h
    simp only at h2
    rw [if_neg h1] at h2; exact h2 rfl)]
  congr 1
  unfold vecV
  apply List.ext_getElem (by simp [hr])
  intro j h1 h2
  have hj : j < (cellsC c k).length := by simpa using h1
  rw [List.getElem_map, last_look (chR_canon _ _)]
  have := chR_look (r := r) (cells_nodup g.ids k) hj
  simpa [List.getD, hj, h2] using this
theorem rows_true (k : Nat) (hk : k < 256) (ds : List Dg) (hds : ∀ x ∈ ds, x.ok) (d : List Int) (hdl : d.length ≤ 9223372036854775807) (hd8 : ∀ x ∈ d, -128 ≤ x ∧ x ≤ 127) (u v : Int) (hu : -128 ≤ u ∧ u ≤ 127) (hv : -128 ≤ v ∧ v ≤ 127) (H : Heap) :
    call E1 GP 124 [.agg [.int .u8 k, .isl (ds.map gA)], .isl (d.map bA), .agg [.int .i8 u, .int .i8 v]] H = some (.bool true, H, false) := by
  obtain ⟨c, s, m, g, hm, hf, hmade⟩ := r26_made k hk ds hds
  have hlen := g.len
  have wz : IntKind.i64.wrap (u.tmod 5) = u.tmod 5 := by
    have t1 := Int.tmod_lt_of_pos u (show (0 : Int) < 5 by omega)
    have t2 := Int.lt_tmod_of_pos u (show (0 : Int) < 5 by omega)
    exact i64w (by omega)
  generalize hq : u.tmod 5 = q at *
  have hcells := fun H => r25_cells free1 c q (by omega) H
  have hlc := cellsC_len c q
  have t1 := Int.tmod_lt_of_pos v (show (0 : Int) < 2 by omega)
  have t2 := Int.lt_tmod_of_pos v (show (0 : Int) < 2 by omega)
  have wt : IntKind.i64.wrap (v.tmod 2) = v.tmod 2 := i64w (by omega)
  generalize ht : v.tmod 2 = t at *
  have wa : IntKind.i64.wrap (((cellsC c q).length : Int) + t) = ((cellsC c q).length : Int) + t := i64w (by omega)
  obtain ⟨n, hn8, hn1, hn2⟩ : ∃ n : Nat, n ≤ 8 ∧ (if (0 : Int) > ((cellsC c q).length : Int) + t then (0 : Int) else ((cellsC c q).length : Int) + t) = (if (0 : Int) > ((cellsC c q).length : Int) + t then (0 : Int) else ((cellsC c q).length : Int) + t) ∧
      (if (8 : Int) < (if (0 : Int) > ((cellsC c q).length : Int) + t then (0 : Int) else ((cellsC c q).length : Int) + t) then (8 : Int) else (if (0 : Int) > ((cellsC c q).length : Int) + t then (0 : Int) else ((cellsC c q).length : Int) + t)) = (n : Int) := by
    by_cases a1 : (0 : Int) > ((cellsC c q).length : Int) + t
    · exact ⟨0, by omega, rfl, by rw [if_pos a1, if_neg (by omega)]; rfl⟩
    · by_cases a2 : (8 : Int) < ((cellsC c q).length : Int) + t
      · exact ⟨8, by omega, rfl, by rw [if_neg a1, if_pos a2]; rfl⟩
      · exact ⟨(((cellsC c q).length : Int) + t).toNat, by omega, rfl, by rw [if_neg a1, if_neg a2]; omega⟩
  have hrow := fun H => r5_vector free1 n (by omega) d hdl hd8 H
  have hrb := fillRow_bd free1 d hd8 n 0
  have hrl : (fillRow d n 0).length = n := by simp [fillRow]
  generalize fillRow d n 0 = r at *
  have hB := big_le
  have hN : 9 * (r.length + 1) < BIG := by omega
  have hkeys := sums_keys (P := fun n => in64 n = true) ((cellsC c q).zip r) [] (fun p hp => key_in g (by omega) (zip_keys p hp)) (fun p hp => by cases hp)
  have hzl : ((cellsC c q).zip r).length ≤ 16 := by simp; omega
  have hsl : (sums ((cellsC c q).zip r) []).length ≤ 16 := by have := hkeys.2; rw [List.length_nil, Nat.zero_add] at this; omega
  have sS := (sums_law ((cellsC c q).zip r) [] sums_nil).1
  have h24 := fun H => c_chainrow free1 c q r 9 (by omega) (by omega) hrb hN (ksOf (sums ((cellsC c q).zip r) [])) (srt1 _ (by omega) hkeys.1) (by simp [ksOf, sortI_len]; omega) H
  rw [make_eq _ _ (ksOf_lt _ sS) (ksOf_mem _)] at h24
  rw [show ((cellsC c q).zip r).foldl insert26 [] = chR (cellsC c q) r from rfl] at h24
  have h58 := fun H => r26_chain free1 c q r 9 (by omega) (by omega) hrb hN H
  have ech : chain26 c q r = (if r.length = (cellsC c q).length then chR (cellsC c q) r else [], if r.length = (cellsC c q).length then 0 else 50) := by
    unfold chain26
    by_cases h : r.length = (cellsC c q).length
    · rw [if_neg (by simpa using h), if_pos h, if_pos h]
    · rw [if_pos h, if_neg h, if_neg h]
  rw [ech] at h58
  have hsan := san
  have hrd := refs_gA ds
  have hrc := refs_cA c
  have hrdb := refs_bA d
  have hri := refs_iA (cellsC c q)
  have hrr := refs_rowA r
  have lr := rowA_len r
  have fitr : ∀ y ∈ r, Fit y := fun y hy => fit_big (by have := hrb y hy; omega)
  rw [call_fun (by rfl) (f := a124) rfl rfl]
  by_cases h : r.length = (cellsC c q).length
  · simp only [if_pos h] at h24 h58
    have hch : ∀ p ∈ chR (cellsC c q) r, Sm p := fun p hp => sm_of (N := 9) (by omega) (chR_bd (cells_nodup g.ids q) hrb p hp)
    have hcl := chR_len (cellsC c q) r
    have s10 := fun H => r26_same free1 (chR (cellsC c q) r) (chR (cellsC c q) r) hch hch (by omega) H
    have v8 := fun H => c_vector free1 c q (chR (cellsC c q) r) g.ids (by omega) (by omega) H
    rw [vec_chR g q r h] at v8
    have v13 := fun H => r5_samevec free1 r r fitr fitr (by omega) H
    have hrx := refs_fA (chR (cellsC c q) r)
    generalize chR (cellsC c q) r = x at *
    have hc1 : (r.length : Int) = ((cellsC c q).length : Int) := by omega
    generalize cellsC c q = ids at *
    simp (config := {maxSteps := 4000000}) only [sim, sik, sil, sit, simprocAttr, Int.cast_ofNat_Int, List.take_length, List.length_map, List.contains_cons, List.contains_nil, doBox, foldMM, Bool.false_eq_true, a124, a124r0_ev, a124r1_ev, a124r2_ev, a124r3_ev, a124r4_ev, a124r5_ev, a124r6_ev, a124r7_ev, a124r9_ev, a124r11_ev, a124r12_ev, hrd, hrc, hrdb, hri, hrr, hrx, lr, hsan, hmade, hq, ht, wz, wt, wa, hcells, hn2, hrow, h24, h58, s10, v8, v13, hc1, decide_true, decide_false, Bool.and_self, beq_self_eq_true, ne_eq, not_true_eq_false, bne_self_eq_false, Bool.not_true]
  · simp only [if_neg h] at h24 h58
    have s10 := fun H => r26_same free1 [] [] (fun p hp => by cases hp) (fun p hp => by cases hp) (by simp) H
    have hc1 : ¬ (r.length : Int) = ((cellsC c q).length : Int) := by omega
    simp only [List.map_nil] at s10 h24 h58
    generalize cellsC c q = ids at *
    simp (config := {maxSteps := 4000000}) only [sim, sik, sil, sit, simprocAttr, Int.cast_ofNat_Int, List.take_length, List.length_map, List.contains_cons, List.contains_nil, doBox, foldMM, Bool.false_eq_true, a124, a124r0_ev, a124r1_ev, a124r2_ev, a124r3_ev, a124r4_ev, a124r5_ev, a124r6_ev, a124r7_ev, a124r9_ev, a124r10_ev, hrd, hrc, hrdb, hri, hrr, lr, hsan, hmade, hq, ht, wz, wt, wa, hcells, hn2, hrow, h24, h58, s10, hc1, decide_true, decide_false, Bool.and_self, beq_self_eq_true, ne_eq, not_true_eq_false, not_false_eq_true, bne_self_eq_false, Bool.not_true, List.length_nil]
theorem fits_bA {y : AV} (h : Fits (.int .i8) y) : ∃ p : Int, y = bA p ∧ (-128 ≤ p ∧ p ≤ 127) := by
  simp only [Fits] at h
  obtain ⟨n, rfl, hn⟩ := h
  exact ⟨n, rfl, hn⟩
theorem law124 (xs : List AV) (h : Fitss [.agg [.int .u8, .sl (.agg [.int .i8, .int .i8, .int .i8, .int .i8])], .sl (.int .i8), .agg [.int .i8, .int .i8]] xs) : call E1 GP 124 xs [] = some (.bool true, [], false) := by
  simp only [Fitss] at h
  obtain ⟨x, r, rfl, hx, y, s, rfl, hy, z, t, rfl, hz, rfl⟩ := h
  obtain ⟨k, ds, rfl, hk, hds⟩ := fits_mS hx
  simp only [Fits] at hy
  obtain ⟨l, rfl, hl, hy⟩ := hy
  obtain ⟨d, rfl, hd⟩ := fits_list (fun y hy => fits_bA hy) l hy
  simp only [Fits, Fitss] at hz
  obtain ⟨l2, rfl, x, r, rfl, ⟨a, rfl, ha⟩, x2, r2, rfl, ⟨b, rfl, hb⟩, rfl⟩ := hz
  exact rows_true k hk ds hds d (by simpa [maxLen] using hl) hd a b ha hb []
end Tor
namespace Tor
open Go Go.RowKit Go.Maps Go.Sort Go.Shelf Go.Proofs
open Go.WideElems (Fit rd rg pl rd_val elemAt rd_mk rg_of)
def R0 : Value → Option (DataW Nat × List MemPlace) := fun _ => some (.lit (.bool false), [])
theorem in64_wf {n : Int} (h : in64 n = true) : (Lit.int .i64 n).wf = true := by
  have h : -9223372036854775808 ≤ n ∧ n ≤ 9223372036854775807 := of_decide_eq_true h
  simp only [Lit.wf, Bool.and_eq_true, IntKind.min, IntKind.max]
  simp [IntKind.signed, IntKind.bits] at *
  omega
theorem MapR_rd {P : Program} {k : TypeId} (hk : P.underlying k = some (.int .i64)) {C : Cx} {kvs es} (h : MapR C kvs es) (ha : ∀ p ∈ kvs, in64 p.1 = true) :
    (∀ x ∈ es, ∃ y, rd P k R0 x = some y) ∧ es.map (fun x => Go.intOf (rg P k R0 x).1) = kvs.map (·.1) ∧ es.length = kvs.length := by
  induction h with
  | nil => exact ⟨fun x hx => (by cases hx), rfl, rfl⟩
  | @cons n x e r es hkey _ _ _ ih =>
    obtain ⟨i1, i2, i3⟩ := ih fun p hp => ha p (.tail _ hp)
    have hw := in64_wf (ha (n, x) (.head _))
    have hr : rd P k R0 e = some (.int .i64 n, .lit (.bool false)) := by
      obtain ⟨key, val, born⟩ := e
      simp only at hkey
      subst hkey
      exact rd_mk (R := R0) (yv := (.lit (.bool false), [])) (keyOf_int_mk hk hw) rfl
    refine ⟨fun z hz => ?_, ?_, by simp [i3]⟩
    · rcases List.mem_cons.1 hz with rfl | hz
      · exact ⟨_, hr⟩
      · exact i1 z hz
    · simp only [List.map_cons, i2, rg_of hr]; rfl
theorem insI_perm (k : Int) : ∀ l : List Int, (insI k l).Perm (k :: l)
  | [] => .refl _
  | j :: r => by
    simp only [insI]
    split
    · exact .refl _
    · exact ((insI_perm k r).cons j).trans (.swap k j r)
theorem sortI_perm : ∀ l : List Int, (sortI l).Perm l
  | [] => .refl _
  | k :: r => (insI_perm k _).trans ((sortI_perm r).cons k)
theorem insI_le (k : Int) : ∀ l : List Int, l.Pairwise (fun a b => leI a b = true) → (insI k l).Pairwise (fun a b => leI a b = true)
  | [], _ => by simp [insI]
  | j :: r, h => by
    rw [List.pairwise_cons] at h
    simp only [insI]
    split
    · rename_i hkj
      refine List.pairwise_cons.2 ⟨fun q hq => ?_, List.pairwise_cons.2 h⟩
      simp only [leI, decide_eq_true_eq]
      rcases List.mem_cons.1 hq with rfl | hq
      · exact hkj
      · have := h.1 q hq; simp only [leI, decide_eq_true_eq] at this; omega
    · refine List.pairwise_cons.2 ⟨fun q hq => ?_, insI_le k r h.2⟩
      simp only [leI, decide_eq_true_eq]
      rcases (mem_insI k q r).1 hq with e | e
      · omega
      · have := h.1 q e; simpa only [leI, decide_eq_true_eq] using this
theorem sortI_le : ∀ l : List Int, (sortI l).Pairwise (fun a b => leI a b = true)
  | [] => .nil
  | k :: r => insI_le k _ (sortI_le r)
theorem sortI_of_perm {l l' : List Int} (h : l.Perm l') : l.mergeSort leI = sortI l' := by
  have tr : ∀ a b c : Int, leI a b = true → leI b c = true → leI a c = true := fun a b c h1 h2 => by simp only [leI, decide_eq_true_eq] at *; exact Int.le_trans h1 h2
  have to : ∀ a b : Int, (leI a b || leI b a) = true := fun a b => by simp only [leI, Bool.or_eq_true, decide_eq_true_eq]; exact Int.le_total a b
  refine List.Perm.eq_of_pairwise (le := fun a b => leI a b = true) (fun a b _ _ h1 h2 => ?_) (List.pairwise_mergeSort tr to l) (sortI_le l') (((List.mergeSort_perm l leI).trans h).trans (sortI_perm l').symm)
  simp only [leI, decide_eq_true_eq] at h1 h2
  exact Int.le_antisymm h1 h2
theorem E1_inv {g args H r H' b} (h : E1 g args H = some (r, H', b)) :
    g = 56 ∧ b = false ∧ H' = H ∧ ∃ o kvs, args = [.fn 72 [.bx o]] ∧ H[o]? = some (.map kvs) ∧ kvs.length ≤ 1000000 ∧ (∀ p ∈ kvs, in64 p.1 = true) ∧ r = .isl ((sortI (kvs.map (·.1))).map iA) := by
  unfold E1 at h
  split at h
  case isFalse => cases h
  rename_i hg
  unfold sortArgs at h
  split at h
  case h_2 => cases h
  rename_i o
  unfold sortedKeys at h
  split at h
  case h_2 => cases h
  rename_i kvs ho
  split at h
  case isFalse => cases h
  rename_i hh
  simp only [Option.some.injEq, Prod.mk.injEq] at h
  obtain ⟨rfl, rfl, rfl⟩ := h
  exact ⟨hg, rfl, rfl, o, kvs, rfl, ho, hh.1, fun p hp => (List.all_eq_true.1 hh.2) p hp, rfl⟩
theorem E1_keeps : CKeeps E1 := by
  intro g a H x H' b h _
  obtain ⟨_, rfl, rfl, _⟩ := E1_inv h
  exact Keeps.refl _
theorem E1_sound {P : Program} {ι : Nat → FuncId} {ρ ρ' : Ren} (LK : SlLaysZI.n10 P ρ) (LS : SlLaysZI.n6 P ρ') (hS : ∀ m, AnyZI.SortsIn P ρ' Fence.wide m) (e6 : Enters P (ρ'.f 6)) (e9 : Enters P (ρ'.f 9)) (eg : Enters P (ρ.f 10))
    (h72 : ι 72 = ρ.f 10) (h56 : ι 56 = ρ'.f 6) : SoundC P ι E1 := by
  intro g args H r H' b h base C vals hι hs hr
  obtain ⟨rfl, rfl, rfl, o, kvs, rfl, ho, hlen, hin, rfl⟩ := E1_inv h
  cases hr with
  | cons hx hr =>
    cases hr
    rename_i v
    have hv : ∃ a bm, v = .func (.func (C.ι 72)) #[] #[.pointer (some ⟨a, 0, none⟩)] ∧ C.β o 0 = some (some (bm, 0)) ∧ C.F a ∧ cellsAt C.w a 0 [.map (some bm)] := by
      rcases hx with (e | ⟨h1, h2⟩) | ⟨l, vs, e, _⟩
      · cases e
      · simp only [AV.isA] at h2
        rw [cells_one h2] at h1
        simp only [Rc, List.cons.injEq, and_true] at h1
        obtain ⟨_, vs, rfl, hl⟩ := h1
        simp only [Rcl, Rc] at hl
        obtain ⟨c, r, e, ⟨a, bm, h3, rfl, h4, h5⟩, rfl⟩ := hl
        obtain ⟨vs⟩ := vs
        cases vs with
        | nil => cases e
        | cons x t =>
          cases t with
          | nil => simp at e; subst e; exact ⟨a, bm, rfl, h3, h4, h5⟩
          | cons y t => simp at e
      · cases e
    obtain ⟨a, bm, rfl, hβ, hF, hc⟩ := hv
    obtain ⟨b2, es, clock, hβ2, hb, hm, hge, hnF⟩ := (hs.obj o _ ho).1
    rw [hβ] at hβ2
    obtain rfl : bm = b2 := by simpa using hβ2
    obtain ⟨k1, k2, k3⟩ := MapR_rd LK.t26 hm.1 hin
    have hown : C.w.ownsMap P (ρ.t 26) R0 bm 1000000 (.map ((es.toList.map (rg P (ρ.t 26) R0)).foldr DataW.insert [])) :=
      ⟨es, clock, hb, ⟨by rw [← Array.length_toList, k3]; unfold maxLen; omega, hm.2, k1⟩, by rw [← Array.length_toList, k3]; exact hlen, rfl⟩
    have ha : a < C.w.heap.size := hs.fsz a hF
    have hcell : C.w.cell? ⟨a, 0, none⟩ = some (.map (some bm)) := by simpa using hc 0 _ rfl
    have hsz : Maps.size (.map ((es.toList.map (rg P (ρ.t 26) R0)).foldr DataW.insert []) : DataW Nat) ≤ 1000000 := hown.size_le
    have hseq : SeqGives Fence.wide 2 P (ρ.f 10) #[.pointer (some ⟨a, 0, none⟩)] encZ _ _ C.w := AnyZI.keys_gives LK Fence.wide _ trivial rfl (by omega) a bm _ _ C.w ha hcell hown
    have cS := AnyZI.sorted_in LS Fence.wide 5 trivial trivial trivial trivial rfl (by omega) (hS _) e9 (ρ.f 10) #[.pointer (some ⟨a, 0, none⟩)] trivial eg _ _ (by unfold maxLen; omega) (by omega) _ hseq
    have cS := callsIn_wide.1 cS
    unfold Called
    rw [h56, e6 _ C.w]
    rw [hι, h72]
    refine Calls.mono cS fun e w' he => ?_
    obtain ⟨v, ss, rfl, hp, hrow, hnil, hbel⟩ := he
    have hkeys : intKeys (.map ((es.toList.map (rg P (ρ.t 26) R0)).foldr DataW.insert []) : DataW Nat) = _ := rfl
    have hperm : ss.Perm (kvs.map (·.1)) := by
      refine hp.trans ?_
      rw [← k2]
      have := (Go.WideShapes.sorted_perm (es.toList.map (rg P (ρ.t 26) R0))).map (fun (p : Lit × DataW Nat) => Go.intOf p.1)
      simpa [intKeys, Function.comp_def] using this
    have hsort := sortI_of_perm hperm
    rw [show (fun x y : Int => decide (x ≤ y)) = leI from rfl, hsort] at hrow
    have hsl : (sortI (kvs.map (·.1))).length = ss.length := by rw [← hsort]; simp
    let C' : Cx := { C with w := w', F := fun x => C.F x ∨ (C.w.heap.size ≤ x ∧ v.ownBlock = some x) }
    have hob : ∀ x, v.ownBlock = some x → C.w.heap.size ≤ x ∧ x < w'.heap.size := by
      intro x hx
      rcases hrow.2 with ⟨rfl, _⟩ | ⟨g, cap, cur, rfl, hbase, hg, _⟩
      · cases hx
      · simp only [Value.ownBlock, Option.some.injEq] at hx
        subst hx
        exact ⟨hbase, lt_of_heap hg⟩
    have hle : Le C C' := ⟨rfl, fun _ h => .inl h, fun _ _ _ h => h, fun x hx => hbel.block x (hs.fsz x hx), fun x s hx => (by
      have hlt : x < C.w.heap.size := by
        unfold World.shape? at hx
        split at hx
        · rename_i hh; exact lt_of_heap hh
        · cases hx
      rw [← hx]; show w'.shape? x = _
      unfold World.shape?
      rw [hbel.block x hlt])⟩
    have hsim : Sim base C' H' := hs.world hle (fun x hx => by
      rcases hx with hx | ⟨h1, h2⟩
      · exact ⟨Nat.lt_of_lt_of_le (hs.fsz x hx) hbel.size, .inl hx⟩
      · exact ⟨(hob x h2).2, .inr h1⟩) (fun _ _ => rfl) hbel.size (fun x hx _ _ => hbel.block x hx)
    refine ⟨C', rfl, ⟨hle, hsim, hbel.mono hs.bsz, fun x hx => ?_, fun x hx hnx hno => ⟨hbel.block x hx, fun h => h.elim hnx (fun h => by omega), fun o1 ob1 h1 hb1 => hno o1 ob1 h1 hb1⟩⟩, ?_⟩
    · rcases hx with hx | ⟨h1, _⟩
      · exact .inl hx
      · exact .inr (Nat.le_trans hs.bsz h1)
    · have hlit : ∀ (zs : List Int), Rcl C' (zs.map iA) (zs.map fun z => [encZ z]) := by
        intro zs
        induction zs with
        | nil => simp [Rcl]
        | cons z r ih => simp only [List.map_cons, Rcl, Rc, iA]; exact ⟨_, _, rfl, rfl, ih⟩
      have hnr : ∀ (zs : List Int), AV.hasRefs (zs.map iA) = false := by
        intro zs
        induction zs with
        | nil => rfl
        | cons z r ih => simp only [List.map_cons, AV.hasRefs, iA, AV.hasRef, Bool.false_or, ih]
      rcases hrow.2 with ⟨rfl, hz⟩ | ⟨g, cap, cur, rfl, hbase, hg, hcap, hmax, hsize, htake⟩
      · refine Rv_one ?_ rfl rfl
        simp only [Rc]
        refine ⟨hnr _, _, rfl, none, 0, by simp [hsl, hz], .inl (by simp [hsl, hz])⟩
      · refine Rv_one ?_ rfl rfl
        simp only [Rc]
        refine ⟨hnr _, _, rfl, _, cap, by simp [hsl], .inr ⟨g, 0, (sortI (kvs.map (·.1))).map fun z => [encZ z], 1, rfl, .inr ⟨hbase, rfl⟩, by simpa [hsl] using hcap, hlit _, fun c hc => ?_, ?_⟩⟩
        · obtain ⟨z, _, rfl⟩ := List.mem_map.1 hc; rfl
        · intro i x hx
          have hfl : ((sortI (kvs.map (·.1))).map fun z => [encZ z]).flatten = (sortI (kvs.map (·.1))).map encZ := by
            induction sortI (kvs.map (·.1)) with
            | nil => rfl
            | cons z r ih => simp [ih]
          rw [hfl, ← htake] at hx
          have h1 : cur.toList[i]? = some x := by
            rw [List.getElem?_take] at hx
            split at hx
            · exact hx
            · cases hx
          simp only [World.cell?, Nat.zero_add]
          show (match w'.heap[g]? with | _ => _) = _
          rw [hg]
          simpa using h1
end Tor
namespace Tor
open Go Go.RowKit Go.ChangeShapes
def shpAll (P : Program) : List TypeId → List Shp → Bool
  | [], [] => true
  | t :: ts, s :: ss => shpOk P t s && shpAll P ts ss
  | _, _ => false
theorem open_all {P : Program} {ι : Nat → FuncId} {w : World} {H : Type} {enc : TypeId × Value → H} {base b0 : Nat} {spare : Nat → Bool} {held : Bool} {r : Reach} :
    ∀ (ss : List Shp) (ts : List TypeId) (vs : List Value) (ds : List (DataW H)) (ps : List MemPlace), shpAll P ts ss = true → (∀ (j : Nat) t v, ts[j]? = some t → vs[j]? = some v → Value.okWide P w r b0 t v) →
      DataW.TrodAll enc P w base spare held ts vs ds ps → ∃ xs, Fitss ss xs ∧ Rvs (Cx.init ι w) xs vs
  | [], [], vs, ds, ps, _, _, h => by
    obtain ⟨rfl, _, _⟩ := trodAll_nil h
    exact ⟨[], rfl, .nil⟩
  | s :: ss, t :: ts, vs, ds, ps, hs, hv, h => by
    simp only [shpAll, Bool.and_eq_true] at hs
    obtain ⟨v, vs', d, ds', p, q, rfl, rfl, rfl, h1, h2⟩ := trodAll_cons h
    obtain ⟨y, y1, y2⟩ := open_arg (ι := ι) hs.1 (hv 0 t v rfl rfl) h1
    obtain ⟨xs, x1, x2⟩ := open_all ss ts vs' ds' q hs.2 (fun j t v ht hv' => hv (j + 1) t v (by simpa using ht) (by simpa using hv')) h2
    exact ⟨y :: xs, by simp only [Fitss]; exact ⟨y, xs, rfl, y1, x1⟩, .cons y2 x2⟩
  | [], _ :: _, _, _, _, hs, _, _ => by cases hs
  | _ :: _, [], _, _, _, hs, _, _ => by cases hs
def rowed (P : Program) (t : TypeId) : Bool := P.readableRec t && decide (t < P.types.size)
theorem keep_all {P : Program} {H : Type} {enc : TypeId × Value → H} (hl : laidOutB P = true) {W W' : World} (hb : Below W.heap.size W W') :
    ∀ (ts : List TypeId) (vs : List Value) (ds : List (DataW H)) (ps : List MemPlace), ts.all (rowed P) = true → (∀ x ∈ ps, x.block < W.heap.size) → DataW.TrodAll enc P W 0 (fun _ => true) true ts vs ds ps →
      DataW.TrodAll enc P W' 0 (fun b => decide (b < W.heap.size)) true ts vs ds ps
  | [], vs, ds, ps, _, _, h => by
    obtain ⟨rfl, rfl, rfl⟩ := trodAll_nil h
    exact trodAll_mk0
  | t :: ts, vs, ds, ps, ht, hp, h => by
    simp only [List.all_cons, Bool.and_eq_true, rowed, decide_eq_true_eq] at ht
    obtain ⟨v, vs', d, ds', p, q, rfl, rfl, rfl, h1, h2⟩ := trodAll_cons h
    exact trodAll_cons_mk (Below.trod hl ht.1.1 ht.1.2 h1 hb fun x hx => hp x (List.mem_append.2 (.inl hx)))
      (keep_all hl hb ts vs' ds' q (by simpa [rowed] using ht.2) (fun x hx => hp x (List.mem_append.2 (.inr hx))) h2)
theorem places_lt {P : Program} {H : Type} {enc : TypeId × Value → H} {W : World} {ts : List TypeId} {vs : List Value} {ds : List (DataW H)} {ps : List MemPlace} {base : Nat} {spare : Nat → Bool} {held : Bool}
    (h : DataW.TrodAll enc P W base spare held ts vs ds ps) : ∀ x ∈ ps, x.block < W.heap.size := h.lt
theorem pureE_of {pureF : Nat → Bool} {E : CallF} (h : ∀ g args H r, pureF g = true → E g args H = some r → False) : PureC pureF E := fun g hg args H r H' b he => (h g args H _ hg he).elim
end Tor
