/-
  A part of the proof: an abstract machine for the program, its soundness, and what the functions compute (Keep, Fz, Chk, Ok, Ok2, Reg, Cell).
  Conditions: none.
-/
import Derived.Test.YthcbpifkgolknaaDoorM01
import Derived.Test.YthcbpifkgolknaaDoorM05
import Derived.Calls
import Derived.Orders
set_option linter.unusedSectionVars false
set_option linter.unusedVariables false
set_option linter.unusedSimpArgs false
set_option linter.defProp false
namespace Tor
open Go
def underMap (n:Nat):List (Int × AV) → Bool
  | []=>true
  | (_,x) :: r=>x.under n && underMap n r
def AObj.under (n:Nat):AObj → Bool
  | .var x=>x.under n
  | .arr _ _ l=>AV.unders n l
  | .map kvs=>underMap n kvs
  | .dead=>true
def HUnder (n:Nat) (H:Heap):Prop:=∀ o ob,o < n → H[o]? = some ob → ob.under n = true
def Keeps (H H':Heap):Prop:=H.length ≤ H'.length ∧ ∀ n,n ≤ H.length → HUnder n H → HUnder n H'
theorem Keeps.refl (H:Heap):Keeps H H:=⟨Nat.le_refl _,fun _ _ h=>h⟩
theorem Keeps.trans {A B C:Heap} (h:Keeps A B) (k:Keeps B C):Keeps A C :=
  ⟨Nat.le_trans h.1 k.1,fun n hn hu=>k.2 n (Nat.le_trans hn h.1) (h.2 n hn hu)⟩
mutual
theorem noRef_under (n:Nat):∀ x:AV,x.hasRef = false → x.under n = true
  | .u,_=>rfl
  | .bool _,_=>rfl
  | .int _ _,_=>rfl
  | .a _,_=>rfl
  | .nl,_=>rfl
  | .bx _,h=>by cases h
  | .agg l,h=>by simp only [AV.hasRef] at h; simp only [AV.under]; exact noRefs_unders n l h
  | .isl _,_=>rfl
  | .iptr x,h=>by simp only [AV.hasRef] at h; simp only [AV.under]; exact noRef_under n x h
  | .ptr _ _ _,h=>by cases h
  | .sl _ _ _ _ _,h=>by cases h
  | .fn _ l,h=>by simp only [AV.hasRef] at h; simp only [AV.under]; exact noRefs_unders n l h
  | .mp _,h=>by cases h
  | .tup l,h=>by simp only [AV.hasRef] at h; simp only [AV.under]; exact noRefs_unders n l h
theorem noRefs_unders (n:Nat):∀ l:List AV,AV.hasRefs l = false → AV.unders n l = true
  | [],_=>rfl
  | x :: l,h=>by
    simp only [AV.hasRefs,Bool.or_eq_false_iff] at h
    simp only [AV.unders,Bool.and_eq_true]
    exact ⟨noRef_under n x h.1,noRefs_unders n l h.2⟩
end
theorem unders_all {n:Nat}:∀ l:List AV,AV.unders n l = true ↔ ∀ x ∈ l,x.under n = true
  | []=>by simp [AV.unders]
  | x :: l=>by simp [AV.unders,unders_all l]
theorem hasRefs_all:∀ l:List AV,AV.hasRefs l = false ↔ ∀ x ∈ l,x.hasRef = false
  | []=>by simp [AV.hasRefs]
  | x :: l=>by simp [AV.hasRefs,hasRefs_all l]
theorem upd_under {n:Nat}:∀ (p:List (Nat × Nat)) (x y x':AV),upd x p y = some x' → x.under n = true → y.under n = true → x'.under n = true
  | [],x,y,x',h,_,hy=>by
    simp only [upd] at h
    split at h
    · cases h; exact hy
    · cases h
  | (i,off) :: p,x,y,x',h,hx,hy=>by
    cases x with
    | agg l =>
      simp only [upd] at h
      split at h
      · split at h
        · rename_i z hz
          split at h
          · rename_i z' hz'
            cases h
            simp only [AV.under] at hx ⊢
            refine (unders_all _).2 (fun q hq=>?_)
            rcases List.mem_or_eq_of_mem_set hq with hq | rfl
            · exact (unders_all l).1 hx q hq
            · exact upd_under p z y _ hz' ((unders_all l).1 hx z (List.mem_of_getElem? hz)) hy
          · cases h
        · cases h
      · cases h
    | _=>simp [upd] at h
theorem keeps_push {H:Heap} (ob:AObj):Keeps H (H ++ [ob]):=by
  refine ⟨by simp,fun n hn hu o ob' ho h=>?_⟩
  rw [List.getElem?_append_left (by omega)] at h
  exact hu o ob' ho h
theorem keeps_set {H:Heap} {o:Nat} {ob ob':AObj} (ho:H[o]? = some ob) (h:∀ n,ob.under n = true → ob'.under n = true):Keeps H (H.set o ob'):=by
  refine ⟨by simp,fun n hn hu o1 ob1 ho1 h1=>?_⟩
  rw [List.getElem?_set] at h1
  split at h1
  · rename_i e
    subst e
    split at h1
    · cases h1; exact h n (hu _ _ ho1 ho)
    · cases h1
  · exact hu _ _ ho1 h1
theorem keeps_take {H H':Heap} (h:Keeps H H'):Keeps H (H'.take H.length):=by
  refine ⟨by rw [List.length_take]; exact Nat.le_min.2 ⟨Nat.le_refl _,h.1⟩,fun n hn hu o ob ho h1=>?_⟩
  rw [List.getElem?_take] at h1
  split at h1
  · exact h.2 n hn hu o ob ho h1
  · cases h1
def KeepsE (H:Heap) (r:Option (AV × Heap × Bool)):Prop:=∀ x H' b,r = some (x,H',b) → b = false → Keeps H H'
theorem objSet_under {n ob g p y ob'} (h:objSet ob g p y = some ob') (ho:ob.under n = true) (hy:y.under n = true):ob'.under n = true:=by
  cases ob with
  | var x =>
    simp only [objSet] at h
    split at h
    · split at h
      · rename_i x' hx'
        cases h
        exact upd_under p x y x' hx' ho hy
      · cases h
    · cases h
  | arr g' sz l =>
    cases p with
    | nil=>simp [objSet] at h
    | cons q p =>
      obtain ⟨i,off⟩:=q
      simp only [objSet] at h
      split at h
      · split at h
        · rename_i z hz
          split at h
          · rename_i z' hz'
            cases h
            simp only [AObj.under] at ho ⊢
            refine (unders_all _).2 (fun q hq=>?_)
            rcases List.mem_or_eq_of_mem_set hq with hq | rfl
            · exact (unders_all l).1 ho q hq
            · exact upd_under p z y _ hz' ((unders_all l).1 ho z (List.mem_of_getElem? hz)) hy
          · cases h
        · cases h
      · cases h
  | _=>simp [objSet] at h
theorem mset_under {n:Nat} (k:Int) (y:AV) (hy:y.under n = true):∀ kvs,underMap n kvs = true → underMap n (mset k y kvs) = true
  | [],_=>by simp [mset,underMap,hy]
  | (j,x) :: r,h=>by
    simp only [underMap,Bool.and_eq_true] at h
    simp only [mset]
    split
    · simp [underMap,hy,h.2]
    · simp [underMap,h.1,mset_under k y hy r h.2]
theorem mdel_under {n:Nat} (k:Int):∀ kvs,underMap n kvs = true → underMap n (mdel k kvs) = true
  | [],h=>h
  | (j,x) :: r,h=>by
    simp only [underMap,Bool.and_eq_true] at h
    simp only [mdel]
    split
    · exact h.2
    · simp [underMap,h.1,mdel_under k r h.2]
theorem keepsE_none {H}:KeepsE H none:=fun _ _ _ h=>by cases h
theorem keepsE_same {H x b}:KeepsE H (some (x,H,b)):=fun _ _ _ h _=>by cases h; exact Keeps.refl _
theorem keepsE_push {H x ob b}:KeepsE H (some (x,H ++ [ob],b)):=fun _ _ _ h _=>by cases h; exact keeps_push _
def CKeeps (C:CallF):Prop:=∀ g a H,KeepsE H (C g a H)
theorem aop_keeps {C:CallF} (hC:CKeeps C) {L st op x st'} (h:aop C L st op = some (x,st')) (hr:st'.rs = false):st.rs = false ∧ Keeps st.heap st'.heap:=by
  have hret:∀ r,ret st r = some (x,st') → st.rs = false ∧ Keeps st.heap st'.heap:=by
    intro r e
    cases r with
    | none=>cases e
    | some y=>cases e; exact ⟨hr,Keeps.refl _⟩
  have heff:∀ r,KeepsE st.heap r → eff st r = some (x,st') → st.rs = false ∧ Keeps st.heap st'.heap:=by
    intro r hk e
    cases r with
    | none=>cases e
    | some q =>
      obtain ⟨y,H',b⟩:=q
      cases e
      simp only [Bool.or_eq_false_iff] at hr
      exact ⟨hr.1,hk _ H' b rfl hr.2⟩
  cases op with
  | frz y =>
    refine heff _ ?_ h
    cases ev L st.vars y with
    | sl o g sz s len =>
      simp only [doFrz]
      cases he:elems st.heap (.sl o g sz s len) with
      | none=>exact keepsE_none
      | some l =>
        simp only [frzK]
        split
        · exact keepsE_none
        · intro _ _ _ e _
          cases e
          cases ho:st.heap[o]? with
          | none=>simp [elems,ho] at he
          | some ob=>exact keeps_set ho (fun _ _=>rfl)
    | _=>exact keepsE_none
  | box im y =>
    refine heff _ ?_ h
    unfold doBox
    split
    · split
      · exact keepsE_same
      · exact keepsE_push
    · exact keepsE_none
  | alloc z =>
    refine heff _ ?_ h
    split
    · exact keepsE_push
    · exact keepsE_none
  | nils sz=>exact heff _ keepsE_push h
  | bslice mt sz z n parts =>
    refine heff _ ?_ h
    cases (if z.size = sz ∧ z.hasRef = false then setAll (List.replicate n z) (parts.map fun p=>(p.1,ev L st.vars p.2)) else none) with
    | none=>exact keepsE_none
    | some l =>
      simp only [doBslice]
      split
      · exact keepsE_push
      · split
        · exact keepsE_none
        · exact keepsE_same
  | store sz ad y =>
    refine heff _ ?_ h
    cases ev L st.vars ad with
    | ptr o g p =>
      simp only [doStore]
      split
      · cases ho:st.heap[o]? with
        | none=>simp only [setIn,put]; exact keepsE_none
        | some ob =>
          simp only [setIn]
          cases hs:objSet ob g p (ev L st.vars y) with
          | none=>exact keepsE_none
          | some ob' =>
            intro _ _ _ e hb
            cases e
            exact keeps_set ho (fun n hu=>objSet_under hs hu (noRef_under n _ hb))
      · exact keepsE_none
    | _=>exact keepsE_none
  | mkmap=>exact heff _ keepsE_push h
  | mkslice sz bytes z n c =>
    refine heff _ ?_ h
    unfold doMkslice
    split
    · split
      · exact keepsE_push
      · exact keepsE_none
    · exact keepsE_none
  | slice0 sz y =>
    refine heff _ ?_ h
    unfold doSlice0
    split
    · exact keepsE_push
    · exact keepsE_push
    · exact keepsE_push
    · exact keepsE_none
  | mupd m k y =>
    refine heff _ ?_ h
    unfold doMupd
    split
    · rename_i o n _ _
      split
      · cases ho:st.heap[o]? with
        | none=>exact keepsE_none
        | some ob =>
          cases ob with
          | map kvs =>
            intro _ _ _ e hb
            cases e
            exact keeps_set ho (fun n' hu=>mset_under _ _ (noRef_under n' _ hb) _ hu)
          | _=>exact keepsE_none
      · exact keepsE_none
    · exact keepsE_none
  | mdel m k =>
    refine heff _ ?_ h
    unfold doMdel
    split
    · rename_i o n _ _
      cases ho:st.heap[o]? with
      | none=>exact keepsE_none
      | some ob =>
        cases ob with
        | map kvs =>
          intro _ _ _ e _
          cases e
          exact keeps_set ho (fun n' hu=>mdel_under _ _ hu)
        | _=>exact keepsE_none
    · exact keepsE_none
  | append sz bytes a b =>
    refine heff _ ?_ h
    unfold doAppend
    split
    · rename_i o g sz' s len _
      cases ho:st.heap[o]? with
      | none=>exact keepsE_none
      | some ob =>
        cases ob with
        | arr g' sz'' l =>
          cases elems st.heap (ev L st.vars b) with
          | none=>exact keepsE_none
          | some l2 =>
            intro _ _ _ e hb
            replace e:=appTo_in e
            simp only [appIn] at e
            split at e
            · cases e
              refine keeps_set ho (fun n hu=>?_)
              simp only [AObj.under] at hu ⊢
              refine (unders_all _).2 (fun q hq=>?_)
              rcases List.mem_append.1 hq with hq | hq
              · exact (unders_all l).1 hu q (List.mem_of_mem_drop (List.mem_of_mem_take hq))
              · exact noRef_under n q ((hasRefs_all l2).1 hb q hq)
            · cases e
        | _=>exact keepsE_none
    · cases elems st.heap (ev L st.vars b) with
      | none=>exact keepsE_none
      | some l2 =>
        simp only [appNil]
        split
        · exact keepsE_push
        · exact keepsE_none
    · exact keepsE_none
  | copy sz a b =>
    refine heff _ ?_ h
    unfold doCopy
    split
    · rename_i o g sz' s len _
      cases ho:st.heap[o]? with
      | none=>exact keepsE_none
      | some ob =>
        cases ob with
        | arr g' sz'' l =>
          cases elems st.heap (ev L st.vars b) with
          | none=>exact keepsE_none
          | some l2 =>
            simp only [copyTo]
            split
            · intro _ _ _ e hb
              cases e
              refine keeps_set ho (fun n hu=>?_)
              simp only [AObj.under] at hu ⊢
              refine (unders_all _).2 (fun q hq=>?_)
              rcases List.mem_append.1 hq with hq | hq
              · rcases List.mem_append.1 hq with hq | hq
                · exact (unders_all l).1 hu q (List.mem_of_mem_take hq)
                · exact noRef_under n q ((hasRefs_all l2).1 hb q (List.mem_of_mem_take hq))
              · exact (unders_all l).1 hu q (List.mem_of_mem_drop hq)
            · exact keepsE_none
        | _=>exact keepsE_none
    · exact keepsE_none
  | call g args=>exact heff _ (hC _ _ _) h
  | callv f args =>
    refine heff _ ?_ h
    unfold doCallv
    split
    · exact hC _ _ _
    · exact keepsE_none
  | callp gs f args =>
    refine heff _ ?_ h
    unfold doCallp
    split
    · split
      · exact hC _ _ _
      · exact keepsE_none
    · exact keepsE_none
  | move _=>simp only [aop] at h; exact hret _ h
  | pick _ _ _=>simp only [aop] at h; exact hret _ h
  | build _ _=>simp only [aop] at h; exact hret _ h
  | load _ _ _=>simp only [aop] at h; exact hret _ h
  | nilCheck _=>simp only [aop] at h; exact hret _ h
  | bin _ _ _=>simp only [aop] at h; exact hret _ h
  | binb _ _ _=>simp only [aop] at h; exact hret _ h
  | un _ _=>simp only [aop] at h; exact hret _ h
  | conv _ _=>simp only [aop] at h; exact hret _ h
  | mkfn _ _=>simp only [aop] at h; exact hret _ h
  | slice _ _ _ _ _=>simp only [aop] at h; exact hret _ h
  | fieldAddr _ _ _=>simp only [aop] at h; exact hret _ h
  | field _ _ _ _ _=>simp only [aop] at h; exact hret _ h
  | indexAddr _ _ _=>simp only [aop] at h; exact hret _ h
  | indexArr _ _ _ _=>simp only [aop] at h; exact hret _ h
  | indexStr _ _=>simp only [aop] at h; exact hret _ h
  | x2 _ _ _=>simp only [aop] at h; exact hret _ h
  | lookup _ _ _ _=>simp only [aop] at h; exact hret _ h
  | len _ _=>simp only [aop] at h; exact hret _ h
  | max _ _=>simp only [aop] at h; exact hret _ h
  | min _ _=>simp only [aop] at h; exact hret _ h
  | extract _ _=>simp only [aop] at h; exact hret _ h
  | cn _=>simp only [aop] at h; exact hret _ h
  | cb _=>simp only [aop] at h; exact hret _ h
  | cs _ _ _=>simp only [aop] at h; exact hret _ h
  | cl _ _ _=>simp only [aop] at h; exact hret _ h
  | ca _=>simp only [aop] at h; exact hret _ h
theorem setVar_heap (st:St) (d:Option Nat) (x:AV):(setVar st d x).heap = st.heap ∧ (setVar st d x).rs = st.rs:=by cases d <;> exact ⟨rfl,rfl⟩
theorem evalOps_keeps {C:CallF} (hC:CKeeps C):∀ (ops:List AOper) (L:List AV) (st st':St),evalOps C ops L st = some st' → st'.rs = false → st.rs = false ∧ Keeps st.heap st'.heap:=by
  intro ops
  induction ops with
  | nil=>intro L st st' e hr; cases e; exact ⟨hr,Keeps.refl _⟩
  | cons o ops ih =>
    intro L st st' e hr
    simp only [evalOps] at e
    cases hw:wants L o.guard with
    | none=>rw [hw] at e; cases e
    | some b =>
      rw [hw] at e
      cases b with
      | false =>
        obtain ⟨h1,h2⟩:=ih _ _ _ e hr
        rw [(setVar_heap _ _ _).1] at h2
        rw [(setVar_heap _ _ _).2] at h1
        exact ⟨h1,h2⟩
      | true =>
        cases ha:aop C L st o.op with
        | none=>simp only [evalG,ha,evalK] at e; cases e
        | some q =>
          obtain ⟨x,s1⟩:=q
          simp only [evalG,ha,evalK] at e
          obtain ⟨h1,h2⟩:=ih _ _ _ e hr
          rw [(setVar_heap _ _ _).1] at h2
          rw [(setVar_heap _ _ _).2] at h1
          obtain ⟨h3,h4⟩:=aop_keeps hC ha h1
          exact ⟨h3,h4.trans h2⟩
def RKeeps (R:AIR → St → Option (Ex × St)):Prop:=∀ c st e st',R c st = some (e,st') → st'.rs = false → st.rs = false ∧ Keeps st.heap st'.heap
theorem stepRun_keeps {C R} (hC:CKeeps C) (hR:RKeeps R):RKeeps (stepRun C R):=by
  intro c st e st' h hr
  cases c with
  | skip=>cases h; exact ⟨hr,Keeps.refl _⟩
  | region ops d =>
    simp only [stepRun] at h
    obtain ⟨s,hs,e2⟩:=regionK_inv h
    cases e2
    exact evalOps_keeps hC _ _ _ _ hs hr
  | seq x y =>
    simp only [stepRun] at h
    cases hx:R x st with
    | none=>rw [hx] at h; cases h
    | some q =>
      obtain ⟨a,b⟩:=q
      rw [hx] at h
      cases a with
      | normal =>
        obtain ⟨h1,h2⟩:=hR _ _ _ _ h hr
        obtain ⟨h3,h4⟩:=hR _ _ _ _ hx h1
        exact ⟨h3,h4.trans h2⟩
      | exit j=>cases h; exact hR _ _ _ _ hx hr
      | ret=>cases h; exact hR _ _ _ _ hx hr
  | cond c x y =>
    simp only [stepRun] at h
    cases hc:ev [] st.vars c with
    | bool b=>rw [hc] at h; cases b <;> exact hR _ _ _ _ h hr
    | _=>rw [hc] at h; cases h
  | block id x =>
    simp only [stepRun] at h
    cases hx:R x st with
    | none=>rw [hx] at h; cases h
    | some q =>
      obtain ⟨a,b⟩:=q
      rw [hx] at h
      cases a with
      | normal=>cases h; exact hR _ _ _ _ hx hr
      | ret=>cases h; exact hR _ _ _ _ hx hr
      | exit j =>
        simp only [blockK] at h
        split at h <;> (cases h; exact hR _ _ _ _ hx hr)
  | loop gc keep x =>
    simp only [stepRun] at h
    cases hx:R x { vars:=st.vars,heap:=st.heap,rs:=false } with
    | none=>rw [hx] at h; cases h
    | some q =>
      obtain ⟨a,b⟩:=q
      rw [hx] at h
      cases a with
      | normal =>
        simp only [loopK] at h
        cases hc:clean st.heap.length gc keep b with
        | none=>rw [hc] at h; cases h
        | some s =>
          rw [hc] at h
          simp only [loopC] at h
          obtain ⟨h1,h2⟩:=hR _ _ _ _ h hr
          simp only [orRs,Bool.or_eq_false_iff] at h1 h2
          unfold clean at hc
          split at hc
          · cases hc
          · cases hc
            obtain ⟨h3,h4⟩:=hR _ _ _ _ hx h1.2
            refine ⟨h1.1,?_⟩
            cases gc with
            | false=>exact h4.trans h2
            | true=>exact (keeps_take h4).trans h2
      | exit j =>
        cases h
        simp only [orRs,Bool.or_eq_false_iff] at hr
        obtain ⟨h3,h4⟩:=hR _ _ _ _ hx hr.2
        exact ⟨hr.1,h4⟩
      | ret =>
        cases h
        simp only [orRs,Bool.or_eq_false_iff] at hr
        obtain ⟨h3,h4⟩:=hR _ _ _ _ hx hr.2
        exact ⟨hr.1,h4⟩
  | exit id=>cases h; exact ⟨hr,Keeps.refl _⟩
  | scope x=>exact hR _ _ _ _ h hr
  | label l=>cases h; exact ⟨hr,Keeps.refl _⟩
  | ret=>cases h; exact ⟨hr,Keeps.refl _⟩
theorem withHeap_inv {H b o r} (h:withHeap H b o = some r):∃ x,o = some x ∧ r = (x,H,b):=by
  cases o with
  | none=>cases h
  | some x=>cases h; exact ⟨x,rfl,rfl⟩
theorem consume_keeps:∀ (a:List AV) (H:Heap) (l:List AV) (H':Heap),consume H a = some (l,H') → Keeps H H'
  | [],H,l,H',h=>by simp only [consume] at h; cases h; exact Keeps.refl _
  | x :: r,H,l,H',h=>by
    have key:∀ y H0,consume1 y (consume H0 r) = some (l,H') → Keeps H0 H':=by
      intro y H0 h
      cases hc:consume H0 r with
      | none=>rw [hc] at h; cases h
      | some q=>obtain ⟨l',H2⟩:=q; rw [hc] at h; cases h; exact consume_keeps r H0 l' _ hc
    cases x with
    | sl o g sz s len =>
      simp only [consume] at h
      split at h
      · split at h
        · cases h
        · rename_i l0 hl _
          refine Keeps.trans ?_ (key _ _ h)
          cases ho:H[o]? with
          | none=>simp [elems,ho] at hl
          | some ob=>exact keeps_set ho (fun _ _=>rfl)
      · cases h
    | _=>exact key _ _ h
theorem ended_inv {r:Option (Ex × St)} {st} (h:ended r = some st):∃ e,r = some (e,st):=by
  cases r with
  | none=>cases h
  | some q =>
    obtain ⟨e,s⟩:=q
    cases e with
    | normal=>cases h; exact ⟨_,rfl⟩
    | ret=>cases h; exact ⟨_,rfl⟩
    | exit j=>cases h
theorem stepCall_keeps {E GP R} (hE:CKeeps E) (hR:RKeeps R):CKeeps (stepCall E GP R):=by
  intro g a H x H' b h hb
  unfold stepCall at h
  cases hg:E g a H with
  | some q=>rw [hg] at h; simp only [callE] at h; exact hE g a H x H' b (hg.trans h) hb
  | none =>
    rw [hg] at h
    simp only [callE] at h
    cases hf:GP g with
    | none=>rw [hf] at h; cases h
    | some f =>
      rw [hf] at h
      simp only [callG] at h
      split at h
      case isFalse=>cases h
      cases hm:f.mode with
      | iso =>
        rw [hm] at h
        obtain ⟨y,_,e⟩:=withHeap_inv h
        cases e; exact Keeps.refl _
      | con =>
        rw [hm] at h
        simp only [callFun] at h
        cases hc:consume H a with
        | none=>rw [hc] at h; cases h
        | some q =>
          obtain ⟨l,H2⟩:=q
          rw [hc] at h
          obtain ⟨y,_,e⟩:=withHeap_inv h
          cases e
          exact consume_keeps _ _ _ _ hc
      | shr =>
        rw [hm] at h
        simp only [callFun] at h
        cases hs:ended (R f.body (start f a H)) with
        | none=>rw [hs] at h; cases h
        | some st =>
          rw [hs] at h
          simp only [shrEnd] at h
          split at h
          · cases h
          · rename_i hrs
            obtain ⟨y,_,e⟩:=withHeap_inv h
            cases e
            obtain ⟨e,he⟩:=ended_inv hs
            exact keeps_take (hR _ _ _ _ he (by simpa using hrs)).2
      | keep =>
        rw [hm] at h
        simp only [callFun] at h
        cases hs:ended (R f.body (start f a H)) with
        | none=>rw [hs] at h; cases h
        | some st =>
          rw [hs] at h
          simp only [keepEnd] at h
          obtain ⟨y,_,e⟩:=withHeap_inv h
          cases e
          obtain ⟨e,he⟩:=ended_inv hs
          exact (hR _ _ _ _ he hb).2
theorem runN_keeps {E GP} (hE:CKeeps E) (n:Nat):RKeeps (runN E GP n) ∧ CKeeps (callN E GP n):=by
  induction n with
  | zero =>
    constructor
    · intro c st e st' h; rw [runN] at h; cases h
    · intro g a H x H' b h; rw [callN] at h; cases h
  | succ n ih =>
    constructor
    · intro c st e st' h; rw [runN] at h; exact stepRun_keeps ih.2 ih.1 _ _ _ _ h
    · intro g a H x H' b h; rw [callN] at h; exact stepCall_keeps hE ih.1 _ _ _ _ _ _ h
end Tor
namespace Tor
open Go Go.RowKit
variable {base:Nat} {C:Cx} {H:Heap}
structure LeU (n:Nat) (C C':Cx):Prop where
  ι:C'.ι = C.ι
  F:∀ b,C.F b → C'.F b
  β:∀ o g q,o < n → C.β o g = some q → C'.β o g = some q
  mem:∀ b,C.F b → C'.w.heap[b]? = C.w.heap[b]?
  shp:∀ b s,C.w.shape? b = some s → C'.w.shape? b = some s
theorem LeU.noβ {n} {C C':Cx} (h:LeU n C C'):Le { C with β:=fun _ _=>none } C' :=
  ⟨h.ι,h.F,fun _ _ _ hh=>(by cases hh),h.mem,h.shp⟩
theorem cellsAt_leU {n} {C C':Cx} (h:LeU n C C') {b off cs} (hb:C.F b) (hc:cellsAt C.w b off cs):cellsAt C'.w b off cs :=
  cellsAt_le (C:={ C with β:=fun _ _=>none }) h.noβ hb hc
theorem SlV_leU {n} {C C':Cx} (h:LeU n C C') {k R R' v} (hR:∀ css,R css → R' css) (hv:SlV C k R v):SlV C' k R' v :=
  SlV_le (C:={ C with β:=fun _ _=>none }) h.noβ hR hv
theorem Room_leU {n} {C C':Cx} (h:LeU n C C') {b base sz cap} (hr:Room C.w b base sz cap):Room C'.w b base sz cap :=
  Room_le (C:={ C with β:=fun _ _=>none }) h.noβ hr
mutual
theorem Rc_leU {n:Nat} {C C':Cx} (h:LeU n C C'):∀ (x:AV) (cs:List Value),x.under n = true → Rc C x cs → Rc C' x cs
  | .u,_,_,hr=>hr
  | .bool _,_,_,hr=>hr
  | .int _ _,_,_,hr=>hr
  | .a _,_,_,hr=>hr
  | .nl,_,_,hr=>hr
  | .bx o,_,hu,hr=>by
    simp only [AV.under,decide_eq_true_eq] at hu
    simp only [Rc] at hr ⊢
    obtain ⟨b,bm,e1,e2,hF,hm⟩:=hr
    exact ⟨b,bm,h.β _ _ _ hu e1,e2,h.F b hF,cellsAt_leU h hF hm⟩
  | .agg l,_,hu,hr=>by
    simp only [AV.under] at hu
    simp only [Rc] at hr ⊢
    obtain ⟨css,hl,e⟩:=hr
    exact ⟨css,Rcl_leU h l css hu hl,e⟩
  | .isl l,_,_,hr=>by
    simp only [Rc] at hr ⊢
    obtain ⟨h0,v,e,hv⟩:=hr
    exact ⟨h0,v,e,SlV_leU h (fun css=>Rcl_leU h l css (noRefs_unders n l h0)) hv⟩
  | .iptr x,_,hu,hr=>by
    simp only [AV.under] at hu
    simp only [Rc] at hr ⊢
    obtain ⟨b,off,xs,e,hF,hx,hm⟩:=hr
    exact ⟨b,off,xs,e,h.F b hF,Rc_leU h x xs hu hx,cellsAt_leU h hF hm⟩
  | .ptr o g p,_,hu,hr=>by
    simp only [AV.under,decide_eq_true_eq] at hu
    simp only [Rc] at hr ⊢
    obtain ⟨b,bs,hb,e⟩:=hr
    exact ⟨b,bs,h.β _ _ _ hu hb,e⟩
  | .sl o g sz st len,_,hu,hr=>by
    simp only [AV.under,decide_eq_true_eq] at hu
    simp only [Rc] at hr ⊢
    rcases hr with ⟨b,bs,cap,hb,e,hl,hm⟩ | ⟨q,hb,hl,a,e⟩
    · exact .inl ⟨b,bs,cap,h.β _ _ _ hu hb,e,hl,Room_leU h hm⟩
    · exact .inr ⟨q,h.β _ _ _ hu hb,hl,a,e⟩
  | .fn f l,_,hu,hr=>by
    simp only [AV.under] at hu
    simp only [Rc] at hr ⊢
    obtain ⟨ha,vs,e,hl⟩:=hr
    exact ⟨ha,vs,by rw [h.ι]; exact e,Rcl_leU h l _ hu hl⟩
  | .mp o,_,hu,hr=>by
    simp only [AV.under,decide_eq_true_eq] at hu
    simp only [Rc] at hr ⊢
    obtain ⟨b,hb,e⟩:=hr
    exact ⟨b,h.β _ _ _ hu hb,e⟩
  | .tup _,_,_,hr=>hr
theorem Rcl_leU {n:Nat} {C C':Cx} (h:LeU n C C'):∀ (l:List AV) (css:List (List Value)),AV.unders n l = true → Rcl C l css → Rcl C' l css
  | [],_,_,hr=>hr
  | x :: l,_,hu,hr=>by
    simp only [AV.unders,Bool.and_eq_true] at hu
    simp only [Rcl] at hr ⊢
    obtain ⟨c,r,e,hx,hl⟩:=hr
    exact ⟨c,r,e,Rc_leU h x c hu.1 hx,Rcl_leU h l r hu.2 hl⟩
end
theorem Rvl_leU {n:Nat} {C C':Cx} (h:LeU n C C') {l vs} (hu:AV.unders n l = true) (hr:Rvl C l vs):Rvl C' l vs:=by
  induction hr with
  | nil=>exact .nil
  | cons a _ ih =>
    simp only [AV.unders,Bool.and_eq_true] at hu
    exact .cons (a.imp id fun a=>⟨Rc_leU h _ _ hu.1 a.1,a.2⟩) (ih hu.2)
theorem Rv_leU {n:Nat} {C C':Cx} (h:LeU n C C') {x v} (hu:x.under n = true) (hr:Rv C x v):Rv C' x v:=by
  rcases hr with a | ⟨l,vs,e1,e2,a⟩
  · exact .inl (a.imp id fun a=>⟨Rc_leU h _ _ hu a.1,a.2⟩)
  · subst e1
    simp only [AV.under] at hu
    exact .inr ⟨l,vs,rfl,e2,Rvl_leU h hu a⟩
mutual
theorem Rc_under {n:Nat} {C:Cx} (hd:∀ o,n ≤ o → ∀ g,C.β o g = none):∀ (x:AV) (cs:List Value),Rc C x cs → x.under n = true
  | .u,_,_=>rfl
  | .bool _,_,_=>rfl
  | .int _ _,_,_=>rfl
  | .a _,_,_=>rfl
  | .nl,_,_=>rfl
  | .bx o,_,hr=>by
    simp only [Rc] at hr
    obtain ⟨b,bm,hb,_⟩:=hr
    simp only [AV.under,decide_eq_true_eq]
    by_cases ho:o < n
    · exact ho
    · rw [hd o (by omega) 0] at hb; cases hb
  | .isl _,_,_=>rfl
  | .tup l,_,hr=>by simp [Rc] at hr
  | .agg l,_,hr=>by
    simp only [Rc] at hr
    obtain ⟨css,hl,_⟩:=hr
    simp only [AV.under]; exact Rcl_under hd l css hl
  | .iptr x,_,hr=>by
    simp only [Rc] at hr
    obtain ⟨b,off,xs,e,hF,hx,hm⟩:=hr
    simp only [AV.under]; exact Rc_under hd x xs hx
  | .ptr o g p,_,hr=>by
    simp only [Rc] at hr
    obtain ⟨b,bs,hb,e⟩:=hr
    simp only [AV.under,decide_eq_true_eq]
    by_cases ho:o < n
    · exact ho
    · rw [hd o (by omega) g] at hb; cases hb
  | .sl o g sz st len,_,hr=>by
    simp only [Rc] at hr
    simp only [AV.under,decide_eq_true_eq]
    by_cases ho:o < n
    · exact ho
    · rcases hr with ⟨b,bs,cap,hb,_⟩ | ⟨q,hb,_⟩ <;> (rw [hd o (by omega) g] at hb; cases hb)
  | .fn f l,_,hr=>by
    simp only [Rc] at hr
    obtain ⟨_,vs,e,hl⟩:=hr
    simp only [AV.under]; exact Rcl_under hd l _ hl
  | .mp o,_,hr=>by
    simp only [Rc] at hr
    obtain ⟨b,hb,e⟩:=hr
    simp only [AV.under,decide_eq_true_eq]
    by_cases ho:o < n
    · exact ho
    · rw [hd o (by omega) 0] at hb; cases hb
theorem Rcl_under {n:Nat} {C:Cx} (hd:∀ o,n ≤ o → ∀ g,C.β o g = none):∀ (l:List AV) (css:List (List Value)),Rcl C l css → AV.unders n l = true
  | [],_,_=>rfl
  | x :: l,_,hr=>by
    simp only [Rcl] at hr
    obtain ⟨c,r,e,hx,hl⟩:=hr
    simp only [AV.unders,Bool.and_eq_true]
    exact ⟨Rc_under hd x c hx,Rcl_under hd l r hl⟩
end
theorem MapR_under {n:Nat} (hd:∀ o,n ≤ o → ∀ g,C.β o g = none) {kvs es} (h:MapR C kvs es):underMap n kvs = true:=by
  induction h with
  | nil=>rfl
  | cons a b c _ ih =>
    simp only [underMap,Bool.and_eq_true]
    refine ⟨?_,ih⟩
    rcases b with rfl | ⟨b,_⟩
    · cases c
    · exact Rc_under hd _ _ b
theorem HUnder_sim (hs:Sim base C H):HUnder H.length H:=by
  intro o ob _ ho
  have hd:=hs.dom
  have hok:=(hs.obj o ob ho).1
  cases ob with
  | var x=>obtain ⟨b,c,e,_,_,h3,_⟩:=hok; exact Rc_under hd _ _ h3
  | arr g sz l =>
    rcases hok with ⟨_,h2⟩ | ⟨b,bs,c,e,pre,css,post,h1,h2,h3,h4,h5,_⟩
    · subst h2; rfl
    · exact Rcl_under hd _ _ h5
  | map kvs=>obtain ⟨b,es,cl,_,_,h3,_⟩:=hok; exact MapR_under hd h3.1
  | dead=>rfl
def Cx.fzn (C:Cx) (n:Nat) (H:Heap):Cx :=
  { C with β:=fun o g=>if o < n then C.β o g else none,F:=fun b=>C.F b ∨ ∃ o ob,n ≤ o ∧ H[o]? = some ob ∧ blk C o ob = some b }
theorem leU_fzn (C:Cx) (n:Nat) (H:Heap):LeU n C (C.fzn n H) :=
  ⟨rfl,fun _ h=>.inl h,fun o g q ho h=>by simp [Cx.fzn,ho,h],fun _ _=>rfl,fun _ _ h=>h⟩
theorem leU_cut (C:Cx) (n:Nat):LeU n C (C.cut n) :=
  ⟨rfl,fun _ h=>h,fun o g q ho h=>by simp [Cx.cut,ho,h],fun _ _=>rfl,fun _ _ h=>h⟩
theorem ObjOk_leU {n o ob} {C C':Cx} (h:LeU n C C') (hw:C'.w = C.w) (ho:o < n) (hu:ob.under n = true) (hk:ObjOk base C o ob) (hF:∀ b,blk C o ob = some b → ¬ C'.F b):ObjOk base C' o ob:=by
  cases ob with
  | var x =>
    obtain ⟨b,c,e,h1,h2,h3,h4,h5⟩:=hk
    exact ⟨b,c,e,h.β _ _ _ ho h1,by rw [hw]; exact h2,Rc_leU h _ _ hu h3,h4,hF b (by simp [blk,h1,bOf])⟩
  | arr g sz l =>
    rcases hk with ⟨h1,h2⟩ | ⟨b,bs,c,e,pre,css,post,h1,h2,h3,h4,h5,h6,h7,h8⟩
    · exact .inl ⟨h.β _ _ _ ho h1,h2⟩
    · exact .inr ⟨b,bs,c,e,pre,css,post,h.β _ _ _ ho h1,by rw [hw]; exact h2,h3,h4,Rcl_leU h _ _ hu h5,h6,h7,hF b (by simp [blk,h1,bOf])⟩
  | map kvs =>
    obtain ⟨b,es,cl,h1,h2,h3,h4,h5⟩:=hk
    refine ⟨b,es,cl,h.β _ _ _ ho h1,by rw [hw]; exact h2,⟨?_,h3.2⟩,h4,hF b (by simp [blk,h1,bOf])⟩
    replace h3:=h3.1
    clear h1 h2 hF
    have hu':underMap n kvs = true:=hu
    clear hu
    revert hu'
    generalize es.toList = el at h3 ⊢
    induction h3 with
    | nil=>intro _; exact .nil
    | cons a b c _ ih =>
      intro hu
      simp only [underMap,Bool.and_eq_true] at hu
      exact .cons a (b.imp id fun b=>⟨Rc_leU h _ _ hu.1 b.1,b.2⟩) c (ih hu.2)
  | dead=>trivial
theorem take_get {H:Heap} {n o:Nat} {ob} (h:(H.take n)[o]? = some ob):o < n ∧ H[o]? = some ob:=by
  rw [List.getElem?_take] at h
  split at h
  · rename_i hlt; exact ⟨hlt,h⟩
  · cases h
theorem Sim.drop {C':Cx} (hs:Sim base C H) {n:Nat} (h:LeU n C C') (hw:C'.w = C.w) (hβ:∀ o g,C'.β o g = if o < n then C.β o g else none) (hu:HUnder n H)
    (hF:∀ b,C'.F b → C.F b ∨ ∃ o ob,n ≤ o ∧ H[o]? = some ob ∧ blk C o ob = some b):Sim base C' (H.take n):=by
  have e:∀ o ob,o < n → blk C' o ob = blk C o ob:=by
    intro o ob hlt; cases ob <;> simp [blk,hβ,hlt]
  refine ⟨fun b hb=>?_,fun o ho g=>?_,fun o ob ho=>?_,fun o o' ob ob' b ho ho' hb hb'=>?_,by rw [hw]; exact hs.bsz,hs.glob.of h.ι h.F h.mem⟩
  · rw [hw]
    rcases hF b hb with hb | ⟨o,ob,_,h1,h2⟩
    · exact hs.fsz b hb
    · exact (blk_heap (hs.obj o ob h1).1 h2).2.2
  · rw [List.length_take] at ho
    rw [hβ]
    split
    · exact hs.dom o (by omega) g
    · rfl
  · obtain ⟨hlt,ho⟩:=take_get ho
    obtain ⟨h1,h2⟩:=hs.obj o ob ho
    refine ⟨ObjOk_leU h hw hlt (hu o ob hlt ho) h1 (fun b hb hFb=>?_),?_⟩
    · rcases hF b hFb with hb' | ⟨o',ob',x1,x2,x3⟩
      · exact (blk_heap h1 hb).2.1 hb'
      · have:=hs.sep o o' ob ob' b ho x2 hb x3
        omega
    · cases ob with
      | arr g sz l=>intro g' hg'; rw [hβ,if_pos hlt]; exact h2 g' hg'
      | _=>trivial
  · obtain ⟨hlt,ho⟩:=take_get ho
    obtain ⟨hlt',ho'⟩:=take_get ho'
    rw [e o ob hlt] at hb
    rw [e o' ob' hlt'] at hb'
    exact hs.sep o o' ob ob' b ho ho' hb hb'
theorem sl_cells (hs:Sim base C H) {o g sz st len v l2} (hr:Rv C (.sl o g sz st len) v) (h:elems H (.sl o g sz st len) = some l2) :
    ∃ a cap ob,v = .slice a l2.length cap ∧ H[o]? = some ob ∧ (l2 = [] ∨ ∃ b off css,a = some ⟨b,off,none⟩ ∧ blk C o ob = some b ∧ l2.length ≤ cap ∧ Rcl C l2 css ∧ (∀ c ∈ css,c.length = sz) ∧ cellsAt C.w b off css.flatten):=by
  simp only [elems] at h
  split at h
  · rename_i g' sz' l ho
    split at h
    · rename_i hh
      obtain ⟨rfl,rfl,hle⟩:=hh
      cases h
      have hlen:((l.drop st).take len).length = len:=by simp; omega
      rw [hlen]
      obtain ⟨hok,_⟩:=hs.obj o _ ho
      rcases Rv_sl hr with ⟨b,bs,cap,hβ,rfl,hcap,_⟩ | ⟨q,hβ,hl,a,rfl⟩
      · refine ⟨_,cap,_,rfl,ho,?_⟩
        rcases hok with ⟨hn,_⟩ | ⟨b',bs',c,e,pre,css,post,h1,h2,h3,h4,h5,h6,_⟩
        · rw [hn] at hβ; cases hβ
        · rw [h1] at hβ; cases hβ
          refine .inr ⟨b,_,(css.drop st).take len,rfl,by simp [blk,h1,bOf],hcap,Rcl_take _ _ _ (Rcl_drop _ _ _ h5),fun c hc=>h6 c (List.mem_of_mem_drop (List.mem_of_mem_take hc)),?_⟩
          have hcl:=Rcl_count _ _ h5
          have hc:c.toList = (pre ++ (css.take st).flatten) ++ ((css.drop st).take len).flatten ++ (((css.drop st).drop len).flatten ++ post):=by
            rw [h3]
            have:css.flatten = (css.take st).flatten ++ (((css.drop st).take len).flatten ++ ((css.drop st).drop len).flatten):=by
              rw [← List.flatten_append,List.take_append_drop,← List.flatten_append,List.take_append_drop]
            rw [this]; simp [List.append_assoc]
          have:=cellsAt_of h2 hc
          rw [List.length_append,h4,take_uniform css h6 st (by omega)] at this
          exact this
      · subst hl
        exact ⟨a,0,_,rfl,ho,.inl (by simp)⟩
    · cases h
  · cases h
theorem Rc_one_Rv {x:AV} {cs} (h:Rc C x cs) (hx:x.isA = false) (hs:x.size = 1):∃ v,cs = [v] ∧ Rv C x v:=by
  have hl:=Rc_len _ _ h
  rw [hs] at hl
  match cs,hl with
  | [v],_ =>
    refine ⟨v,rfl,Rv_one h hx ?_⟩
    have:=Rc_one _ _ h v (.head _)
    cases v <;> first | rfl | simp [Value.oneCell'] at this
theorem solids_mem:∀ {l:List AV},AV.solids l = true → ∀ x ∈ l,x.solid = true
  | [],_,_,h=>by cases h
  | y :: l,hl,x,hx=>by
    simp only [AV.solids,Bool.and_eq_true] at hl
    cases hx with
    | head=>exact hl.1
    | tail _ hx=>exact solids_mem hl.2 x hx
theorem fz_isA (n H d x) (hk:(fz n H d x).solid = true):(fz n H d x).isA = x.isA:=by
  cases d with
  | zero=>simp [fz,AV.solid] at hk
  | succ d =>
    cases x <;> simp only [fz] at hk ⊢ <;> first | rfl | skip
    all_goals (repeat' split) <;> first | rfl | simp_all [AV.isA,AV.solid]
theorem fz_ok (hs:Sim base C H) (n:Nat):∀ (d:Nat) (x:AV) (cs:List Value),Rc C x cs → (fz n H d x).solid = true → (fz n H d x).under n = true → Rc (C.fzn n H) (fz n H d x) cs
  | 0,x,cs,_,hk,_=>by simp [fz,AV.solid] at hk
  | d + 1,x,cs,hr,hk,hu=>by
    have hl:∀ (l:List AV) (css:List (List Value)),Rcl C l css → AV.solids (l.map (fz n H d)) = true → AV.unders n (l.map (fz n H d)) = true → Rcl (C.fzn n H) (l.map (fz n H d)) css:=by
      intro l
      induction l with
      | nil=>intro css h _ _; exact h
      | cons y l ih =>
        intro css h h1 h2
        simp only [Rcl] at h
        obtain ⟨c,r,rfl,hy,hl⟩:=h
        simp only [List.map_cons,AV.solids,AV.unders,Bool.and_eq_true] at h1 h2
        simp only [List.map_cons,Rcl]
        exact ⟨c,r,rfl,fz_ok hs n d y c hy h1.1 h2.1,ih r hl h1.2 h2.2⟩
    cases x with
    | sl o g sz st len =>
      simp only [fz] at hk hu ⊢
      split at hk
      · rename_i ho
        rw [if_pos ho] at hu ⊢
        exact Rc_leU (leU_fzn C n H) _ _ hu hr
      · rename_i ho
        rw [if_neg ho] at hu ⊢
        cases hel:elems H (.sl o g sz st len) with
        | none=>rw [hel] at hk; simp [AV.solid] at hk
        | some l =>
          rw [hel] at hk hu
          simp only [AV.solid,Bool.and_eq_true,Bool.not_eq_true'] at hk
          obtain ⟨v,rfl,hv⟩:=Rc_one_Rv hr rfl rfl
          obtain ⟨a,cap,ob,rfl,hob,hc⟩:=sl_cells hs hv hel
          simp only [Rc]
          refine ⟨hk.1,_,rfl,a,cap,by rw [List.length_map],?_⟩
          rcases hc with rfl | ⟨b,off,css,rfl,hb,hcap,hrl,hun,hcells⟩
          · exact .inl rfl
          · exact .inr ⟨b,off,css,sz,rfl,.inr ⟨o,ob,by omega,hob,hb⟩,by rw [List.length_map]; exact hcap,hl l css hrl hk.2 (noRefs_unders n _ hk.1),hun,hcells⟩
    | ptr o g p =>
      simp only [fz] at hk hu ⊢
      split at hk
      · rename_i ho
        rw [if_pos ho] at hu ⊢
        exact Rc_leU (leU_fzn C n H) _ _ hu hr
      · rename_i ho
        rw [if_neg ho] at hu ⊢
        cases hob:H[o]? with
        | none=>rw [hob] at hk; simp [AV.solid] at hk
        | some ob =>
          rw [hob] at hk hu
          simp only at hk hu ⊢
          cases hg:objGet ob g p with
          | none=>rw [hg] at hk; simp [AV.solid] at hk
          | some y =>
            rw [hg] at hk hu
            simp only [AV.solid,AV.under] at hk hu ⊢
            obtain ⟨b,bs,ys,h1,h2,h3⟩:=objGet_ok hs hob hg
            simp only [Rc] at hr ⊢
            obtain ⟨b',bs',h1',rfl⟩:=hr
            rw [h1] at h1'; cases h1'
            refine ⟨b,bs + offs p,ys,rfl,.inr ⟨o,ob,by omega,hob,?_⟩,fz_ok hs n d y ys h2 hk hu,h3⟩
            cases ob with
            | var x =>
              simp only [objGet] at hg
              split at hg
              · rename_i e; subst e; simp [blk,h1,bOf]
              · cases hg
            | arr g' sz l =>
              cases p with
              | nil=>simp [objGet] at hg
              | cons q p =>
                obtain ⟨i,off⟩:=q
                simp only [objGet] at hg
                split at hg
                · rename_i e; obtain ⟨e,_⟩:=e; subst e; simp [blk,h1,bOf]
                · cases hg
            | _=>simp [objGet] at hg
    | agg l =>
      simp only [fz,AV.solid,AV.under] at hk hu ⊢
      simp only [Rc] at hr ⊢
      obtain ⟨css,h1,h2⟩:=hr
      exact ⟨css,hl l css h1 hk hu,h2⟩
    | tup l=>simp [Rc] at hr
    | fn f l =>
      simp only [fz,AV.solid,AV.under] at hk hu ⊢
      simp only [Rc] at hr ⊢
      obtain ⟨ha,vs,h1,h2⟩:=hr
      refine ⟨fun y hy=>?_,vs,h1,hl l _ h2 hk hu⟩
      obtain ⟨x,hx,rfl⟩:=List.mem_map.1 hy
      rw [fz_isA _ _ _ _ (solids_mem hk _ hy)]; exact ha x hx
    | mp o =>
      simp only [fz] at hk hu ⊢
      split at hk
      · rename_i ho
        rw [if_pos ho] at hu ⊢
        exact Rc_leU (leU_fzn C n H) _ _ hu hr
      · simp [AV.solid] at hk
    | nl =>
      simp only [fz,Rc] at hr ⊢
      exact ⟨rfl,_,hr,none,0,rfl,.inl rfl⟩
    | iptr x =>
      simp only [fz,AV.solid,AV.under] at hk hu ⊢
      simp only [Rc] at hr ⊢
      obtain ⟨b,off,xs,e,hF,hx,hm⟩:=hr
      exact ⟨b,off,xs,e,.inl hF,fz_ok hs n d x xs hx hk hu,hm⟩
    | u=>simp [Rc] at hr
    | bool b=>exact Rc_leU (leU_fzn C n H) _ _ hu hr
    | int k m=>exact Rc_leU (leU_fzn C n H) _ _ hu hr
    | a x=>exact Rc_leU (leU_fzn C n H) _ _ hu hr
    | bx o =>
      simp only [fz] at hk hu ⊢
      split at hk
      · rename_i ho
        rw [if_pos ho] at hu ⊢
        exact Rc_leU (leU_fzn C n H) _ _ hu hr
      · simp [AV.solid] at hk
    | isl l=>exact Rc_leU (leU_fzn C n H) _ _ hu hr
theorem fz_Rv (hs:Sim base C H) (n d:Nat) {x v} (hr:Rv C x v) (hk:(fz n H d x).solid = true) (hu:(fz n H d x).under n = true):Rv (C.fzn n H) (fz n H d x) v:=by
  have one:∀ d x v,Rv1 C x v → (fz n H d x).solid = true → (fz n H d x).under n = true → Rv1 (C.fzn n H) (fz n H d x) v:=by
    intro d x v h hk hu
    rcases h with rfl | ⟨h1,h2⟩
    · cases d <;> simp [fz,AV.solid] at hk
    · exact .inr ⟨fz_ok hs n d x _ h1 hk hu,by rw [fz_isA _ _ _ _ hk]; exact h2⟩
  rcases hr with h | ⟨l,vs,rfl,rfl,h⟩
  · exact .inl (one d x v h hk hu)
  · cases d with
    | zero=>simp [fz,AV.solid] at hk
    | succ d =>
      simp only [fz,AV.solid,AV.under] at hk hu ⊢
      refine .inr ⟨_,vs,rfl,rfl,?_⟩
      generalize vs.toList = vl at h
      induction h with
      | nil=>exact .nil
      | cons a _ ih =>
        simp only [List.map_cons,AV.solids,AV.unders,Bool.and_eq_true] at hk hu
        exact .cons (one d _ _ a hk.1 hu.1) (ih hk.2 hu.2)
end Tor
namespace Tor
open Go Go.RowKit
inductive Rvs (C:Cx):List AV → List Value → Prop
  | nil:Rvs C [] []
  | cons {x v l vs}:Rv C x v → Rvs C l vs → Rvs C (x :: l) (v :: vs)
theorem Rvs_le {C C':Cx} (h:Le C C') {l vs} (hr:Rvs C l vs):Rvs C' l vs:=by
  induction hr with
  | nil=>exact .nil
  | cons a _ ih=>exact .cons (Rv_le h a) ih
theorem Rvs_append {C:Cx} {l vs l' vs'} (h:Rvs C l vs) (h':Rvs C l' vs'):Rvs C (l ++ l') (vs ++ vs'):=by
  induction h with
  | nil=>exact h'
  | cons a _ ih=>exact .cons a ih
theorem Rvs_length {C:Cx} {l vs} (h:Rvs C l vs):l.length = vs.length:=by
  induction h with
  | nil=>rfl
  | cons _ _ ih=>simp [ih]
theorem Rvs_get {C:Cx} {l vs} (h:Rvs C l vs):∀ (i:Nat) (d:Value),i < vs.length → Rv C (l.getD i .u) (vs.getD i d):=by
  induction h with
  | nil=>intro i d h; simp at h
  | cons a _ ih =>
    intro i d h
    cases i with
    | zero=>exact a
    | succ i=>exact ih i d (by simpa using h)
def Called (P:Program) (f:FuncId) (args:Array Value) (w:World) (R:Value → World → Prop):Prop :=
  match (callFunc f args).run P w with
  | .ok (.value v) w'=>R v w'
  | .ok (.enter g a) w'=>Calls P g a w' fun
      | .returned v,w''=>R v w''
      | _,_=>False
  | _=>False
def Does (P:Program) (s:Sem Next) (w:World) (R:Value → World → Prop):Prop :=
  match s.run P w with
  | .ok (.value v) w'=>R v w'
  | .ok .skip w'=>R undef w'
  | .ok (.enter g a) w'=>Calls P g a w' fun
      | .returned v,w''=>R v w''
      | _,_=>False
  | _=>False
def CPost (base:Nat) (C:Cx) (H:Heap) (r:AV) (H':Heap) (v:Value) (w':World):Prop:=∃ C',C'.w = w' ∧ OStep base C H C' H' ∧ Rv C' r v
def SoundC (P:Program) (ι:Env) (CF:CallF):Prop :=
  ∀ g args H r H' b,CF g args H = some (r,H',b) → ∀ base C vals,C.ι = ι → Sim base C H → Rvs C args vals →
    Called P (ι g) vals.toArray C.w (CPost base C H r H')
mutual
def constC:AV → List Value → Option (List Value)
  | .bool b,.bool b' :: r=>if b == b' then some r else none
  | .int k n,.int k' n' :: r=>if k == k' && n == n' then some r else none
  | .nl,.slice none m n :: r=>if m == 0 && n == 0 then some r else none
  | .isl [],.slice none m n :: r=>if m == 0 && n == 0 then some r else none
  | .a (.string s),.string s' :: r=>if s.data == s'.data then some r else none
  | .a .nilFunc,.nilFunc :: r=>some r
  | .a .nilIface,.nilIface :: r=>some r
  | .a (.pointer none),.pointer none :: r=>some r
  | .a (.map none),.map none :: r=>some r
  | .agg l,cs=>constCs l cs
  | _,_=>none
def constCs:List AV → List Value → Option (List Value)
  | [],cs=>some cs
  | x :: l,cs=>match constC x cs with
    | some r=>constCs l r
    | none=>none
end
def isNil:Option (List Value) → Bool
  | some []=>true
  | _=>false
def constOk (x:AV):Value → Bool
  | .agg cs=>x.isA && isNil (constC x cs.toList)
  | v=>!x.isA && isNil (constC x [v])
mutual
theorem constC_ok:∀ (x:AV) (cs r:List Value),constC x cs = some r → ∃ c,cs = c ++ r ∧ ∀ C,Rc C x c
  | .u,cs,r,h=>by simp [constC] at h
  | .iptr _,cs,r,h=>by simp [constC] at h
  | .ptr _ _ _,cs,r,h=>by simp [constC] at h
  | .sl _ _ _ _ _,cs,r,h=>by simp [constC] at h
  | .fn _ _,cs,r,h=>by simp [constC] at h
  | .mp _,cs,r,h=>by simp [constC] at h
  | .tup _,cs,r,h=>by simp [constC] at h
  | .bool b,cs,r,h=>by
    unfold constC at h; split at h <;> try (cases h; done)
    all_goals (rename_i hx; cases hx)
    split at h
    · rename_i hb; cases h; simp at hb; subst hb; exact ⟨[_],rfl,fun C=>by simp [Rc]⟩
    · cases h
  | .int k n,cs,r,h=>by
    unfold constC at h; split at h <;> try (cases h; done)
    all_goals (rename_i hx; cases hx)
    split at h
    · rename_i hb; cases h; simp at hb; obtain ⟨rfl,rfl⟩:=hb; exact ⟨[_],rfl,fun C=>by simp [Rc]⟩
    · cases h
  | .nl,cs,r,h=>by
    unfold constC at h; split at h <;> try (cases h; done)
    all_goals (rename_i hx; cases hx)
    split at h
    · rename_i hb; cases h; simp at hb; obtain ⟨rfl,rfl⟩:=hb; exact ⟨[_],rfl,fun C=>by simp [Rc]⟩
    · cases h
  | .isl l,cs,r,h=>by
    unfold constC at h; split at h <;> try (cases h; done)
    all_goals (rename_i hx; cases hx)
    split at h
    · rename_i hb; cases h; simp at hb; obtain ⟨rfl,rfl⟩:=hb
      exact ⟨[_],rfl,fun C=>by simp only [Rc]; exact ⟨rfl,_,rfl,none,0,rfl,.inl rfl⟩⟩
    · cases h
  | .a x,cs,r,h=>by
    unfold constC at h
    split at h <;> try (cases h; done)
    all_goals (rename_i hx; cases hx)
    · split at h
      · rename_i s s' _ hb
        cases h
        have:s = s':=by
          cases s; cases s'
          simpa using hb
        subst this
        exact ⟨[_],rfl,fun C=>by simp [Rc,Value.oneCell']⟩
      · cases h
    all_goals (cases h; exact ⟨[_],rfl,fun C=>by simp [Rc,Value.oneCell']⟩)
  | .bx _,cs,r,h=>by simp [constC] at h
  | .agg l,cs,r,h=>by
    rw [constC] at h
    obtain ⟨css,h1,h2⟩:=constCs_ok l cs r h
    exact ⟨css.flatten,h1,fun C=>by simp only [Rc]; exact ⟨css,h2 C,rfl⟩⟩
theorem constCs_ok:∀ (l:List AV) (cs r:List Value),constCs l cs = some r → ∃ css:List (List Value),cs = css.flatten ++ r ∧ ∀ C,Rcl C l css
  | [],cs,r,h=>by cases h; exact ⟨[],rfl,fun C=>rfl⟩
  | x :: l,cs,r,h=>by
    rw [constCs] at h
    cases hx:constC x cs with
    | none=>rw [hx] at h; cases h
    | some r1 =>
      rw [hx] at h
      obtain ⟨c,h1,h2⟩:=constC_ok x cs r1 hx
      obtain ⟨css,h3,h4⟩:=constCs_ok l r1 r h
      exact ⟨c :: css,by rw [h1,h3]; simp [List.append_assoc],fun C=>by simp only [Rcl]; exact ⟨c,css,rfl,h2 C,h4 C⟩⟩
end
theorem isNil_eq {o:Option (List Value)} (h:isNil o = true):o = some []:=by
  cases o with
  | none=>cases h
  | some l=>cases l with
    | nil=>rfl
    | cons _ _=>cases h
theorem constOk_ok {x v} (h:constOk x v = true) (C:Cx):Rv C x v:=by
  have key:∀ v:Value,vIsA v = x.isA → constC x v.cells.toList = some [] → Rv C x v:=by
    intro v h1 h2
    obtain ⟨c,h3,h4⟩:=constC_ok x _ _ h2
    rw [List.append_nil] at h3
    exact Rv_of (h3 ▸ h4 C) h1
  unfold constOk at h
  split at h
  · simp only [Bool.and_eq_true] at h
    exact key _ (by simp [vIsA,h.1]) (isNil_eq h.2)
  · rename_i hv
    simp only [Bool.and_eq_true,Bool.not_eq_true'] at h
    have hva:vIsA v = false:=by
      cases v <;> first | rfl | exact absurd rfl (hv _)
    exact key v (by rw [hva,h.1]) (by rw [cells_one hva]; exact isNil_eq h.2)
section
variable (P:Program) (ι:Env) (O:Operand → AOpd → Bool)
def zeroOk (t:TypeId) (z:AV):Bool :=
  match zeroB P t with
  | some zv=>constOk z zv && z.known
  | none=>false
def partsOk:List (Nat × Operand) → List (Nat × AOpd) → Bool
  | [],[]=>true
  | (i,x) :: r,(j,y) :: s=>i == j && O x y && partsOk r s
  | _,_=>false
def opsOk:List Operand → List AOpd → Bool
  | [],[]=>true
  | x :: r,y :: s=>O x y && opsOk r s
  | _,_=>false
def optOk:Option Operand → Option AOpd → Bool
  | none,none=>true
  | some x,some y=>O x y
  | _,_=>false
def buildOk (t:TypeId) (z:List AV):Bool :=
  match placeB P t with
  | some pl=>placesOk pl 0 0 z
  | none=>false
def sliceOk (t:TypeId) (sz:Nat):Bool :=
  match sliceB P t with
  | some e=>sizeB P e == some sz
  | none=>false
def bsliceOk (t:TypeId) (sz:Nat) (z:AV):Bool :=
  match sliceB P t with
  | some e=>sizeB P e == some sz && zeroOk P e z
  | none=>false
def bytesOk (t:TypeId) (sz bytes:Nat):Bool :=
  match sliceB P t with
  | some e=>match P.info? e with
    | some i=>i.size == sz && i.bytes == bytes && (match i.zero with | some zv=>zv.cells.size == sz | none=>false)
    | none=>false
  | none=>false
def mksliceOk (t:TypeId) (sz bytes:Nat) (z:AV):Bool :=
  match sliceB P t with
  | some e=>match P.info? e with
    | some i=>i.size == sz && i.bytes == bytes && (match i.zero with | some zv=>constOk z zv && z.known | none=>false)
    | none=>false
  | none=>false
def isInt64 (v:Int):Value → Bool
  | .int .i64 n=>n == v
  | _=>false
def fieldAddrOk (t:TypeId) (i off:Nat):Bool :=
  match fieldB P t i with
  | some f=>f.offset == off && (match sizeB P f.type with | some n=>n != 0 | none=>false)
  | none=>false
def fieldOk (t:TypeId) (i off:Nat) (ag:Bool) (sz:Nat):Bool :=
  match fieldB P t i with
  | some f=>f.offset == off && aggB P f.type == some ag && sizeB P f.type == some sz
  | none=>false
def arrOk (t:TypeId) (n sz:Nat):Bool :=
  match P.underlying t with
  | some (.array m e)=>m == n && sizeB P e == some sz
  | _=>false
def arrVOk (t:TypeId) (n sz:Nat) (ag:Bool):Bool :=
  match P.underlying t with
  | some (.array m e)=>m == n && sizeB P e == some sz && aggB P e == some ag
  | _=>false
def boolT (t:TypeId):Bool :=
  match P.underlying t with
  | some .bool=>true
  | _=>false
def strT (t:TypeId):Bool :=
  match P.underlying t with
  | some .string=>true
  | _=>false
def convOk (s d:TypeId) (k:IntKind):Bool :=
  (match P.underlying d with
  | some (.int k')=>k' == k
  | _=>false) && (P.underlying s).isSome
def mapOk (t:TypeId):Bool :=
  match mapB P t with
  | some (kt,_)=>match P.underlying kt with
    | some d=>intKind d
    | none=>false
  | none=>false
def lookOk (t:TypeId) (z:AV):Bool :=
  mapOk P t && (match mapB P t with
  | some (_,et)=>zeroOk P et z
  | none=>false)
def isNilSlice:Operand → Bool
  | .const (.slice none m n)=>m == 0 && n == 0
  | _=>false
def isZero64:Option Operand → Bool
  | some (.const v)=>isInt64 0 v
  | _=>false
def callOk (c:Call) (a:AOp):Bool :=
  match c.callee,a with
  | .builtin .len,.len kd x=>(match c.args.toList,c.argTypes.toList with
    | [y],[t]=>lenKind P t kd && O y x
    | _,_=>false)
  | .builtin .append,.append sz bytes x y=>(match c.args.toList,c.argTypes.toList with
    | [u,v],[t,t']=>(sliceB P t').isSome && bytesOk P t sz bytes && O u x && O v y
    | _,_=>false)
  | .builtin .copy,.copy sz x y=>(match c.args.toList,c.argTypes.toList with
    | [u,v],[t,_]=>sliceOk P t sz && O u x && O v y
    | _,_=>false)
  | .builtin .delete,.mdel x y=>(match c.args.toList,c.argTypes.toList with
    | [u,v],[t,_]=>mapOk P t && O u x && O v y
    | _,_=>false)
  | .builtin .max,.max x l=>opsOk O c.args.toList (x :: l)
  | .builtin .min,.min x l=>opsOk O c.args.toList (x :: l)
  | .value (.func f),.call g l=>ι g == f && opsOk O c.args.toList l
  | .value x,.callv y l=>O x y && opsOk O c.args.toList l
  | .value x,.callp _ y l=>O x y && opsOk O c.args.toList l
  | _,_=>false
def opOk (op:Op) (a:AOp):Bool :=
  match op,a with
  | .move x,.move y=>O x y
  | .assign x,.move y=>O x y
  | .move x,.frz y=>O x y
  | .assign x,.frz y=>O x y
  | .move x,.nils _=>isNilSlice x
  | .assign x,.nils _=>isNilSlice x
  | .pick c x y,.pick c' x' y'=>O c c' && O x x' && O y y'
  | .box _ x,.box _ y=>O x y
  | .alloc t,.alloc z=>zeroOk P t z
  | .build t ps,.build z qs=>layoutOk P t && zeroOk P t (.agg z) && buildOk P t z && partsOk O ps.toList qs
  | .buildSlice t n ps,.bslice _ sz z m qs=>n == m && bsliceOk P t sz z && Nat.ble (n * sz) 16777216 && partsOk O ps.toList qs
  | .load t x,.load ag sz y=>aggB P t == some ag && sizeB P t == some sz && O x y
  | .store t x v,.store sz y u=>sizeB P t == some sz && O x y && O v u
  | .nilCheck x,.nilCheck y=>O x y
  | .binOp op t x y _,.bin op' x' y'=>op == op' && O x x' && O y y'
  | .binOp op t x y _,.binb ne x' y'=>op == (if ne then .neq else .eql) && boolT P t && O x x' && O y y'
  | .unOp op _ x,.un op' y=>op == op' && O x y
  | .convert s d x,.conv k y=>convOk P s d k && O x y
  | .makeFunc (.func f) first caps,.mkfn g l=>first.size == 0 && ι g == f && opsOk O caps.toList l
  | .makeMap _ none,.mkmap=>true
  | .makeSlice t n c,.mkslice sz bytes z n' c'=>mksliceOk P t sz bytes z && O n n' && O c c'
  | .slice t x lo hi mx,.slice sz y lo' hi' mx'=>sliceOk P t sz && O x y && optOk O lo lo' && optOk O hi hi' && optOk O mx mx' && (!mx.isSome || hi.isSome)
  | .slice t x none hi mx,.slice0 sz y=>sliceOk P t sz && O x y && isZero64 hi && isZero64 mx
  | .fieldAddr t x i,.fieldAddr j off y=>i == j && fieldAddrOk P t i off && O x y
  | .field t x i,.field j off ag sz y=>i == j && fieldOk P t i off ag sz && O x y
  | .indexAddr t x i,.indexAddr sz y j=>sliceOk P t sz && O x y && O i j
  | .indexAddr t x i,.indexArr n sz y j=>arrOk P t n sz && O x y && O i j
  | .index t x i,.indexStr y j=>strT P t && O x y && O i j
  | .index t x i,.x2 (.idx n sz ag) y j=>arrVOk P t n sz ag && O x y && O i j
  | .binOp op t x y _,.x2 (.isnil ne) x' y'=>op == (if ne then .neq else .eql) && (sliceB P t).isSome && O x x' && O y y'
  | .lookup t m k ok,.lookup z ok' m' k'=>ok == ok' && lookOk P t z && O m m' && O k k'
  | .mapUpdate t m k x,.mupd m' k' x'=>mapOk P t && O m m' && O k k' && O x x'
  | .extract x i,.extract j y=>i == j && O x y
  | .call c,a=>callOk P ι O c a
  | _,_=>false
end
end Tor
namespace Tor
open Go Go.RowKit
variable {P:Program} {base:Nat} {C:Cx}
theorem does_v {s:Sem Value} {w w':World} {v:Value} {R:Value → World → Prop} (h:s.run P w = .ok v w') (hR:R v w'):Does P (do pure (Next.value (← s))) w R:=by
  simp only [Does,Sem.run_bind,h,Result.andThen_ok,Sem.run_pure]; exact hR
theorem does_u {s:Sem Unit} {w w':World} {R:Value → World → Prop} (h:s.run P w = .ok () w') (hR:R undef w'):Does P (do s; pure Next.skip) w R:=by
  simp only [Does,Sem.run_bind,h,Result.andThen_ok,Sem.run_pure]; exact hR
theorem does_p {w:World} {v:Value} {R:Value → World → Prop} (hR:R v w):Does P (pure (Next.value v)) w R:=by
  simp only [Does,Sem.run_pure]; exact hR
theorem Step.refl {H:Heap} {ent:Nat} (hs:Sim base C H):Step base ent C H C H:=⟨Le.refl C,hs,(Grow.refl C.w).below hs.bsz,fun _ h=>.inl h,fun _ _ hF hno=>⟨rfl,hF,hno⟩⟩
theorem ret_inv {st:St} {q x st'} (h:ret st q = some (x,st')):q = some x ∧ st' = st:=by
  cases q with
  | none=>cases h
  | some y=>cases h; exact ⟨rfl,rfl⟩
theorem eff_inv {st:St} {q x st'} (h:eff st q = some (x,st')):∃ H' b,q = some (x,H',b) ∧ st' = { vars:=st.vars,heap:=H',rs:=st.rs || b }:=by
  cases q with
  | none=>cases h
  | some y=>obtain ⟨y,H',b⟩:=y; cases h; exact ⟨H',b,rfl,rfl⟩
theorem cpost_refl {H:Heap} (hs:Sim base C H) {x v} (h:Rv C x v):CPost base C H x H v C.w:=⟨C,rfl,Step.refl hs,h⟩
section
variable {ι:Env} {O:Operand → AOpd → Bool} {L vars:List AV} {ρ:Operand → Value}
theorem parts_ok (hO:∀ x y,O x y = true → Rv C (ev L vars y) (ρ x)):∀ (ps:List (Nat × Operand)) (qs:List (Nat × AOpd)),partsOk O ps qs = true →
    PartsR C (qs.map fun p=>(p.1,ev L vars p.2)) (ps.map fun (i,x)=>(i,ρ x))
  | [],[],_=>.nil
  | [],_ :: _,h=>by simp [partsOk] at h
  | _ :: _,[],h=>by simp [partsOk] at h
  | (i,x) :: r,(j,y) :: s,h=>by
    simp only [partsOk,Bool.and_eq_true,beq_iff_eq] at h
    obtain ⟨⟨rfl,h2⟩,h3⟩:=h
    exact .cons (hO x y h2) (parts_ok hO r s h3)
theorem ops_ok (hO:∀ x y,O x y = true → Rv C (ev L vars y) (ρ x)):∀ (ps:List Operand) (qs:List AOpd),opsOk O ps qs = true → Rvs C (qs.map (ev L vars)) (ps.map ρ)
  | [],[],_=>.nil
  | [],_ :: _,h=>by simp [opsOk] at h
  | _ :: _,[],h=>by simp [opsOk] at h
  | x :: r,y :: s,h=>by
    simp only [opsOk,Bool.and_eq_true] at h
    exact .cons (hO x y h.1) (ops_ok hO r s h.2)
theorem opt_ok (hO:∀ x y,O x y = true → Rv C (ev L vars y) (ρ x)) {x y} (h:optOk O x y = true):RvO C (y.map (ev L vars)) (x.map ρ):=by
  cases x <;> cases y <;> first | trivial | exact hO _ _ h | cases h
end
theorem Rvs_known {l vs} (h:Rvs C l vs) (hk:∀ x ∈ l,x.known = true):Rvl C l vs:=by
  induction h with
  | nil=>exact .nil
  | cons a _ ih=>exact .cons (known_Rv1 (hk _ (.head _)) a) (ih fun x hx=>hk x (.tail _ hx))
theorem foldMM_known (mx:Bool):∀ {l X y},foldMM mx X l = some y → ∀ x ∈ l,x.known = true
  | [],_,_,_,_,hx=>by cases hx
  | z :: l,X,y,h,x,hx=>by
    cases X <;> try (cases h; done)
    cases z <;> try (cases h; done)
    simp only [foldMM] at h
    split at h
    · cases hx with
      | head=>rfl
      | tail _ hx=>exact foldMM_known mx h x hx
    · cases h
theorem zeroOk_inv {t z} (h:zeroOk P t z = true):∃ zv,zeroB P t = some zv ∧ (∀ C,Rv C z zv) ∧ z.known = true:=by
  unfold zeroOk at h
  split at h
  · rename_i zv hz
    simp only [Bool.and_eq_true] at h
    exact ⟨zv,hz,fun C=>constOk_ok h.1 C,h.2⟩
  · cases h
theorem sliceOk_inv {t sz} (h:sliceOk P t sz = true):∃ e,sliceB P t = some e ∧ sizeB P e = some sz:=by
  unfold sliceOk at h
  split at h
  · rename_i e he; exact ⟨e,he,by simpa using h⟩
  · cases h
theorem bsliceOk_inv {t sz z} (h:bsliceOk P t sz z = true):∃ e,sliceB P t = some e ∧ sizeB P e = some sz ∧ ∃ zv,zeroB P e = some zv ∧ (∀ C,Rv C z zv) ∧ z.known = true:=by
  unfold bsliceOk at h
  split at h
  · rename_i e he; simp only [Bool.and_eq_true,beq_iff_eq] at h; exact ⟨e,he,h.1,zeroOk_inv h.2⟩
  · cases h
theorem bytesOk_inv {t sz bytes} (h:bytesOk P t sz bytes = true):∃ e i zv,sliceB P t = some e ∧ P.info? e = some i ∧ i.size = sz ∧ i.bytes = bytes ∧ i.zero = some zv ∧ zv.cells.size = sz:=by
  unfold bytesOk at h
  split at h
  · rename_i e he
    split at h
    · rename_i i hi
      simp only [Bool.and_eq_true,beq_iff_eq] at h
      obtain ⟨⟨h1,h2⟩,h3⟩:=h
      split at h3
      · rename_i zv hz
        exact ⟨e,i,zv,he,hi,h1,h2,hz,by simpa using h3⟩
      · cases h3
    · cases h
  · cases h
theorem mksliceOk_inv {t sz bytes z} (h:mksliceOk P t sz bytes z = true):∃ e i zv,sliceB P t = some e ∧ P.info? e = some i ∧ i.size = sz ∧ i.bytes = bytes ∧ i.zero = some zv ∧ (∀ C,Rv C z zv) ∧ z.known = true:=by
  unfold mksliceOk at h
  split at h
  · rename_i e he
    split at h
    · rename_i i hi
      simp only [Bool.and_eq_true,beq_iff_eq] at h
      obtain ⟨⟨h1,h2⟩,h3⟩:=h
      split at h3
      · rename_i zv hz
        simp only [Bool.and_eq_true] at h3
        exact ⟨e,i,zv,he,hi,h1,h2,hz,fun C=>constOk_ok h3.1 C,h3.2⟩
      · cases h3
    · cases h
  · cases h
theorem mapOk_inv {t} (h:mapOk P t = true):∃ kt et kd,mapB P t = some (kt,et) ∧ P.underlying kt = some kd ∧ intKind kd = true:=by
  unfold mapOk at h
  split at h
  · rename_i kt et he
    split at h
    · rename_i d hd; exact ⟨kt,et,d,he,hd,h⟩
    · cases h
  · cases h
theorem eqGuard_int (op t x y k n k' m) (w:World):(eqGuard op t x y (.int k n) (.int k' m)).run P w = .ok () w:=by
  cases op <;> simp [eqGuard]
theorem eqGuard_bool (op t x y a b) (w:World):(eqGuard op t x y (.bool a) (.bool b)).run P w = .ok () w:=by
  cases op <;> simp [eqGuard]
theorem eqGuard_slice (op t x y) (a:Option Addr) (n c:Nat) (b:Option Addr) (m k:Nat) (w:World):(eqGuard op t x y (.slice a n c) (.slice b m k)).run P w = .ok () w:=by
  cases op <;> simp [eqGuard]
theorem binAV_ints {op X Y z} (h:binAV op X Y = some z):(∃ k n,X = .int k n) ∧ ∃ k n,Y = .int k n:=by
  cases X <;> try (cases h; done)
  cases Y <;> try (cases h; done)
  exact ⟨⟨_,_,rfl⟩,⟨_,_,rfl⟩⟩
theorem binB_bools {ne X Y z} (h:binB ne X Y = some z):(∃ b,X = .bool b) ∧ ∃ b,Y = .bool b:=by
  cases X <;> try (cases h; done)
  cases Y <;> try (cases h; done)
  exact ⟨⟨_,rfl⟩,⟨_,rfl⟩⟩
theorem isNilSlice_inv {x} (h:isNilSlice x = true):x = .const (.slice none 0 0):=by
  unfold isNilSlice at h
  split at h
  · simp only [Bool.and_eq_true,beq_iff_eq] at h; obtain ⟨rfl,rfl⟩:=h; rfl
  · cases h
theorem isZero64_inv {x} (h:isZero64 x = true):x = some (.const (.int .i64 0)):=by
  unfold isZero64 at h
  split at h
  · unfold isInt64 at h
    split at h
    · simp only [beq_iff_eq] at h; subst h; rfl
    · cases h
  · cases h
theorem called_does {f args w R} {s:Sem Next} (h:Called P f args w R) (e:s.run P w = (callFunc f args).run P w):Does P s w R:=by
  simp only [Called] at h
  simp only [Does,e]
  split at h <;> simp_all
theorem len1 {α} {a:Array α} {x:α} (h:a.toList = [x]):a = #[x]:=by cases a; simp at h; subst h; rfl
theorem len2 {α} {a:Array α} {x y:α} (h:a.toList = [x,y]):a = #[x,y]:=by cases a; simp at h; subst h; rfl
theorem nothing_ok (C:Cx):Rv C nothing undef:=Rv_tup_mk (vs:=[]) .nil
theorem call_op_ok {ι:Env} {O:Operand → AOpd → Bool} {L:List AV} {st:St} {a:Act} {CF:CallF} {c:Call} {o:Oper} {aop_:AOp} {x:AV} {st':St} (hC:SoundC P ι CF) (hι:C.ι = ι) (hs:Sim base C st.heap)
    (hO:∀ x y,O x y = true → Rv C (ev L st.vars y) (a.eval x)) (ho:o.op = .call c) (h:callOk P ι O c aop_ = true) (hr:aop CF L st aop_ = some (x,st')) :
    Does P (execOp a.eval o) C.w (CPost base C st.heap x st'.heap) ∧ st'.vars = st.vars:=by
  have hex:execOp a.eval o = (do let d ← resolve a.eval c o.type; invoke d.target d.args):=by simp only [execOp,ho]
  rw [hex]
  unfold callOk at h
  split at h
  · -- len
    rename_i kd y hc
    obtain ⟨h1,rfl⟩:=ret_inv hr
    split at h
    · rename_i z t hz ht
      simp only [Bool.and_eq_true] at h
      have hz:=len1 hz; have ht:=len1 ht
      obtain ⟨u,e1,e2⟩:=len_ok (ty:=o.type) hs h.1 (hO _ _ h.2) h1
      refine ⟨?_,rfl⟩
      simp only [Does,resolve,hc,hz,ht,Sem.run_bind,Sem.run_pure,Result.andThen_ok,invoke,builtin,List.map_toArray,List.map_cons,List.map_nil,e1]
      exact cpost_refl hs e2
    · cases h
  · -- append
    rename_i sz bytes y z hc
    obtain ⟨H',b,h1,rfl⟩:=eff_inv hr
    split at h
    · rename_i p q t t' hz ht
      simp only [Bool.and_eq_true,beq_iff_eq] at h
      obtain ⟨⟨⟨h20,h2⟩,h3⟩,h4⟩:=h
      obtain ⟨e20,h20⟩:=Option.isSome_iff_exists.1 h20
      have hz:=len2 hz; have ht:=len2 ht
      obtain ⟨e,i,zv,b1,b2,b3,b4,b5,b6⟩:=bytesOk_inv h2
      obtain ⟨C',u,e1,e2,e3⟩:=append_ok (ty:=o.type) hs b1 h20 b2 b3 b4 b5 b6 (hO _ _ h3) (hO _ _ h4) h1
      refine ⟨?_,rfl⟩
      simp only [Does,resolve,hc,hz,ht,Sem.run_bind,Sem.run_pure,Result.andThen_ok,invoke,builtin,List.map_toArray,List.map_cons,List.map_nil,e1]
      exact ⟨C',rfl,e2,e3⟩
    · cases h
  · -- copy
    rename_i sz y z hc
    obtain ⟨H',b,h1,rfl⟩:=eff_inv hr
    split at h
    · rename_i p q t t' hz ht
      simp only [Bool.and_eq_true] at h
      obtain ⟨⟨h2,h3⟩,h4⟩:=h
      have hz:=len2 hz; have ht:=len2 ht
      obtain ⟨e,b1,b2⟩:=sliceOk_inv h2
      obtain ⟨C',u,e1,e2,e3⟩:=copy_ok (t2:=t') (ty:=o.type) hs b1 b2 (hO _ _ h3) (hO _ _ h4) h1
      refine ⟨?_,rfl⟩
      simp only [Does,resolve,hc,hz,ht,Sem.run_bind,Sem.run_pure,Result.andThen_ok,invoke,builtin,List.map_toArray,List.map_cons,List.map_nil,e1]
      exact ⟨C',rfl,e2,e3⟩
    · cases h
  · -- delete
    rename_i y z hc
    obtain ⟨H',b,h1,rfl⟩:=eff_inv hr
    split at h
    · rename_i p q t t' hz ht
      simp only [Bool.and_eq_true] at h
      obtain ⟨⟨h2,h3⟩,h4⟩:=h
      have hz:=len2 hz; have ht:=len2 ht
      obtain ⟨kt,et,kd,b1,b2,b3⟩:=mapOk_inv h2
      obtain ⟨C',u,e1,e2,e3⟩:=mdel_ok (t2:=t') (ty:=o.type) hs b1 b2 b3 (hO _ _ h3) (hO _ _ h4) h1
      refine ⟨?_,rfl⟩
      simp only [Does,resolve,hc,hz,ht,Sem.run_bind,Sem.run_pure,Result.andThen_ok,invoke,builtin,List.map_toArray,List.map_cons,List.map_nil,e1]
      exact ⟨C',rfl,e2,e3⟩
    · cases h
  · -- max
    rename_i y l hc
    obtain ⟨h1,rfl⟩:=ret_inv hr
    have hv:=ops_ok hO _ _ h
    cases hv2:c.args.toList with
    | nil=>rw [hv2] at hv; cases hv
    | cons p ps =>
      rw [hv2] at hv
      simp only [List.map_cons] at hv
      cases hv with
      | cons v1 v2 =>
        obtain ⟨u,e1,e2⟩:=foldMM_ok (P:=P) true v1 (Rvs_known v2 (foldMM_known true h1)) h1
        have hz:c.args = (p :: ps).toArray:=by rw [← hv2]
        refine ⟨?_,rfl⟩
        simp only [if_true] at e1
        simp only [Does,resolve,hc,hz,Sem.run_bind,Sem.run_pure,Result.andThen_ok,invoke,builtin,List.map_toArray,List.map_cons,Builtin.max_,e1]
        exact cpost_refl hs e2
  · -- min
    rename_i y l hc
    obtain ⟨h1,rfl⟩:=ret_inv hr
    have hv:=ops_ok hO _ _ h
    cases hv2:c.args.toList with
    | nil=>rw [hv2] at hv; cases hv
    | cons p ps =>
      rw [hv2] at hv
      simp only [List.map_cons] at hv
      cases hv with
      | cons v1 v2 =>
        obtain ⟨u,e1,e2⟩:=foldMM_ok (P:=P) false v1 (Rvs_known v2 (foldMM_known false h1)) h1
        have hz:c.args = (p :: ps).toArray:=by rw [← hv2]
        refine ⟨?_,rfl⟩
        simp only [if_false,Bool.false_eq_true] at e1
        simp only [Does,resolve,hc,hz,Sem.run_bind,Sem.run_pure,Result.andThen_ok,invoke,builtin,List.map_toArray,List.map_cons,Builtin.min_,e1]
        exact cpost_refl hs e2
  · -- a call
    rename_i f g l hc
    obtain ⟨H',b,h1,rfl⟩:=eff_inv hr
    simp only [Bool.and_eq_true,beq_iff_eq] at h
    obtain ⟨rfl,h2⟩:=h
    have hv:=ops_ok hO _ _ h2
    have:=hC g _ _ _ _ _ h1 base C _ hι hs hv
    refine ⟨called_does this ?_,rfl⟩
    simp only [resolve,hc,Act.eval,Deferred.ofValue,Sem.run_bind,Sem.run_pure,Result.andThen_ok,invoke]
    congr 2
    apply Array.ext'
    simp
  · -- a call of a value
    rename_i y f l hc
    obtain ⟨H',b,h1,rfl⟩:=eff_inv hr
    simp only [Bool.and_eq_true] at h
    obtain ⟨h2,h3⟩:=h
    have hv:=ops_ok hO _ _ h3
    have hf:=hO _ _ h2
    generalize ev L st.vars f = F at h1 hf
    cases F <;> try (cases h1; done)
    rename_i g caps
    simp only [doCallv] at h1
    obtain ⟨vs,hfv,hcl,hna⟩:=Rv_fn hf
    have hcap:∀ (l:List AV) (vs:List Value),(∀ x ∈ l,x.isA = false) → Rcl C l (vs.map fun v=>[v]) → Rvs C l vs:=by
      intro l
      induction l with
      | nil=>intro vs _ hh; cases vs with
        | nil=>exact .nil
        | cons v vs=>simp [Rcl] at hh
      | cons z l ih =>
        intro vs hz hh
        cases vs with
        | nil=>simp [Rcl] at hh
        | cons v vs =>
          simp only [Rcl,List.map_cons,List.cons.injEq] at hh
          obtain ⟨c,r,⟨rfl,rfl⟩,h5,h6⟩:=hh
          refine .cons (Rv_one h5 (hz _ (.head _)) ?_) (ih vs (fun x hx=>hz x (.tail _ hx)) h6)
          have h1c:=Rc_one _ _ h5 v (.head _)
          cases v <;> first | rfl | simp [Value.oneCell'] at h1c
    have:=hC g _ _ _ _ _ h1 base C _ hι hs (Rvs_append hv (hcap _ _ hna hcl))
    refine ⟨called_does this ?_,rfl⟩
    subst hι
    simp only [resolve,hc,hfv,Deferred.ofValue,Sem.run_bind,Sem.run_pure,Result.andThen_ok,invoke]
    congr 2
    apply Array.ext'
    simp
  · -- a call of a value,one of some
    rename_i y gs f l hc
    obtain ⟨H',b,h1,rfl⟩:=eff_inv hr
    simp only [Bool.and_eq_true] at h
    obtain ⟨h2,h3⟩:=h
    have hv:=ops_ok hO _ _ h3
    have hf:=hO _ _ h2
    generalize ev L st.vars f = F at h1 hf
    cases F <;> try (cases h1; done)
    rename_i g caps
    have h1:=doCallp_v h1
    simp only [doCallv] at h1
    obtain ⟨vs,hfv,hcl,hna⟩:=Rv_fn hf
    have hcap:∀ (l:List AV) (vs:List Value),(∀ x ∈ l,x.isA = false) → Rcl C l (vs.map fun v=>[v]) → Rvs C l vs:=by
      intro l
      induction l with
      | nil=>intro vs _ hh; cases vs with
        | nil=>exact .nil
        | cons v vs=>simp [Rcl] at hh
      | cons z l ih =>
        intro vs hz hh
        cases vs with
        | nil=>simp [Rcl] at hh
        | cons v vs =>
          simp only [Rcl,List.map_cons,List.cons.injEq] at hh
          obtain ⟨c,r,⟨rfl,rfl⟩,h5,h6⟩:=hh
          refine .cons (Rv_one h5 (hz _ (.head _)) ?_) (ih vs (fun x hx=>hz x (.tail _ hx)) h6)
          have h1c:=Rc_one _ _ h5 v (.head _)
          cases v <;> first | rfl | simp [Value.oneCell'] at h1c
    have:=hC g _ _ _ _ _ h1 base C _ hι hs (Rvs_append hv (hcap _ _ hna hcl))
    refine ⟨called_does this ?_,rfl⟩
    subst hι
    simp only [resolve,hc,hfv,Deferred.ofValue,Sem.run_bind,Sem.run_pure,Result.andThen_ok,invoke]
    congr 2
    apply Array.ext'
    simp
  · cases h
end Tor
namespace Tor
open Go Go.RowKit
variable {P:Program} {base:Nat} {C:Cx}
theorem nilCheck_form {X v y} (hx:Rv C X v) (h:doNilCheck X = some y):Rv C y v ∧ ((∃ a,v = .pointer (some a)) ∨ ∃ f cs,v = .func (.func f) #[] cs):=by
  refine ⟨(nilCheck_ok hx h).1,?_⟩
  cases X <;> try (cases h; done)
  · obtain ⟨b,off,xs,e,_⟩:=Rv_iptr hx; exact .inl ⟨_,e⟩
  · obtain ⟨b,bs,_,e⟩:=Rv_ptr hx; exact .inl ⟨_,e⟩
  · obtain ⟨vs,e,_⟩:=Rv_fn hx; exact .inr ⟨_,_,e⟩
theorem frz_ok {H H':Heap} {x y:AV} {v:Value} {b:Bool} (hs:Sim base C H) (hx:Rv C x v) (h:doFrz H x = some (y,H',b)):∃ C',C'.w = C.w ∧ OStep base C H C' H' ∧ Rv C' y v:=by
  unfold doFrz at h
  split at h
  case h_2=>cases h
  rename_i o g sz st len
  cases hel:elems H (.sl o g sz st len) with
  | none=>rw [hel] at h; cases h
  | some l =>
    rw [hel] at h
    simp only [frzK] at h
    split at h
    · cases h
    · rename_i hnr
      cases h
      obtain ⟨a,cap,ob,rfl,hob,hcs⟩:=sl_cells hs hx hel
      let C1:Cx:={ C with F:=fun b=>C.F b ∨ blk C o ob = some b }
      have hle:Le C C1:=⟨rfl,fun _ h=>.inl h,fun _ _ _ h=>h,fun _ _=>rfl,fun _ _ h=>h⟩
      have hbl:=fun b (hb:blk C o ob = some b)=>blk_heap (hs.obj o ob hob).1 hb
      have hst:OStep base C H C1 (H.set o .dead):=by
        refine ⟨hle,hs.set hob hle (fun b hb=>?_) (Nat.le_refl _) (fun _ _ _=>rfl) (fun _ _ _=>rfl) trivial trivial (fun b hb=>by cases hb),(Grow.refl C.w).below hs.bsz,fun b hb=>?_,fun b hb hF hno=>⟨rfl,fun h=>h.elim hF (hno o ob hob),fun o1 ob1 h1 hbk=>?_⟩⟩
        · rcases hb with hb | hb
          · exact ⟨hs.fsz b hb,.inl hb⟩
          · exact ⟨(hbl b hb).2.2,.inr (.inr hb)⟩
        · rcases hb with hb | hb
          · exact .inl hb
          · exact .inr (hbl b hb).1
        · rw [List.getElem?_set] at h1
          split at h1
          · split at h1
            · cases h1; cases hbk
            · cases h1
          · have:blk C1 o1 ob1 = blk C o1 ob1:=by cases ob1 <;> rfl
            rw [this] at hbk
            exact hno o1 ob1 h1 hbk
      refine ⟨C1,rfl,hst,Rv_one ?_ rfl rfl⟩
      simp only [Rc]
      refine ⟨by simpa using hnr,_,rfl,a,cap,rfl,?_⟩
      rcases hcs with rfl | ⟨b,off,css,rfl,hb,hcap,h1,h2,h3⟩
      · exact .inl rfl
      · exact .inr ⟨b,off,css,sz,rfl,.inr hb,hcap,Rcl_le hle _ _ h1,h2,h3⟩
theorem op_ok {ι:Env} {O:Operand → AOpd → Bool} {L:List AV} {st:St} {a:Act} {CF:CallF} {o:Oper} {aop_:AOp} {x:AV} {st':St} (hC:SoundC P ι CF) (hι:C.ι = ι) (hs:Sim base C st.heap)
    (hO:∀ x y,O x y = true → Rv C (ev L st.vars y) (a.eval x)) (h:opOk P ι O o.op aop_ = true) (hr:aop CF L st aop_ = some (x,st')) :
    Does P (execOp a.eval o) C.w (CPost base C st.heap x st'.heap) ∧ st'.vars = st.vars:=by
  generalize hop:o.op = op at h
  unfold opOk at h
  split at h
  · -- move
    unfold aop at hr
    obtain ⟨h1,rfl⟩:=ret_inv hr
    cases h1
    refine ⟨?_,rfl⟩
    simp only [execOp,hop]
    exact does_p (cpost_refl hs (hO _ _ h))
  · -- assign
    unfold aop at hr
    obtain ⟨h1,rfl⟩:=ret_inv hr
    cases h1
    refine ⟨?_,rfl⟩
    simp only [execOp,hop]
    exact does_p (cpost_refl hs (hO _ _ h))
  · -- a row that stays
    unfold aop at hr
    obtain ⟨H',b,h1,rfl⟩:=eff_inv hr
    refine ⟨?_,rfl⟩
    simp only [execOp,hop]
    obtain ⟨C',e1,e2,e3⟩:=frz_ok hs (hO _ _ h) h1
    exact does_p ⟨C',e1,e2,e3⟩
  · unfold aop at hr
    obtain ⟨H',b,h1,rfl⟩:=eff_inv hr
    refine ⟨?_,rfl⟩
    simp only [execOp,hop]
    obtain ⟨C',e1,e2,e3⟩:=frz_ok hs (hO _ _ h) h1
    exact does_p ⟨C',e1,e2,e3⟩
  · -- nil
    rename_i sz
    unfold aop at hr
    obtain ⟨H',b,h1,rfl⟩:=eff_inv hr
    cases h1
    refine ⟨?_,rfl⟩
    simp only [execOp,hop,isNilSlice_inv h,Act.eval]
    obtain ⟨e1,e2⟩:=nils_step hs sz none
    exact does_p ⟨C.with C.w st.heap.length none,rfl,e1,e2⟩
  · rename_i sz
    unfold aop at hr
    obtain ⟨H',b,h1,rfl⟩:=eff_inv hr
    cases h1
    refine ⟨?_,rfl⟩
    simp only [execOp,hop,isNilSlice_inv h,Act.eval]
    obtain ⟨e1,e2⟩:=nils_step hs sz none
    exact does_p ⟨C.with C.w st.heap.length none,rfl,e1,e2⟩
  · -- pick
    rename_i c p q c' p' q'
    unfold aop at hr
    obtain ⟨h1,rfl⟩:=ret_inv hr
    simp only [Bool.and_eq_true] at h
    obtain ⟨⟨h2,h3⟩,h4⟩:=h
    refine ⟨?_,rfl⟩
    have k2:=hO _ _ h2; have k3:=hO _ _ h3; have k4:=hO _ _ h4
    generalize ev L st'.vars c' = X at h1 k2
    cases X <;> try (cases h1; done)
    rename_i b
    have hb:=Rv_bool k2
    simp only [execOp,hop,hb]
    cases b
    · cases h1
      simp only [Does,asBool,Sem.run_bind,Sem.run_pure,Result.andThen_ok]
      exact cpost_refl hs k4
    · cases h1
      simp only [Does,asBool,Sem.run_bind,Sem.run_pure,Result.andThen_ok]
      exact cpost_refl hs k3
  · -- box
    unfold aop at hr
    obtain ⟨H',b,h1,rfl⟩:=eff_inv hr
    obtain ⟨C',u,e1,e2,e3⟩:=box_ok (P:=P) hs (hO _ _ h) h1
    refine ⟨?_,rfl⟩
    simp only [execOp,hop]
    exact does_v e1 ⟨C',rfl,e2,e3⟩
  · -- alloc
    unfold aop at hr
    obtain ⟨H',b,h1,rfl⟩:=eff_inv hr
    obtain ⟨zv,z1,z2,z3⟩:=zeroOk_inv h
    obtain ⟨C',u,e1,e2,e3⟩:=alloc_ok (P:=P) hs z1 z2 h1
    refine ⟨?_,rfl⟩
    simp only [execOp,hop]
    exact does_v e1 ⟨C',rfl,e2,e3⟩
  · -- build
    unfold aop at hr
    obtain ⟨h1,rfl⟩:=ret_inv hr
    simp only [Bool.and_eq_true] at h
    obtain ⟨⟨⟨h2,h3⟩,h4⟩,h5⟩:=h
    obtain ⟨zv,z1,z2,z3⟩:=zeroOk_inv h3
    unfold buildOk at h4
    split at h4
    · rename_i pl hpl
      obtain ⟨u,e1,e2⟩:=build_ok (P:=P) hpl h2 z1 (z2 C) h4 (parts:=_) (by rw [Array.toList_map]; exact parts_ok hO _ _ h5) h1
      refine ⟨?_,rfl⟩
      simp only [execOp,hop]
      exact does_v e1 (cpost_refl hs e2)
    · cases h4
  · -- buildSlice
    unfold aop at hr
    obtain ⟨H',b,h1,rfl⟩:=eff_inv hr
    simp only [Bool.and_eq_true,beq_iff_eq] at h
    obtain ⟨⟨⟨rfl,h3⟩,h4⟩,h5⟩:=h
    obtain ⟨e,b1,b2,zv,z1,z2,z3⟩:=bsliceOk_inv h3
    obtain ⟨C',u,e1,e2,e3⟩:=bslice_ok (P:=P) hs b1 b2 z1 (z2 C) z3 (Nat.le_of_ble_eq_true h4) (parts:=_) (by rw [Array.toList_map]; exact parts_ok hO _ _ h5) h1
    refine ⟨?_,rfl⟩
    simp only [execOp,hop]
    exact does_v e1 ⟨C',rfl,e2,e3⟩
  · -- load
    unfold aop at hr
    obtain ⟨h1,rfl⟩:=ret_inv hr
    simp only [Bool.and_eq_true,beq_iff_eq] at h
    obtain ⟨⟨h2,h3⟩,h4⟩:=h
    obtain ⟨u,e1,e2⟩:=load_ok hs h2 h3 (hO _ _ h4) h1
    refine ⟨?_,rfl⟩
    simp only [execOp,hop]
    exact does_v e1 (cpost_refl hs e2)
  · -- store
    unfold aop at hr
    obtain ⟨H',b,h1,rfl⟩:=eff_inv hr
    simp only [Bool.and_eq_true,beq_iff_eq] at h
    obtain ⟨⟨h2,h3⟩,h4⟩:=h
    obtain ⟨C',e1,e2,rfl⟩:=store_ok hs h2 (hO _ _ h3) (hO _ _ h4) h1
    refine ⟨?_,rfl⟩
    simp only [execOp,hop]
    exact does_u e1 ⟨C',rfl,e2,nothing_ok _⟩
  · -- nilCheck
    rename_i y z
    unfold aop at hr
    obtain ⟨h1,rfl⟩:=ret_inv hr
    obtain ⟨e1,e2⟩:=nilCheck_form (hO _ _ h) h1
    refine ⟨?_,rfl⟩
    simp only [execOp,hop]
    rcases e2 with ⟨p,e2⟩ | ⟨f,cs,e2⟩
    · rw [e2] at e1 ⊢; exact does_p (cpost_refl hs e1)
    · rw [e2] at e1 ⊢; exact does_p (cpost_refl hs e1)
  · -- binOp
    rename_i op t p q t' op' p' q'
    unfold aop at hr
    obtain ⟨h1,rfl⟩:=ret_inv hr
    simp only [Bool.and_eq_true,beq_iff_eq] at h
    obtain ⟨⟨rfl,h3⟩,h4⟩:=h
    obtain ⟨u,e1,e2⟩:=bin_ok (P:=P) (t:=t) (hO _ _ h3) (hO _ _ h4) h1
    obtain ⟨⟨k,n,i1⟩,⟨k',n',i2⟩⟩:=binAV_ints h1
    have j1:=Rv_int (i1 ▸ hO _ _ h3); have j2:=Rv_int (i2 ▸ hO _ _ h4)
    refine ⟨?_,rfl⟩
    simp only [execOp,hop]
    refine does_v (w':=C.w) (v:=u) ?_ (cpost_refl hs e2)
    simp only [Sem.run_bind,j1,j2,eqGuard_int,Result.andThen_ok] at e1 ⊢
    exact e1
  · -- binOp on truth values
    rename_i op t p q t' ne p' q'
    unfold aop at hr
    obtain ⟨h1,rfl⟩:=ret_inv hr
    simp only [Bool.and_eq_true,beq_iff_eq] at h
    obtain ⟨⟨⟨rfl,h2⟩,h3⟩,h4⟩:=h
    have ht:P.underlying t = some .bool:=by
      unfold boolT at h2
      split at h2
      · assumption
      · cases h2
    obtain ⟨u,e1,e2⟩:=binb_ok ht (hO _ _ h3) (hO _ _ h4) h1
    obtain ⟨⟨n,i1⟩,⟨n',i2⟩⟩:=binB_bools h1
    have j1:=Rv_bool (i1 ▸ hO _ _ h3); have j2:=Rv_bool (i2 ▸ hO _ _ h4)
    refine ⟨?_,rfl⟩
    simp only [execOp,hop]
    refine does_v (w':=C.w) (v:=u) ?_ (cpost_refl hs e2)
    simp only [Sem.run_bind,j1,j2,eqGuard_bool,Result.andThen_ok] at e1 ⊢
    exact e1
  · -- unOp
    unfold aop at hr
    obtain ⟨h1,rfl⟩:=ret_inv hr
    simp only [Bool.and_eq_true,beq_iff_eq] at h
    obtain ⟨rfl,h3⟩:=h
    obtain ⟨u,e1,e2⟩:=un_ok (P:=P) (hO _ _ h3) h1
    refine ⟨?_,rfl⟩
    simp only [execOp,hop]
    exact does_v e1 (cpost_refl hs e2)
  · -- convert
    rename_i s d p k p'
    unfold aop at hr
    obtain ⟨h1,rfl⟩:=ret_inv hr
    simp only [Bool.and_eq_true] at h
    obtain ⟨h2,h3⟩:=h
    unfold convOk at h2
    simp only [Bool.and_eq_true] at h2
    obtain ⟨h2,h4⟩:=h2
    split at h2
    · rename_i k' hk
      simp only [beq_iff_eq] at h2
      subst h2
      obtain ⟨u,e1,e2⟩:=conv_ok hk h4 (hO _ _ h3) h1
      refine ⟨?_,rfl⟩
      simp only [execOp,hop]
      exact does_v e1 (cpost_refl hs e2)
    · cases h2
  · -- makeFunc
    unfold aop at hr
    obtain ⟨h1,rfl⟩:=ret_inv hr
    simp only [Bool.and_eq_true,beq_iff_eq] at h
    obtain ⟨⟨h2,rfl⟩,h4⟩:=h
    have hv:=ops_ok hO _ _ h4
    have hfirst:=Array.eq_empty_of_size_eq_zero h2
    subst hfirst
    have hk:=h1
    unfold doMkfn at hk
    split at hk
    · rename_i hcap
      have e2:=mkfn_ok (Rvs_known hv (fun x hx=>by
        have:=List.all_eq_true.1 hcap x hx
        simp only [capOk,Bool.and_eq_true] at this
        exact this.1.1)) h1
      refine ⟨?_,rfl⟩
      simp only [execOp,hop,Instr.makeFunc]
      refine does_v (w':=C.w) (by simp only [Sem.run_pure]; rfl) (cpost_refl hs ?_)
      rw [hι,← Array.toList_map,Array.toArray_toList] at e2
      rw [Array.map_empty]
      exact e2
    · cases hk
  · -- makeMap
    unfold aop at hr
    obtain ⟨H',b,h1,rfl⟩:=eff_inv hr
    cases h1
    rename_i t
    obtain ⟨C',u,e1,e2,e3⟩:=mkmap_ok (P:=P) hs (t:=t)
    refine ⟨?_,rfl⟩
    simp only [execOp,hop]
    exact does_v e1 ⟨C',rfl,e2,e3⟩
  · -- makeSlice
    unfold aop at hr
    obtain ⟨H',b,h1,rfl⟩:=eff_inv hr
    simp only [Bool.and_eq_true] at h
    obtain ⟨⟨h2,h3⟩,h4⟩:=h
    obtain ⟨e,i,zv,b1,b2,b3,b4,b5,b6,b7⟩:=mksliceOk_inv h2
    obtain ⟨C',u,e1,e2,e3⟩:=mkslice_ok hs b1 b2 b3 b4 b5 (b6 C) b7 (hO _ _ h3) (hO _ _ h4) h1
    refine ⟨?_,rfl⟩
    simp only [execOp,hop]
    exact does_v e1 ⟨C',rfl,e2,e3⟩
  · -- slice
    rename_i t p lo hi mx sz p' lo' hi' mx'
    unfold aop at hr
    obtain ⟨h1,rfl⟩:=ret_inv hr
    simp only [Bool.and_eq_true] at h
    obtain ⟨⟨⟨⟨⟨h2,h3⟩,h4⟩,h5⟩,h6⟩,h7⟩:=h
    obtain ⟨e,b1,b2⟩:=sliceOk_inv h2
    obtain ⟨u,e1,e2⟩:=slice_ok b1 b2 (opt_ok hO h4) (opt_ok hO h5) (opt_ok hO h6) (by cases mx <;> cases hi <;> simp_all) (hO _ _ h3) h1
    refine ⟨?_,rfl⟩
    simp only [execOp,hop]
    exact does_v e1 (cpost_refl hs e2)
  · -- an empty slice
    rename_i t p hi mx sz p'
    unfold aop at hr
    obtain ⟨H',b,h1,rfl⟩:=eff_inv hr
    simp only [Bool.and_eq_true] at h
    obtain ⟨⟨⟨h2,h3⟩,h4⟩,h5⟩:=h
    obtain ⟨e,b1,b2⟩:=sliceOk_inv h2
    obtain ⟨C',u,e1,e2,e3⟩:=slice0_ok hs b1 (by rw [b2]; rfl) rfl rfl (hO _ _ h3) h1
    refine ⟨?_,rfl⟩
    simp only [execOp,hop,isZero64_inv h4,isZero64_inv h5]
    exact does_v e1 ⟨C',rfl,e2,e3⟩
  · -- fieldAddr
    unfold aop at hr
    obtain ⟨h1,rfl⟩:=ret_inv hr
    simp only [Bool.and_eq_true,beq_iff_eq] at h
    obtain ⟨⟨rfl,h2⟩,h3⟩:=h
    unfold fieldAddrOk at h2
    split at h2
    · rename_i f hf
      simp only [Bool.and_eq_true,beq_iff_eq] at h2
      obtain ⟨h4,h5⟩:=h2
      split at h5
      · rename_i n hn
        obtain ⟨u,e1,e2⟩:=fieldAddr_ok hf h4 ⟨n,hn,by simpa using h5⟩ (hO _ _ h3) h1
        refine ⟨?_,rfl⟩
        simp only [execOp,hop]
        exact does_v e1 (cpost_refl hs e2)
      · cases h5
    · cases h2
  · -- field
    unfold aop at hr
    obtain ⟨h1,rfl⟩:=ret_inv hr
    simp only [Bool.and_eq_true,beq_iff_eq] at h
    obtain ⟨⟨rfl,h2⟩,h3⟩:=h
    unfold fieldOk at h2
    split at h2
    · rename_i f hf
      simp only [Bool.and_eq_true,beq_iff_eq] at h2
      obtain ⟨⟨h4,h5⟩,h6⟩:=h2
      obtain ⟨u,e1,e2⟩:=field_ok hf h4 h5 h6 (hO _ _ h3) h1
      refine ⟨?_,rfl⟩
      simp only [execOp,hop]
      exact does_v e1 (cpost_refl hs e2)
    · cases h2
  · -- indexAddr
    unfold aop at hr
    obtain ⟨h1,rfl⟩:=ret_inv hr
    simp only [Bool.and_eq_true] at h
    obtain ⟨⟨h2,h3⟩,h4⟩:=h
    obtain ⟨e,b1,b2⟩:=sliceOk_inv h2
    obtain ⟨u,e1,e2⟩:=indexAddr_ok b1 b2 (hO _ _ h3) (hO _ _ h4) h1
    refine ⟨?_,rfl⟩
    simp only [execOp,hop]
    exact does_v e1 (cpost_refl hs e2)
  · -- indexAddr of an array
    unfold aop at hr
    obtain ⟨h1,rfl⟩:=ret_inv hr
    simp only [Bool.and_eq_true] at h
    obtain ⟨⟨h2,h3⟩,h4⟩:=h
    unfold arrOk at h2
    split at h2
    · rename_i m e he
      simp only [Bool.and_eq_true,beq_iff_eq] at h2
      obtain ⟨rfl,h5⟩:=h2
      obtain ⟨u,e1,e2⟩:=indexArr_ok he h5 (hO _ _ h3) (hO _ _ h4) h1
      refine ⟨?_,rfl⟩
      simp only [execOp,hop]
      exact does_v e1 (cpost_refl hs e2)
    · cases h2
  · -- index
    unfold aop at hr
    obtain ⟨h1,rfl⟩:=ret_inv hr
    simp only [Bool.and_eq_true] at h
    obtain ⟨⟨h2,h3⟩,h4⟩:=h
    unfold strT at h2
    split at h2
    · rename_i he
      obtain ⟨u,e1,e2⟩:=indexStr_ok he (hO _ _ h3) (hO _ _ h4) h1
      refine ⟨?_,rfl⟩
      simp only [execOp,hop]
      exact does_v e1 (cpost_refl hs e2)
    · cases h2
  · -- index of an array's value
    unfold aop at hr
    obtain ⟨h1,rfl⟩:=ret_inv hr
    simp only [Bool.and_eq_true] at h
    obtain ⟨⟨h2,h3⟩,h4⟩:=h
    unfold arrVOk at h2
    split at h2
    · rename_i m e he
      simp only [Bool.and_eq_true,beq_iff_eq] at h2
      obtain ⟨⟨rfl,h5⟩,h6⟩:=h2
      obtain ⟨u,e1,e2⟩:=idx_ok he h5 h6 (hO _ _ h3) (hO _ _ h4) h1
      refine ⟨?_,rfl⟩
      simp only [execOp,hop]
      exact does_v e1 (cpost_refl hs e2)
    · cases h2
  · -- is a row nil
    unfold aop at hr
    obtain ⟨h1,rfl⟩:=ret_inv hr
    simp only [Bool.and_eq_true,beq_iff_eq] at h
    obtain ⟨⟨⟨rfl,h2⟩,h3⟩,h4⟩:=h
    obtain ⟨e,he⟩:=Option.isSome_iff_exists.1 h2
    obtain ⟨a,n,c,j1,j2,e1,e2⟩:=isnil_ok (sliceB_inv he) (hO _ _ h3) (hO _ _ h4) h1
    refine ⟨?_,rfl⟩
    simp only [execOp,hop]
    refine does_v (w':=C.w) (v:=.bool (if _ then !a.isNone else a.isNone)) ?_ (cpost_refl hs e2)
    simp only [Sem.run_bind,j1,j2,eqGuard_slice,Result.andThen_ok] at e1 ⊢
    exact e1
  · -- lookup
    unfold aop at hr
    obtain ⟨h1,rfl⟩:=ret_inv hr
    simp only [Bool.and_eq_true,beq_iff_eq] at h
    obtain ⟨⟨⟨rfl,h2⟩,h3⟩,h4⟩:=h
    unfold lookOk at h2
    simp only [Bool.and_eq_true] at h2
    obtain ⟨h2,h5⟩:=h2
    obtain ⟨kt,et,kd,b1,b2,b3⟩:=mapOk_inv h2
    rw [b1] at h5
    obtain ⟨zv,z1,z2,z3⟩:=zeroOk_inv h5
    obtain ⟨u,e1,e2⟩:=lookup_ok hs b1 b2 b3 z1 (known_Rv1 z3 (z2 C)) (hO _ _ h3) (hO _ _ h4) h1
    refine ⟨?_,rfl⟩
    simp only [execOp,hop]
    exact does_v e1 (cpost_refl hs e2)
  · -- mapUpdate
    unfold aop at hr
    obtain ⟨H',b,h1,rfl⟩:=eff_inv hr
    simp only [Bool.and_eq_true] at h
    obtain ⟨⟨⟨h2,h3⟩,h4⟩,h5⟩:=h
    obtain ⟨kt,et,kd,b1,b2,b3⟩:=mapOk_inv h2
    obtain ⟨C',e1,e2,rfl⟩:=mupd_ok hs b1 b2 b3 (hO _ _ h3) (hO _ _ h4) (hO _ _ h5) h1
    refine ⟨?_,rfl⟩
    simp only [execOp,hop]
    exact does_u e1 ⟨C',rfl,e2,nothing_ok _⟩
  · -- extract
    unfold aop at hr
    obtain ⟨h1,rfl⟩:=ret_inv hr
    simp only [Bool.and_eq_true,beq_iff_eq] at h
    obtain ⟨rfl,h3⟩:=h
    obtain ⟨u,e1,e2⟩:=extract_ok (P:=P) (hO _ _ h3) h1
    refine ⟨?_,rfl⟩
    simp only [execOp,hop]
    exact does_v e1 (cpost_refl hs e2)
  · -- a call
    exact call_op_ok hC hι hs hO hop h hr
  · cases h
end Tor
namespace Tor
open Go Go.RowKit
def stepAt (CF:CallF) (o:AOper) (Lp:List AV) (s:St) (x:AV) (s':St):Prop :=
  (wants Lp o.guard = some true ∧ ∃ s1,aop CF Lp s o.op = some (x,s1) ∧ s' = setVar s1 o.dst x) ∨
  (wants Lp o.guard = some false ∧ x = nothing ∧ s' = setVar s o.dst nothing)
theorem evalOps_trace (CF:CallF):∀ (ops:List AOper) (L:List AV) (st st':St),evalOps CF ops L st = some st' →
    ∃ (Lf:List AV) (hs:Nat → St),hs 0 = st ∧ hs ops.length = st' ∧ Lf.length = L.length + ops.length ∧ Lf.take L.length = L ∧
      ∀ i o,ops[i]? = some o → stepAt CF o (Lf.take (L.length + i)) (hs i) (Lf.getD (L.length + i) .u) (hs (i + 1))
  | [],L,st,st',h=>by
    rw [evalOps_nil] at h; cases h
    exact ⟨L,fun _=>st,rfl,rfl,rfl,by simp,fun i o h=>by simp at h⟩
  | o :: r,L,st,st',h=>by
    rw [evalOps_cons] at h
    have key:∀ x s1,evalOps CF r (L ++ [x]) s1 = some st' → stepAt CF o L st x s1 →
        ∃ (Lf:List AV) (hs:Nat → St),hs 0 = st ∧ hs (o :: r).length = st' ∧ Lf.length = L.length + (o :: r).length ∧ Lf.take L.length = L ∧
          ∀ i o',(o :: r)[i]? = some o' → stepAt CF o' (Lf.take (L.length + i)) (hs i) (Lf.getD (L.length + i) .u) (hs (i + 1)):=by
      intro x s1 he hst
      obtain ⟨Lf,hs,h1,h2,h3,h4,h5⟩:=evalOps_trace CF r (L ++ [x]) s1 st' he
      have hl:(L ++ [x]).length = L.length + 1:=by simp
      rw [hl] at h3 h4 h5
      have hx:Lf.getD L.length .u = x:=by
        have:(Lf.take (L.length + 1))[L.length]? = some x:=by rw [h4]; simp
        rw [List.getElem?_take] at this
        simp at this
        simp [List.getD,this]
      have hL:Lf.take L.length = L:=by
        have:=congrArg (List.take L.length) h4
        rw [List.take_take,Nat.min_eq_left (by omega)] at this
        simpa using this
      refine ⟨Lf,fun i=>if i = 0 then st else hs (i - 1),rfl,by simp [h2],by rw [h3]; simp; omega,hL,fun i o' ho'=>?_⟩
      cases i with
      | zero =>
        simp at ho'; subst ho'
        simp only [Nat.add_zero,hL,hx]
        simpa [h1] using hst
      | succ i =>
        have:=h5 i o' (by simpa using ho')
        simpa [Nat.add_assoc,Nat.add_comm 1 i] using this
    cases hw:wants L o.guard with
    | none=>rw [hw] at h; simp [gK,evalG] at h
    | some b =>
      rw [hw] at h
      cases b with
      | false =>
        rw [gK_f] at h
        exact key nothing _ h (.inr ⟨hw,rfl,rfl⟩)
      | true =>
        rw [gK_t] at h
        cases ha:aop CF L st o.op with
        | none=>rw [ha] at h; simp [kK,evalK] at h
        | some p =>
          obtain ⟨x,s1⟩:=p
          rw [ha,kK_s] at h
          exact key x _ h (.inl ⟨hw,s1,ha,rfl⟩)
theorem aop_vars {CF:CallF} {L st op x st'} (h:aop CF L st op = some (x,st')):st'.vars = st.vars:=by
  cases op <;> unfold aop at h <;> first
    | (obtain ⟨_,rfl⟩:=ret_inv h; rfl)
    | (obtain ⟨_,_,_,rfl⟩:=eff_inv h; rfl)
inductive Cls where
  | p | r | a | w
  deriving DecidableEq
def Cls.wr:Cls → Bool
  | .a=>true
  | .w=>true
  | _=>false
def clsOf (pureF:Nat → Bool):AOp → Cls
  | .move _ | .pick _ _ _ | .build _ _ | .nilCheck _ | .bin _ _ _ | .binb _ _ _ | .un _ _ | .conv _ _ | .mkfn _ _ | .slice _ _ _ _ _ | .fieldAddr _ _ _ | .field _ _ _ _ _
  | .indexAddr _ _ _ | .indexArr _ _ _ _ | .indexStr _ _ | .x2 _ _ _ | .extract _ _ | .max _ _ | .min _ _ | .cn _ | .cb _ | .cs _ _ _ | .cl _ _ _ | .ca _ | .box true _ | .bslice false _ _ _ _=>.p
  | .load _ _ _ | .lookup _ _ _ _ | .len _ _=>.r
  | .call g _=>if pureF g then .p else .w
  | .callp gs _ _=>if gs.all pureF then .p else .w
  | .alloc _ | .nils _ | .box false _ | .bslice true _ _ _ _ | .mkmap | .mkslice _ _ _ _ _ | .slice0 _ _=>.a
  | _=>.w
def PureC (pureF:Nat → Bool) (CF:CallF):Prop :=
  ∀ g,pureF g = true → ∀ args H r H' b,CF g args H = some (r,H',b) → H' = H ∧ b = false ∧ ∀ H2,CF g args H2 = some (r,H2,false)
theorem memN_all {g:Nat} {p:Nat → Bool}:∀ {gs:List Nat},memN g gs = true → gs.all p = true → p g = true
  | [],h,_=>by cases h
  | x :: r,h,ha=>by
    simp only [List.all_cons,Bool.and_eq_true] at ha
    simp only [memN] at h
    split at h
    · rename_i e; rw [e]; exact ha.1
    · exact memN_all h ha.2
theorem aop_p {pureF CF} (hp:PureC pureF CF) {L st op x st'} (h:aop CF L st op = some (x,st')) (hc:clsOf pureF op = .p) :
    st'.heap = st.heap ∧ ∀ H,aop CF L { st with heap:=H } op = some (x,{ st' with heap:=H }):=by
  cases op <;> try (simp [clsOf] at hc; done)
  case box im y =>
    cases im
    · simp [clsOf] at hc
    · unfold aop at h ⊢
      simp only [doBox,if_true] at h ⊢
      split at h
      · rename_i hk
        obtain ⟨H',b,e,rfl⟩:=eff_inv h
        cases e
        refine ⟨rfl,fun H=>?_⟩
        simp [hk,eff]
      · cases h
  case bslice mt sz z n ps =>
    cases mt
    · unfold aop at h ⊢
      simp only at h ⊢
      generalize (if z.size = sz ∧ z.hasRef = false then setAll (List.replicate n z) (ps.map fun p=>(p.1,ev L st.vars p.2)) else none) = q at h ⊢
      cases q with
      | none=>cases h
      | some l =>
        simp only [doBslice,Bool.false_eq_true,if_false] at h ⊢
        split at h
        · cases h
        · rename_i hk
          obtain ⟨H',b,e,rfl⟩:=eff_inv h
          cases e
          refine ⟨rfl,fun H=>?_⟩
          simp [hk,eff]
    · simp [clsOf] at hc
  case call g args =>
    simp only [clsOf] at hc
    split at hc
    · rename_i hg
      unfold aop at h ⊢
      obtain ⟨H',b,e,rfl⟩:=eff_inv h
      obtain ⟨rfl,rfl,h2⟩:=hp g hg _ _ _ _ _ e
      refine ⟨rfl,fun H=>?_⟩
      simp [h2,eff]
    · cases hc
  case callp gs f args =>
    simp only [clsOf] at hc
    split at hc
    · rename_i hg
      unfold aop at h ⊢
      obtain ⟨H',b,e,rfl⟩:=eff_inv h
      simp only at e ⊢
      generalize ev L st.vars f = F at e ⊢
      cases F <;> try (cases e; done)
      rename_i g caps
      simp only [doCallp] at e ⊢
      split at e
      · rename_i hm
        obtain ⟨rfl,rfl,h2⟩:=hp g (memN_all hm hg) _ _ _ _ _ e
        refine ⟨rfl,fun H=>?_⟩
        simp [hm,h2,eff]
      · cases e
    · cases hc
  all_goals
    unfold aop at h ⊢
    obtain ⟨e,rfl⟩:=ret_inv h
    refine ⟨rfl,fun H=>?_⟩
    simp only at e ⊢
    rw [e]; rfl
theorem aop_r {pureF CF} {L st op x st'} (h:aop CF L st op = some (x,st')) (hc:clsOf pureF op = .r):st'.heap = st.heap:=by
  cases op <;> try (simp [clsOf] at hc; done)
  all_goals first
    | (unfold aop at h; obtain ⟨e,rfl⟩:=ret_inv h; rfl)
    | (rename_i b _; cases b <;> simp [clsOf] at hc; done)
    | (rename_i b _ _ _ _; cases b <;> simp [clsOf] at hc; done)
    | (simp only [clsOf] at hc; split at hc <;> cases hc)
def ropd:AOp → Option AOpd
  | .load _ _ x=>some x
  | .lookup _ _ m _=>some m
  | .len _ x=>some x
  | _=>none
theorem getIn_ag {H H2:Heap} {o:Nat} (hag:∀ o,o < H2.length → o < H.length → H2[o]? = H[o]?) (ho:o < H2.length) {α:Type} {f:Option AObj → Option α} (hf:f none = none) {y:α} (h:f H[o]? = some y):f H2[o]? = some y:=by
  by_cases hl:o < H.length
  · rw [hag o ho hl]; exact h
  · rw [List.getElem?_eq_none (by omega),hf] at h; cases h
theorem aop_r2 {pureF CF} {L st op x st'} {H2:Heap} (h:aop CF L st op = some (x,st')) (hc:clsOf pureF op = .r) (hag:∀ o,o < H2.length → o < st.heap.length → H2[o]? = st.heap[o]?)
    (hun:∀ y,ropd op = some y → (ev L st.vars y).under H2.length = true):aop CF L { st with heap:=H2 } op = some (x,{ st' with heap:=H2 }):=by
  cases op <;> try (simp [clsOf] at hc; done)
  case load ag sz y =>
    have hu:=hun y rfl
    unfold aop at h ⊢
    obtain ⟨e,rfl⟩:=ret_inv h
    simp only at e ⊢
    generalize ev L st'.vars y = X at e hu
    have:doLoad ag sz H2 X = some x:=by
      cases X <;> try (cases e; done)
      · exact e
      · rename_i o g p
        simp only [AV.under,decide_eq_true_eq] at hu
        simp only [doLoad] at e ⊢
        exact getIn_ag (f:=fun q=>fits ag sz (getIn g p q)) hag hu rfl e
    rw [this]; rfl
  case lookup z ok m k =>
    have hu:=hun m rfl
    unfold aop at h ⊢
    obtain ⟨e,rfl⟩:=ret_inv h
    simp only at e ⊢
    generalize ev L st'.vars m = X at e hu
    generalize ev L st'.vars k = Y at e
    have:doLookup z ok H2 X Y = some x:=by
      cases X <;> try (cases e; done)
      cases Y <;> try (cases e; done)
      rename_i o k n
      cases k <;> try (cases e; done)
      simp only [AV.under,decide_eq_true_eq] at hu
      simp only [doLookup] at e ⊢
      exact getIn_ag (f:=fun q=>lookIn z ok n q) hag hu rfl e
    rw [this]; rfl
  case len kd y =>
    have hu:=hun y rfl
    unfold aop at h ⊢
    obtain ⟨e,rfl⟩:=ret_inv h
    simp only at e ⊢
    generalize ev L st'.vars y = X at e hu
    have:doLen H2 kd X = some x:=by
      match kd with
      | 0 => have : doLen H2 0 X = doLen st'.heap 0 X := by cases X <;> rfl
             rw [this]; exact e
      | 1 =>
        cases X <;> try (cases e; done)
        rename_i o
        simp only [AV.under,decide_eq_true_eq] at hu
        simp only [doLen] at e ⊢
        exact getIn_ag (f:=fun q=>mlen q) hag hu rfl e
      | 2 => have : doLen H2 2 X = doLen st'.heap 2 X := by
               cases X <;> try rfl
               rename_i v; cases v <;> rfl
             rw [this]; exact e
      | n + 3 => have : doLen st'.heap (n + 3) X = none := by cases X <;> rfl
                 rw [this] at e; cases e
    rw [this]; rfl
  all_goals first
    | (rename_i b _; cases b <;> simp [clsOf] at hc; done)
    | (rename_i b _ _ _ _; cases b <;> simp [clsOf] at hc; done)
    | (simp only [clsOf] at hc; split at hc <;> cases hc)
theorem aop_a {pureF CF} {L st op x st'} (h:aop CF L st op = some (x,st')) (hc:clsOf pureF op = .a):∃ ob,st'.heap = st.heap ++ [ob]:=by
  cases op <;> try (simp [clsOf] at hc; done)
  case box im y =>
    cases im
    · unfold aop at h
      obtain ⟨H',b,e,rfl⟩:=eff_inv h
      simp only [doBox] at e
      split at e
      · cases e; exact ⟨_,rfl⟩
      · cases e
    · simp [clsOf] at hc
  case bslice mt sz z n ps =>
    cases mt
    · simp [clsOf] at hc
    · unfold aop at h
      obtain ⟨H',b,e,rfl⟩:=eff_inv h
      generalize (if z.size = sz ∧ z.hasRef = false then setAll (List.replicate n z) (ps.map fun p=>(p.1,ev L st.vars p.2)) else none) = q at e
      cases q with
      | none=>cases e
      | some l=>simp only [doBslice,if_true] at e; cases e; exact ⟨_,rfl⟩
  case alloc z =>
    unfold aop at h
    obtain ⟨H',b,e,rfl⟩:=eff_inv h
    split at e
    · cases e; exact ⟨_,rfl⟩
    · cases e
  case nils sz =>
    unfold aop at h
    obtain ⟨H',b,e,rfl⟩:=eff_inv h
    cases e; exact ⟨_,rfl⟩
  case mkmap =>
    unfold aop at h
    obtain ⟨H',b,e,rfl⟩:=eff_inv h
    cases e; exact ⟨_,rfl⟩
  case mkslice sz bytes z n c =>
    unfold aop at h
    obtain ⟨H',b,e,rfl⟩:=eff_inv h
    unfold doMkslice at e
    split at e
    · split at e
      · cases e; exact ⟨_,rfl⟩
      · cases e
    · cases e
  case slice0 sz y =>
    unfold aop at h
    obtain ⟨H',b,e,rfl⟩:=eff_inv h
    unfold doSlice0 at e
    split at e <;> first | (cases e; exact ⟨_,rfl⟩) | cases e
  case call g args =>
    simp only [clsOf] at hc; split at hc <;> cases hc
  case callp gs f args =>
    simp only [clsOf] at hc; split at hc <;> cases hc
theorem setVar_vars (st:St) (d:Option Nat) (x:AV):(setVar st d x).vars = match d with | some k=>st.vars.set k x | none=>st.vars:=by cases d <;> rfl
theorem trace_vars {CF:CallF} {ops:List AOper} {Lf:List AV} {hs:Nat → St} (h:∀ i o,ops[i]? = some o → stepAt CF o (Lf.take i) (hs i) (Lf.getD i .u) (hs (i + 1))) (k:Nat) :
    ∀ i,i ≤ ops.length → (hs i).vars.length = (hs 0).vars.length ∧ ((∀ j o,j < i → ops[j]? = some o → o.dst ≠ some k) → (hs i).vars.getD k .u = (hs 0).vars.getD k .u) ∧
      ∀ j o,j < i → ops[j]? = some o → o.dst = some k → k < (hs 0).vars.length → (∀ j' o',j < j' → j' < i → ops[j']? = some o' → o'.dst ≠ some k) → (hs i).vars.getD k .u = Lf.getD j .u:=by
  intro i
  induction i with
  | zero=>intro _; exact ⟨rfl,fun _=>rfl,fun j o hj=>by omega⟩
  | succ i ih =>
    intro hi
    obtain ⟨h1,h2,h3⟩:=ih (by omega)
    have ho:ops[i]? = some ops[i]:=List.getElem?_eq_getElem (by omega)
    generalize ops[i] = o at ho
    have hv:(hs (i + 1)).vars = match o.dst with | some k=>(hs i).vars.set k (Lf.getD i .u) | none=>(hs i).vars:=by
      rcases h i o ho with ⟨_,s1,a1,a2⟩ | ⟨_,a1,a2⟩
      · rw [a2,setVar_vars,aop_vars a1]
      · rw [a2,setVar_vars,a1]
    refine ⟨?_,fun hn=>?_,fun j o' hj ho' hd hk hlast=>?_⟩
    · rw [hv,← h1]; cases o.dst <;> simp
    · have hne:=hn i o (by omega) ho
      have:(hs (i + 1)).vars.getD k .u = (hs i).vars.getD k .u:=by
        rw [hv]
        cases hd:o.dst with
        | none=>rfl
        | some k' =>
          have:k' ≠ k:=fun e=>hne (by rw [hd,e])
          simp [List.getD,this]
      rw [this]
      exact h2 fun j o' hj=>hn j o' (by omega)
    · by_cases hji:j = i
      · subst hji
        rw [ho] at ho'; cases ho'
        rw [hv,hd]
        simp [List.getD,h1,hk]
      · have hne:=hlast i o (by omega) (by omega) ho
        have:(hs (i + 1)).vars.getD k .u = (hs i).vars.getD k .u:=by
          rw [hv]
          cases hd':o.dst with
          | none=>rfl
          | some k' =>
            have:k' ≠ k:=fun e=>hne (by rw [hd',e])
            simp [List.getD,this]
        rw [this]
        exact h3 j o' (by omega) ho' hd hk fun j' o'' hj' hlt=>hlast j' o'' hj' (by omega)
def edgesOf (o:Oper):List Nat:=(o.after.toList.filter (Region.binds .any)).map (·.on)
def orAll (ms:List Nat) (l:List Nat):Nat:=l.foldl (fun a e=>a ||| (2 ^ e ||| ms.getD e 0)) 0
def masks:List Oper → List Nat → List Nat
  | [],acc=>acc
  | o :: r,acc=>masks r (acc ++ [orAll acc (edgesOf o)])
def masksOk (ms:List Nat):Nat → List Oper → Bool
  | _,[]=>true
  | i,o :: r=>ms.getD i 0 == orAll ms (edgesOf o) && (edgesOf o).all (fun e=>Nat.blt e i) && masksOk ms (i + 1) r
theorem foldl_or (ms:List Nat) (i:Nat):∀ (l:List Nat) (a:Nat),(l.foldl (fun a e=>a ||| (2 ^ e ||| ms.getD e 0)) a).testBit i = true → a.testBit i = true ∨ ∃ e ∈ l,e = i ∨ (ms.getD e 0).testBit i = true
  | [],a,h=>.inl h
  | e :: l,a,h=>by
    simp only [List.foldl_cons] at h
    rcases foldl_or ms i l _ h with h | ⟨e',h1,h2⟩
    · simp only [Nat.testBit_or,Bool.or_eq_true,Nat.testBit_two_pow,decide_eq_true_eq] at h
      rcases h with h | h | h
      · exact .inl h
      · exact .inr ⟨e,.head _,.inl h⟩
      · exact .inr ⟨e,.head _,.inr h⟩
    · exact .inr ⟨e',.tail _ h1,h2⟩
theorem masksOk_get {ms:List Nat}:∀ {ops:List Oper} {i:Nat},masksOk ms i ops = true → ∀ j o,ops[j]? = some o → ms.getD (i + j) 0 = orAll ms (edgesOf o) ∧ ∀ e ∈ edgesOf o,e < i + j
  | [],_,_,j,o,h=>by simp at h
  | o' :: r,i,h,j,o,ho=>by
    simp only [masksOk,Bool.and_eq_true,beq_iff_eq,List.all_eq_true] at h
    obtain ⟨⟨h1,h2⟩,h3⟩:=h
    cases j with
    | zero=>simp at ho; subst ho; exact ⟨h1,fun e he=>by have:=h2 e he; rw [Nat.blt_eq] at this; omega⟩
    | succ j =>
      have:=masksOk_get h3 j o (by simpa using ho)
      rw [show i + (j + 1) = i + 1 + j by omega]; exact this
structure Prec where
  draw:Bool
  ms:List Nat
def Prec.lt (p:Prec) (i j:Nat):Bool:=if p.draw then (p.ms.getD j 0).testBit i else Nat.blt i j
def Closed (ops:List Oper) (S:Nat → Bool):Prop:=∀ i o,S i = true → ops[i]? = some o → ∀ e ∈ edgesOf o,S e = true
theorem mask_in {ops:List Oper} {ms:List Nat} (hm:masksOk ms 0 ops = true) {S:Nat → Bool} (hS:Closed ops S):∀ (n j:Nat) (o:Oper),j ≤ n → ops[j]? = some o → (∀ e ∈ edgesOf o,S e = true) →
    ∀ i,(ms.getD j 0).testBit i = true → S i = true ∧ i < j:=by
  intro n
  induction n with
  | zero =>
    intro j o hj ho he i hi
    have h:=masksOk_get hm j o ho
    rw [Nat.zero_add] at h
    rw [h.1] at hi
    rcases foldl_or ms i _ 0 hi with hi | ⟨e,h1,_⟩
    · simp at hi
    · have:=h.2 e h1; omega
  | succ n ih =>
    intro j o hj ho he i hi
    have h:=masksOk_get hm j o ho
    rw [Nat.zero_add] at h
    rw [h.1] at hi
    rcases foldl_or ms i _ 0 hi with hi | ⟨e,h1,h2⟩
    · simp at hi
    · have hlt:=h.2 e h1
      rcases h2 with rfl | h2
      · exact ⟨he _ h1,hlt⟩
      · have hlen:e < ops.length:=by
          have:=(List.getElem?_eq_some_iff.1 ho).1
          omega
        have hoe:ops[e]? = some ops[e]:=List.getElem?_eq_getElem hlen
        have:=ih e _ (by omega) hoe (fun e' he'=>hS e _ (he e h1) hoe e' he') i h2
        exact ⟨this.1,by omega⟩
end Tor
namespace Tor
open Go Go.RowKit
variable {P:Program} {base ent:Nat} {C:Cx} {H:Heap}
structure Own (base ent:Nat) (C:Cx) (H:Heap) (b:Nat):Prop where
  base:base ≤ b
  ent:ent ≤ b
  F:¬ C.F b
  no:∀ o ob,H[o]? = some ob → blk C o ob ≠ some b
def CellV (base ent:Nat) (C:Cx) (H:Heap) (x:AV) (v:Value):Prop :=
  x.known = false ∨ ∃ b c e,v = .pointer (some ⟨b,0,none⟩) ∧ C.w.heap[b]? = some (.cells c e (0,0)) ∧ Rc C x c.toList ∧ Own base ent C H b
theorem CellV.step {C':Cx} {H':Heap} {x:AV} {v:Value} (h:CellV base ent C H x v) (hst:OStep base C H C' H'):CellV base ent C' H' x v:=by
  rcases h with h | ⟨b,c,e,h1,h2,h3,h4⟩
  · exact .inl h
  · obtain ⟨p1,p2,p3⟩:=hst.priv b (lt_of_heap h2) h4.F h4.no
    exact .inr ⟨b,c,e,h1,p1.trans h2,Rc_le hst.le _ _ h3,h4.base,h4.ent,p2,p3⟩
theorem Step.ent_le {ent':Nat} {C':Cx} {H':Heap} (h:Step base ent C H C' H') (he:ent' ≤ ent):Step base ent' C H C' H' :=
  ⟨h.le,h.sim,h.below,h.fgr,fun b hb=>h.priv b (by omega)⟩
theorem Step.trans {A B D:Cx} {H0 H1 H2:Heap} (h:Step base ent A H0 B H1) (k:Step base ent B H1 D H2):Step base ent A H0 D H2 :=
  ⟨h.le.trans k.le,k.sim,⟨k.below.1.trans h.below.1,k.below.2.trans h.below.2,k.below.3.trans h.below.3,Nat.le_trans h.below.4 k.below.4,fun b hb=>(k.below.5 b hb).trans (h.below.5 b hb)⟩,
   fun b hb=>by rcases k.fgr b hb with hh | hh; exact h.fgr b hh; exact .inr hh,
   fun b hb hF hno=>by
    obtain ⟨a1,a2,a3⟩:=h.priv b hb hF hno
    obtain ⟨b1,b2,b3⟩:=k.priv b hb a2 a3
    exact ⟨b1.trans a1,b2,b3⟩⟩
theorem grow_step (hs:Sim base C H) {w'} (hg:Grow C.w w') (hent:ent ≤ C.w.heap.size):Step base ent C H { C with w:=w' } H:=by
  have hle:Le C { C with w:=w' }:=⟨rfl,fun _ h=>h,fun _ _ _ h=>h,fun b hb=>hg.old b (hs.fsz b hb),fun b s h=>hg.shape h⟩
  exact ⟨hle,hs.world hle (fun b hb=>⟨Nat.lt_of_lt_of_le (hs.fsz b hb) hg.size,.inl hb⟩) (fun _ _=>rfl) hg.size (fun b hb _ _=>hg.old b hb),hg.below hs.bsz,fun _ h=>.inl h,fun b hb hF hno=>⟨hg.old b (by omega),hF,hno⟩⟩
theorem cn_ok (hs:Sim base C H) (hbe:base ≤ ent) (hent:ent ≤ C.w.heap.size) {t z zv} (hz:zeroB P t = some zv) (hzr:∀ C,Rv C z zv) (hzk:z.known = true) :
    ∃ C',(Instr.alloc t true (.tuple #[])).run P C.w = .ok (.pointer (some ⟨C.w.heap.size,0,none⟩)) C'.w ∧ Step base ent C H C' H ∧ OStep base C H C' H ∧ CellV base ent C' H z (.pointer (some ⟨C.w.heap.size,0,none⟩)):=by
  have hg:=Grow.alloc C.w (.cells zv.cells t)
  refine ⟨{ C with w:=C.w.alloc (.cells zv.cells t) },?_,grow_step hs hg hent,grow_step hs hg (Nat.le_refl _),?_⟩
  · simp [Instr.alloc,run_zeroValue hz,newVar,newRow]
  · refine .inr ⟨C.w.heap.size,zv.cells,t,rfl,heap_new _ _,(Rv_known hzk (hzr _)).1,by omega,hent,fun h=>Nat.lt_irrefl _ (hs.fsz _ h),fun o ob ho hb=>?_⟩
    have:=(blk_heap (hs.obj o ob ho).1 hb).2.2
    omega
theorem cb_ok (hs:Sim base C H) (hbe:base ≤ ent) (hent:ent ≤ C.w.heap.size) {e x y v} (hx:Rv C x v) (h:doCb x = some y) :
    ∃ C',(Instr.box e v).run P C.w = .ok (.pointer (some ⟨C.w.heap.size,0,none⟩)) C'.w ∧ Step base ent C H C' H ∧ OStep base C H C' H ∧ CellV base ent C' H y (.pointer (some ⟨C.w.heap.size,0,none⟩)):=by
  unfold doCb at h
  split at h
  · rename_i hk
    cases h
    have hg:=Grow.alloc C.w (.cells v.cells e)
    have hst:=grow_step hs hg (Nat.le_refl _)
    refine ⟨{ C with w:=C.w.alloc (.cells v.cells e) },?_,grow_step hs hg hent,hst,?_⟩
    · simp [Instr.box,newVar,newRow]
    · refine .inr ⟨C.w.heap.size,v.cells,e,rfl,heap_new _ _,Rc_le hst.le _ _ (Rv_known hk hx).1,by omega,hent,fun h=>Nat.lt_irrefl _ (hs.fsz _ h),fun o ob ho hb=>?_⟩
      have:=(blk_heap (hs.obj o ob ho).1 hb).2.2
      omega
  · cases h
theorem cs_ok (hs:Sim base C H) {t sz c x v u y} (hz:sizeB P t = some sz) (hc:CellV base ent C H c v) (hx:Rv C x u) (h:doCs sz c x = some y) :
    ∃ C',(Instr.storeAt t v u).run P C.w = .ok () C'.w ∧ Step base ent C H C' H ∧ CellV base ent C' H y v ∧ ∀ x' v',CellV base ent C H x' v' → v' ≠ v → CellV base ent C' H x' v':=by
  unfold doCs at h
  split at h
  · rename_i hh
    obtain ⟨hk,hcs,hxk,hxs⟩:=hh
    cases h
    rcases hc with hc | ⟨b,cc,e,rfl,h2,h3,h4⟩
    · rw [hk] at hc; cases hc
    · obtain ⟨hr,hva⟩:=Rv_known hxk hx
      have hul:u.cells.toList.length = sz:=by rw [Rc_len _ _ hr]; exact hxs
      have hcl:cc.toList.length = sz:=by rw [Rc_len _ _ h3]; exact hcs
      have hst:=run_storeCells_at P b 0 e u.cells.toList 0 cc C.w h2 (by simp at hul hcl ⊢; omega) (Rc_one _ _ hr)
      simp only [Nat.add_zero,List.take_zero,List.nil_append,Nat.zero_add] at hst
      have hd:cc.toList.drop u.cells.toList.length = []:=List.drop_eq_nil_of_le (by omega)
      rw [hd,List.append_nil,Array.toArray_toList] at hst
      have hnew:=setRow_heap C.w b cc u.cells e (0,0) h2
      have hsize:u.cells.size = cc.size:=by simp at hul hcl; omega
      have hle:Le C { C with w:=C.w.setRow b u.cells }:=by
        refine ⟨rfl,fun _ h=>h,fun _ _ _ h=>h,fun b1 hb1=>setRow_other _ _ _ _ (fun e=>h4.F (e ▸ hb1)),fun b1 s hs1=>?_⟩
        by_cases hbb:b1 = b
        · subst hbb
          simp only [World.shape?,h2] at hs1
          simp only [World.shape?,hnew,hsize]
          exact hs1
        · simp only [World.shape?] at hs1 ⊢
          rw [setRow_other _ _ _ _ hbb]; exact hs1
      have hblk:∀ o ob,H[o]? = some ob → blk { C with w:=C.w.setRow b u.cells } o ob = blk C o ob:=fun o ob ho=>blk_le hle (hs.obj o ob ho).1
      have hsim:Sim base { C with w:=C.w.setRow b u.cells } H:=by
        refine ⟨fun b1 hb1=>by simpa using hs.fsz b1 hb1,hs.dom,fun o ob ho=>?_,fun o o' ob ob' b1 ho ho' h5 h6=>?_,by simpa using hs.bsz,hs.glob.le hle⟩
        · obtain ⟨g1,g2⟩:=hs.obj o ob ho
          refine ⟨ObjOk_keep hle g1 (fun b1 hb1=>.inl hb1) fun b1 hb1=>setRow_other _ _ _ _ (fun e=>h4.no o ob ho (by rw [hb1,e])),?_⟩
          cases ob <;> exact g2
        · rw [hblk o ob ho] at h5
          rw [hblk o' ob' ho'] at h6
          exact hs.sep o o' ob ob' b1 ho ho' h5 h6
      refine ⟨{ C with w:=C.w.setRow b u.cells },?_,⟨hle,hsim,⟨rfl,rfl,rfl,by simp,fun k hk=>setRow_other _ _ _ _ (by have:=h4.base; omega)⟩,fun _ h=>.inl h,fun b1 hb1 hF hno=>⟨setRow_other _ _ _ _ (by have:=h4.ent; omega),hF,fun o ob ho=>by rw [hblk o ob ho]; exact hno o ob ho⟩⟩,?_,?_⟩
      · simp only [Instr.storeAt,Instr.sureAddr,Sem.run_bind,Sem.run_pure,Result.andThen_ok,storeVar,run_sizeOf hz]
        rw [if_neg (by simp at hul ⊢; omega)]
        exact hst
      · exact .inr ⟨b,u.cells,e,rfl,hnew,Rc_le hle _ _ hr,h4.base,h4.ent,h4.F,fun o ob ho=>by rw [hblk o ob ho]; exact h4.no o ob ho⟩
      · intro x' v' h' hne
        rcases h' with h' | ⟨b',c',e',rfl,q2,q3,q4⟩
        · exact .inl h'
        · have hbb:b' ≠ b:=fun e=>hne (by rw [e])
          exact .inr ⟨b',c',e',rfl,(setRow_other _ _ _ _ hbb).trans q2,Rc_le hle _ _ q3,q4.base,q4.ent,q4.F,fun o ob ho=>by rw [hblk o ob ho]; exact q4.no o ob ho⟩
  · cases h
theorem cl_ok {t ag sz c v y} (ha:aggB P t = some ag) (hz:sizeB P t = some sz) (hc:CellV base ent C H c v) (h:doCl ag sz c = some y) :
    ∃ u,(Instr.loadAt t v).run P C.w = .ok u C.w ∧ Rv C y u:=by
  unfold doCl at h
  split at h
  · rename_i hk
    obtain ⟨e,h1,h2⟩:=fits_inv h
    cases e
    rcases hc with hc | ⟨b,cc,e,rfl,q2,q3,q4⟩
    · rw [hk] at hc; cases hc
    · have hcell:=cellsAt_of (pre:=[]) (ys:=cc.toList) (post:=[]) q2 (by simp)
      simp only [List.length_nil] at hcell
      simp only [Instr.loadAt,Instr.sureAddr,Sem.run_bind,Sem.run_pure,Result.andThen_ok]
      exact run_loadVar ha (h1 ▸ hz) h2 q3 hcell
  · cases h
theorem ca_ok {t i f} (hf:fieldB P t i = some f) (hz:∃ n,sizeB P f.type = some n ∧ n ≠ 0) (b o:Nat) (w:World) :
    (Instr.fieldAt t (.pointer (some ⟨b,o,none⟩)) i).run P w = .ok (.pointer (some ⟨b,o + f.offset,none⟩)) w:=by
  obtain ⟨n,hn,hn0⟩:=hz
  unfold fieldB at hf
  cases hu:P.underlying t with
  | none=>rw [hu] at hf; cases hf
  | some d =>
    rw [hu] at hf
    cases d <;> try (cases hf; done)
    simp [Instr.fieldAt,run_underlying hu,hf,Instr.sureAddr,fieldPlace,run_sizeOf hn,hn0,addr_add]
theorem cf_ok {t i off ag sz c v y} {b:Nat} (ha:aggB P t = some ag) (hz:sizeB P t = some sz) (hc:CellV base ent C H c v) (hv:v = .pointer (some ⟨b,0,none⟩)) (h:doField i off ag sz c = some y) :
    ∃ u,(Instr.loadAt t (.pointer (some ⟨b,off,none⟩))).run P C.w = .ok u C.w ∧ Rv C y u:=by
  cases c <;> try (cases h; done)
  rename_i l
  simp only [doField] at h
  split at h
  · rename_i hs
    obtain ⟨e,h1,h2⟩:=fits_inv h
    rcases hc with hc | ⟨b',cc,e',q1,q2,q3,q4⟩
    · cases hc
    · rw [hv] at q1
      cases q1
      simp only [Rc] at q3
      obtain ⟨css,hcl,hcc⟩:=q3
      obtain ⟨z,e1,e2,e3⟩:=sizes_take_get hcl e
      have hcell:=cellsAt_of (pre:=(css.take i).flatten) (ys:=z) (post:=(css.drop (i + 1)).flatten) q2 (by rw [hcc,e1])
      rw [e2,hs] at hcell
      simp only [Instr.loadAt,Instr.sureAddr,Sem.run_bind,Sem.run_pure,Result.andThen_ok]
      exact run_loadVar ha (h1 ▸ hz) h2 e3 hcell
  · cases h
end Tor
