/-
  A part of the proof: an abstract machine for the program, its soundness, and what the functions compute (Mat5, Mat6, Mat7, Mat8, Mat9, Int7, Int8, Int9, Int10, Int11, Int12, Int13, Int14, Chn1).
  Conditions: none.
-/
import Derived.Test.YtejciamannpljaaGreatM04
set_option linter.unusedSectionVars false
set_option linter.unusedVariables false
set_option linter.unusedSimpArgs false
set_option linter.defProp false
namespace Tor
open Go
def swapL {α:Type} (d:α) (l:List α) (i j:Nat):List α:=(l.set i (l.getD j d)).set j (l.getD i d)
theorem swapL_len {α:Type} (d:α) (l:List α) (i j:Nat):(swapL d l i j).length = l.length:=by simp [swapL]
theorem swapL_get {α:Type} (d:α) (l:List α) (i j t:Nat) (hi:i < l.length) (hj:j < l.length):(swapL d l i j).getD t d = l.getD (if t = j then i else if t = i then j else t) d:=by
  unfold swapL
  by_cases h1:t = j
  · subst h1; rw [if_pos rfl,gets_self _ _ _ _ (by simpa using hj)]
  · rw [if_neg h1,gets_ne _ _ _ _ _ (fun e=>h1 e.symm)]
    by_cases h2:t = i
    · subst h2; rw [if_pos rfl,gets_self _ _ _ _ hi]
    · rw [if_neg h2,gets_ne _ _ _ _ _ (fun e=>h2 e.symm)]
theorem swapL_mem {α:Type} (d:α) {l:List α} {i j:Nat} (hi:i < l.length) (hj:j < l.length) {x:α} (h:x ∈ swapL d l i j):x ∈ l:=by
  unfold swapL at h
  have e:∀ t,t < l.length → l.getD t d ∈ l:=fun t ht=>by simp [List.getD,ht]
  rcases List.mem_or_eq_of_mem_set h with h | rfl
  · rcases List.mem_or_eq_of_mem_set h with h | rfl
    · exact h
    · exact e j hj
  · exact e i hi
theorem nodup_of_inj {l:List Nat} (h:∀ i j,i < l.length → j < l.length → l.getD i 0 = l.getD j 0 → i = j):l.Nodup:=by
  rw [List.Nodup,List.pairwise_iff_getElem]
  intro i j hi hj hij he
  have:=h i j hi hj (by simpa [List.getD,hi,hj] using he)
  omega
theorem swapL_nodup {l:List Nat} (hn:l.Nodup) {i j:Nat} (hi:i < l.length) (hj:j < l.length):(swapL 0 l i j).Nodup:=by
  refine nodup_of_inj fun a b ha hb he=>?_
  rw [swapL_len] at ha hb
  rw [swapL_get 0 l i j a hi hj,swapL_get 0 l i j b hi hj] at he
  have:=getD_inj hn (by split <;> (try split) <;> omega) (by split <;> (try split) <;> omega) he
  split at this <;> split at this <;> (try split at this) <;> (try split at this) <;> omega
theorem tops_set (C:Nat) (rs:List Nat) (i x:Nat):(tops C rs).set i (.sl x 0 2 0 C) = tops C (rs.set i x):=by simp [tops,List.map_set]
theorem HMat.swap {H o g C rs A} (h:HMat H o g C rs A) {i j:Nat} (hi:i < rs.length) (hj:j < rs.length):HMat (H.set o (.arr g 1 (tops C (swapL 0 rs i j)))) o g C (swapL 0 rs i j) (swapL [] A i j):=by
  have ho:o < H.length:=(List.getElem?_eq_some_iff.1 h.top).1
  refine ⟨List.getElem?_set_self ho,fun t ht=>?_,by rw [swapL_len,swapL_len]; exact h.len,fun t ht=>?_,swapL_nodup h.nod hi hj,fun e=>h.off (swapL_mem 0 hi hj e)⟩
  · rw [swapL_len] at ht
    rw [swapL_get 0 rs i j t hi hj,swapL_get [] A i j t (by rw [h.len]; exact hi) (by rw [h.len]; exact hj)]
    have hlt:(if t = j then i else if t = i then j else t) < rs.length:=by split <;> (try split) <;> omega
    rw [List.getElem?_set_ne (fun e=>h.off (by rw [e]; exact getD_mem hlt))]
    exact h.row _ hlt
  · rw [swapL_len] at ht
    rw [swapL_get [] A i j t (by rw [h.len]; exact hi) (by rw [h.len]; exact hj)]
    exact h.wid _ (by split <;> (try split) <;> omega)
theorem Wk.swapM {H R C rm ru rv M U V} (h:Wk H R C rm ru rv M U V) {i j:Nat} (hi:i < R) (hj:j < R) :
    Wk (H.set 0 (.arr R 1 (tops C (swapL 0 rm i j)))) R C (swapL 0 rm i j) ru rv (swapL [] M i j) U V:=by
  have l1:i < rm.length:=by rw [h.lM]; exact hi
  have l2:j < rm.length:=by rw [h.lM]; exact hj
  exact ⟨h.mM.swap l1 l2,h.mU.other (by omega) (fun e=>by have:=h.sU _ e; omega),h.mV.other (by omega) (fun e=>by have:=h.sV _ e; omega),
    by rw [List.getElem?_set_ne (by omega)]; exact h.w,by rw [swapL_len]; exact h.lM,h.lU,h.lV,fun r hr=>h.sM r (swapL_mem 0 l1 l2 hr),h.sU,h.sV⟩
theorem Wk.swapU {H R C rm ru rv M U V} (h:Wk H R C rm ru rv M U V) {i j:Nat} (hi:i < R) (hj:j < R) :
    Wk (H.set (1 + 2 * R) (.arr R 1 (tops R (swapL 0 ru i j)))) R C rm (swapL 0 ru i j) rv M (swapL [] U i j) V:=by
  have l1:i < ru.length:=by rw [h.lU]; exact hi
  have l2:j < ru.length:=by rw [h.lU]; exact hj
  exact ⟨h.mM.other (by omega) (fun e=>by have:=h.sM _ e; omega),h.mU.swap l1 l2,h.mV.other (by omega) (fun e=>by have:=h.sV _ e; omega),
    by rw [List.getElem?_set_ne (by omega)]; exact h.w,h.lM,by rw [swapL_len]; exact h.lU,h.lV,h.sM,fun r hr=>h.sU r (swapL_mem 0 l1 l2 hr),h.sV⟩
variable {E:CallF} (hE:Free E)
include hE
def swapFrom (i j r:Nat) (V:List (List Int)):List (List Int):=V.take r ++ (V.drop r).map fun x=>swapL 0 x i j
omit hE in
theorem swapFrom_step (i j r:Nat) (V:List (List Int)) (h:r < V.length):swapFrom i j (r + 1) (V.set r (swapL 0 (V.getD r []) i j)) = swapFrom i j r V:=by
  unfold swapFrom
  rw [take_set_app _ _ _ h,List.append_assoc]
  have:V.drop r = V.getD r [] :: V.drop (r + 1):=by rw [List.drop_eq_getElem_cons h]; simp [List.getD,h]
  rw [this]
  simp [List.drop_set]
theorem swap_loop (R C:Nat) (hR:R < 2147483648) (hC:C < 2147483648) (rm ru rv:List Nat) (i j:Nat) (hi:i < R) (hj:j < R) (hij:i ≠ j) (z:AV):∀ (n c:Nat) (H:Heap) (M U V:List (List Int)) (b:Bool),R = c + n → Wk H R C rm ru rv M U V →
    ∃ H',run E GP a90l0 { vars:=[.ptr (3 + 6 * R) 0 [],.int .i64 i,.int .i64 j,z,.int .i64 c,.u,.u],heap:=H,rs:=b } =
      some (.exit 0,{ vars:=[.ptr (3 + 6 * R) 0 [],.int .i64 i,.int .i64 j,z,.int .i64 R,.bool false,.u],heap:=H',rs:=b }) ∧
      Wk H' R C rm ru rv M U (swapFrom i j c V) ∧ H'.length = H.length:=by
  intro n
  induction n with
  | zero =>
    intro c H M U V b h hm
    have hc:c = R:=by omega
    subst hc
    have g0:=hm.w
    have k1:¬ (c:Int) < (c:Int):=by omega
    refine ⟨H,?_,?_,rfl⟩
    · unfold HV at g0
      rw [a90l0_run]
      simp (maxSteps:=1000000) only [si,simprocAttr,a90b0,a90R,g0,k1]
    · have hl:V.length = c:=by rw [hm.mV.len,hm.lV]
      rw [swapFrom,List.drop_of_length_le (by omega),List.take_of_length_le (by omega),List.map_nil,List.append_nil]; exact hm
  | succ n ih =>
    intro c H M U V b h hm
    have hcR:c < R:=by omega
    have g0:=hm.w
    have wi:=hm.mV.wid c (by rw [hm.lV]; exact hcR)
    have k1:(c:Int) < (R:Int):=by omega
    have wc:IntKind.i64.wrap ((c:Int) + 1) = ((c + 1:Nat):Int):=i64a (by omega)
    have hiR:(i:Int) < (R:Int):=by omega
    have hjR:(j:Int) < (R:Int):=by omega
    have g3:=hm.mV.top
    have g4:=tops_get (C:=R) (rs:=rv) (i:=c) (by rw [hm.lV]; exact hcR)
    have hcv:c < rv.length:=by rw [hm.lV]; exact hcR
    have g6:=hm.mV.row c hcv
    have g8:=rowA_get (r:=V.getD c []) (i:=i) (by omega)
    have g9:=rowA_get (r:=V.getD c []) (i:=j) (by omega)
    have hlt:c < V.length:=by rw [hm.mV.len,hm.lV]; exact hcR
    have hn0:rv.getD c 0 ≠ 2 + 4 * R:=fun e=>hm.mV.off (by rw [← e]; exact getD_mem hcv)
    have hn1:rv.getD c 0 ≠ 3 + 6 * R:=by have:=hm.sV _ (getD_mem hcv); omega
    have hx1:=rowA_set (V.getD c []) i ((V.getD c []).getD j 0)
    have hx2:=rowA_set ((V.getD c []).set i ((V.getD c []).getD j 0)) j ((V.getD c []).getD i 0)
    have hl1:rv.getD c 0 < H.length:=(List.getElem?_eq_some_iff.1 g6).1
    have m1:Wk (H.set (rv.getD c 0) (.arr 0 2 (rowA ((V.getD c []).set i ((V.getD c []).getD j 0))))) R C rm ru rv M U (V.set c ((V.getD c []).set i ((V.getD c []).getD j 0))):=hm.setV hcR (by simpa using wi)
    have m2:=m1.setV hcR (r:=swapL 0 (V.getD c []) i j) (by rw [swapL_len]; exact wi)
    rw [List.set_set,List.set_set] at m2
    have q0:=m1.w
    have q3:=m1.mV.top
    have q6:=m1.mV.row c hcv
    rw [gets_self _ _ _ _ hlt] at q6
    have q8:=rowA_get (r:=(V.getD c []).set i ((V.getD c []).getD j 0)) (i:=j) (by rw [List.length_set]; omega)
    rw [gets_ne _ _ _ _ _ hij] at q8
    obtain ⟨H',e1,e2,e3⟩:=ih (c + 1) _ M U _ b (by omega) m2
    refine ⟨H',?_,?_,by rw [e3]; simp⟩
    · rw [← e1]
      unfold HV at g0 q0
      unfold swapL
      generalize (V.getD c []).getD i 0 = x at *
      generalize (V.getD c []).getD j 0 = y at *
      conv=>lhs; rw [a90l0_run]
      simp (maxSteps:=1000000) only [si,simprocAttr,a90b0,a90R,k1,wc,hiR,hjR,g0,g3,g4,g6,g8,g9,hx1,q0,q3,q6,q8,hx2,List.set_set]
    · rw [swapFrom_step _ _ _ _ hlt] at e2
      exact e2
def swapCol (V:List (List Int)) (i j:Nat):List (List Int):=V.map fun x=>swapL 0 x i j
theorem r12_swap (R C:Nat) (hR:R < 2147483648) (hC:C < 2147483648) (rm ru rv:List Nat) (i j:Nat) (hi:i < R) (hj:j < R) (hij:i ≠ j) (H:Heap) (M U V:List (List Int)) (hm:Wk H R C rm ru rv M U V) :
    ∃ H',call E GP 90 [.ptr (3 + 6 * R) 0 [],.int .i64 i,.int .i64 j] H = some (.tup [],H',true) ∧ Wk H' R C (swapL 0 rm i j) (swapL 0 ru i j) rv (swapL [] M i j) (swapL [] U i j) (swapCol V i j) ∧ H'.length = H.length:=by
  rw [call_fun (hE _ _ _ (by decide)) (f:=a90) rfl rfl]
  have m1:=hm.swapM hi hj
  have m2:=m1.swapU hi hj
  obtain ⟨H3,f1,f2,f3⟩:=swap_loop hE R C hR hC _ _ rv i j hi hj hij (.sl (ru.getD i 0) 0 2 0 R) R 0 _ _ _ V true (by omega) m2
  refine ⟨H3,?_,f2,by simpa using f3⟩
  have hiR:(i:Int) < (R:Int):=by omega
  have hjR:(j:Int) < (R:Int):=by omega
  have ti:=tops_get (C:=C) (rs:=rm) (i:=i) (by rw [hm.lM]; exact hi)
  have tj:=tops_get (C:=C) (rs:=rm) (i:=j) (by rw [hm.lM]; exact hj)
  have ui:=tops_get (C:=R) (rs:=ru) (i:=i) (by rw [hm.lU]; exact hi)
  have uj:=tops_get (C:=R) (rs:=ru) (i:=j) (by rw [hm.lU]; exact hj)
  have t1:=tops_set C rm i (rm.getD j 0)
  have t2:=tops_set C (rm.set i (rm.getD j 0)) j (rm.getD i 0)
  have t3:=tops_set R ru i (ru.getD j 0)
  have t4:=tops_set R (ru.set i (ru.getD j 0)) j (ru.getD i 0)
  have t5:(tops C (rm.set i (rm.getD j 0)))[j]? = some (.sl (rm.getD j 0) 0 2 0 C):=by
    have:=tops_get (C:=C) (rs:=rm.set i (rm.getD j 0)) (i:=j) (by simp [hm.lM]; exact hj)
    rwa [gets_ne _ _ _ _ _ hij] at this
  have t6:(tops R (ru.set i (ru.getD j 0)))[j]? = some (.sl (ru.getD j 0) 0 2 0 R):=by
    have:=tops_get (C:=R) (rs:=ru.set i (ru.getD j 0)) (i:=j) (by simp [hm.lU]; exact hj)
    rwa [gets_ne _ _ _ _ _ hij] at this
  have g0:=hm.w
  have g1:=hm.mM.top
  have g2:=hm.mU.top
  have h0:(0:Nat) < H.length:=(List.getElem?_eq_some_iff.1 g1).1
  have h1:1 + 2 * R < H.length:=(List.getElem?_eq_some_iff.1 g2).1
  have p0:∀ X,(H.set 0 X)[3 + 6 * R]? = H[3 + 6 * R]?:=fun X=>List.getElem?_set_ne (by omega)
  have p1:∀ X,(H.set 0 X)[0]? = some X:=fun X=>List.getElem?_set_self h0
  have p2:∀ X,(H.set 0 X)[1 + 2 * R]? = H[1 + 2 * R]?:=fun X=>List.getElem?_set_ne (by omega)
  have p3:∀ X Y,((H.set 0 X).set (1 + 2 * R) Y)[3 + 6 * R]? = H[3 + 6 * R]?:=fun X Y=>by rw [List.getElem?_set_ne (by omega),p0]
  have p4:∀ X Y,((H.set 0 X).set (1 + 2 * R) Y)[1 + 2 * R]? = some Y:=fun X Y=>List.getElem?_set_self (by simpa using h1)
  have hmode:a90.mode = .keep:=rfl
  unfold HV at g0
  unfold swapL at f1
  simp only [Int.ofNat_zero] at f1
  simp (maxSteps:=1000000) only [hmode,si,simprocAttr,a90,a90R,hiR,hjR,g0,g1,g2,ti,tj,ui,uj,t1,t2,t3,t4,t5,t6,p0,p1,p2,p3,p4,List.set_set,Bool.or_true,Bool.true_or,AV.hasRef,f1]
def negFrom (c:Nat) (x:List Int):List Int:=x.take c ++ (x.drop c).map (- ·)
omit hE in
theorem negFrom_step {c:Nat} (x:List Int) (h:c < x.length):negFrom (c + 1) (x.set c (-x.getD c 0)) = negFrom c x:=by
  unfold negFrom
  rw [take_set_app _ _ _ h,drop_cons x c h,List.append_assoc]
  simp [List.drop_set]
theorem neg_loop0 (R C:Nat) (hR:R < 2147483648) (hC:C < 2147483648) (rm ru rv:List Nat) (i:Nat) (hi:i < R):∀ (n c:Nat) (H:Heap) (M U V:List (List Int)) (b:Bool),C = c + n →
    (∀ t,c ≤ t → t < C → Fit ((M.getD i []).getD t 0)) → Wk H R C rm ru rv M U V →
    ∃ H',run E GP a91l0 { vars:=[.ptr (3 + 6 * R) 0 [],.int .i64 i,.int .i64 c,.u,.u,.u,.u,.u],heap:=H,rs:=b } =
      some (.exit 0,{ vars:=[.ptr (3 + 6 * R) 0 [],.int .i64 i,.int .i64 C,.u,.u,.bool false,.u,.u],heap:=H',rs:=b }) ∧
      Wk H' R C rm ru rv (M.set i (negFrom c (M.getD i []))) U V ∧ H'.length = H.length:=by
  intro n
  induction n with
  | zero =>
    intro c H M U V b h hf hm
    have hc:c = C:=by omega
    subst hc
    have g0:=hm.w
    have k1:¬ (c:Int) < (c:Int):=by omega
    refine ⟨H,?_,?_,rfl⟩
    · unfold HV at g0
      rw [a91l0_run]
      simp (maxSteps:=1000000) only [si,simprocAttr,a91b0,a91R,g0,k1]
    · have hw:=hm.mM.wid i (by rw [hm.lM]; exact hi)
      rw [negFrom,List.drop_of_length_le (by omega),List.take_of_length_le (by omega),List.map_nil,List.append_nil,set_getD_self]; exact hm
  | succ n ih =>
    intro c H M U V b h hf hm
    have g0:=hm.w
    have wi:=hm.mM.wid i (by rw [hm.lM]; exact hi)
    have k1:(c:Int) < (C:Int):=by omega
    have wc:IntKind.i64.wrap ((c:Int) + 1) = ((c + 1:Nat):Int):=i64a (by omega)
    have hiR:(i:Int) < (R:Int):=by omega
    have g3:=hm.mM.top
    have g4:=tops_get (C:=C) (rs:=rm) (i:=i) (by rw [hm.lM]; exact hi)
    have g6:=hm.mM.row i (by rw [hm.lM]; exact hi)
    have g8:=rowA_get (r:=M.getD i []) (i:=c) (by omega)
    have fi:=hf c (Nat.le_refl _) (by omega)
    have hset:=rowA_set (M.getD i []) c (-(M.getD i []).getD c 0)
    have hrow:=hm.setM hi (r:=(M.getD i []).set c (-(M.getD i []).getD c 0)) (by simpa using wi)
    have hlt:i < M.length:=by rw [hm.mM.len,hm.lM]; exact hi
    have hneg:=fun H=>r1_neg hE ((M.getD i []).getD c 0) H (by unfold Fit at fi; omega)
    obtain ⟨H',e1,e2,e3⟩:=ih (c + 1) _ (M.set i ((M.getD i []).set c (-(M.getD i []).getD c 0))) U V b (by omega) (fun t h1 h2=>by
      rw [gets_self _ _ _ _ hlt,gets_ne _ _ _ _ _ (by omega)]
      exact hf t (by omega) h2) hrow
    refine ⟨H',?_,?_,by rw [e3]; simp⟩
    · rw [← e1]
      unfold HV at g0
      generalize (M.getD i []).getD c 0 = x at *
      conv=>lhs; rw [a91l0_run]
      simp (maxSteps:=1000000) only [si,simprocAttr,a91b0,a91R,k1,wc,hiR,g0,g3,g4,g6,g8,hneg,hset]
    · rw [gets_self _ _ _ _ hlt,List.set_set,negFrom_step _ (by omega)] at e2
      exact e2
theorem neg_loop1 (R C:Nat) (hR:R < 2147483648) (hC:C < 2147483648) (rm ru rv:List Nat) (i:Nat) (hi:i < R):∀ (n c:Nat) (H:Heap) (M U V:List (List Int)) (b:Bool),R = c + n →
    (∀ t,c ≤ t → t < R → Fit ((U.getD i []).getD t 0)) → Wk H R C rm ru rv M U V →
    ∃ H',run E GP a91l1 { vars:=[.ptr (3 + 6 * R) 0 [],.int .i64 i,.int .i64 C,.int .i64 c,.u,.bool false,.u,.u],heap:=H,rs:=b } =
      some (.exit 2,{ vars:=[.ptr (3 + 6 * R) 0 [],.int .i64 i,.int .i64 C,.int .i64 R,.u,.bool false,.bool false,.u],heap:=H',rs:=b }) ∧
      Wk H' R C rm ru rv M (U.set i (negFrom c (U.getD i []))) V ∧ H'.length = H.length:=by
  intro n
  induction n with
  | zero =>
    intro c H M U V b h hf hm
    have hc:c = R:=by omega
    subst hc
    have g0:=hm.w
    have k1:¬ (c:Int) < (c:Int):=by omega
    refine ⟨H,?_,?_,rfl⟩
    · unfold HV at g0
      rw [a91l1_run]
      simp (maxSteps:=1000000) only [si,simprocAttr,a91b1,a91R,g0,k1]
    · have hw:=hm.mU.wid i (by rw [hm.lU]; exact hi)
      rw [negFrom,List.drop_of_length_le (by omega),List.take_of_length_le (by omega),List.map_nil,List.append_nil,set_getD_self]; exact hm
  | succ n ih =>
    intro c H M U V b h hf hm
    have g0:=hm.w
    have wi:=hm.mU.wid i (by rw [hm.lU]; exact hi)
    have k1:(c:Int) < (R:Int):=by omega
    have wc:IntKind.i64.wrap ((c:Int) + 1) = ((c + 1:Nat):Int):=i64a (by omega)
    have hiR:(i:Int) < (R:Int):=by omega
    have g3:=hm.mU.top
    have g4:=tops_get (C:=R) (rs:=ru) (i:=i) (by rw [hm.lU]; exact hi)
    have g6:=hm.mU.row i (by rw [hm.lU]; exact hi)
    have g8:=rowA_get (r:=U.getD i []) (i:=c) (by omega)
    have fi:=hf c (Nat.le_refl _) (by omega)
    have hset:=rowA_set (U.getD i []) c (-(U.getD i []).getD c 0)
    have hrow:=hm.setU hi (r:=(U.getD i []).set c (-(U.getD i []).getD c 0)) (by simpa using wi)
    have hlt:i < U.length:=by rw [hm.mU.len,hm.lU]; exact hi
    have hneg:=fun H=>r1_neg hE ((U.getD i []).getD c 0) H (by unfold Fit at fi; omega)
    obtain ⟨H',e1,e2,e3⟩:=ih (c + 1) _ M (U.set i ((U.getD i []).set c (-(U.getD i []).getD c 0))) V b (by omega) (fun t h1 h2=>by
      rw [gets_self _ _ _ _ hlt,gets_ne _ _ _ _ _ (by omega)]
      exact hf t (by omega) h2) hrow
    refine ⟨H',?_,?_,by rw [e3]; simp⟩
    · rw [← e1]
      unfold HV at g0
      generalize (U.getD i []).getD c 0 = x at *
      conv=>lhs; rw [a91l1_run]
      simp (maxSteps:=1000000) only [si,simprocAttr,a91b1,a91R,k1,wc,hiR,g0,g3,g4,g6,g8,hneg,hset]
    · rw [gets_self _ _ _ _ hlt,List.set_set,negFrom_step _ (by omega)] at e2
      exact e2
def negCol (i:Nat) (r:Nat) (V:List (List Int)):List (List Int):=V.take r ++ (V.drop r).map fun x=>x.set i (-x.getD i 0)
omit hE in
theorem negCol_step (i r:Nat) (V:List (List Int)) (h:r < V.length):negCol i (r + 1) (V.set r ((V.getD r []).set i (-(V.getD r []).getD i 0))) = negCol i r V:=by
  unfold negCol
  rw [take_set_app _ _ _ h,List.append_assoc]
  have:V.drop r = V.getD r [] :: V.drop (r + 1):=by rw [List.drop_eq_getElem_cons h]; simp [List.getD,h]
  rw [this]
  simp [List.drop_set]
theorem neg_loop2 (R C:Nat) (hR:R < 2147483648) (hC:C < 2147483648) (rm ru rv:List Nat) (i:Nat) (hi:i < R):∀ (n c:Nat) (H:Heap) (M U V:List (List Int)) (b:Bool),R = c + n →
    (∀ t,c ≤ t → t < R → Fit ((V.getD t []).getD i 0)) → Wk H R C rm ru rv M U V →
    ∃ H',run E GP a91l2 { vars:=[.ptr (3 + 6 * R) 0 [],.int .i64 i,.int .i64 C,.int .i64 R,.int .i64 c,.bool false,.bool false,.u],heap:=H,rs:=b } =
      some (.exit 4,{ vars:=[.ptr (3 + 6 * R) 0 [],.int .i64 i,.int .i64 C,.int .i64 R,.int .i64 R,.bool false,.bool false,.bool false],heap:=H',rs:=b }) ∧
      Wk H' R C rm ru rv M U (negCol i c V) ∧ H'.length = H.length:=by
  intro n
  induction n with
  | zero =>
    intro c H M U V b h hf hm
    have hc:c = R:=by omega
    subst hc
    have g0:=hm.w
    have k1:¬ (c:Int) < (c:Int):=by omega
    refine ⟨H,?_,?_,rfl⟩
    · unfold HV at g0
      rw [a91l2_run]
      simp (maxSteps:=1000000) only [si,simprocAttr,a91b2,a91R,g0,k1]
    · have hl:V.length = c:=by rw [hm.mV.len,hm.lV]
      rw [negCol,List.drop_of_length_le (by omega),List.take_of_length_le (by omega),List.map_nil,List.append_nil]; exact hm
  | succ n ih =>
    intro c H M U V b h hf hm
    have g0:=hm.w
    have hcR:c < R:=by omega
    have wi:=hm.mV.wid c (by rw [hm.lV]; exact hcR)
    have k1:(c:Int) < (R:Int):=by omega
    have wc:IntKind.i64.wrap ((c:Int) + 1) = ((c + 1:Nat):Int):=i64a (by omega)
    have hiR:(i:Int) < (R:Int):=by omega
    have g3:=hm.mV.top
    have g4:=tops_get (C:=R) (rs:=rv) (i:=c) (by rw [hm.lV]; exact hcR)
    have g6:=hm.mV.row c (by rw [hm.lV]; exact hcR)
    have g8:=rowA_get (r:=V.getD c []) (i:=i) (by omega)
    have fi:=hf c (Nat.le_refl _) hcR
    have hset:=rowA_set (V.getD c []) i (-(V.getD c []).getD i 0)
    have hrow:=hm.setV hcR (r:=(V.getD c []).set i (-(V.getD c []).getD i 0)) (by simpa using wi)
    have hlt:c < V.length:=by rw [hm.mV.len,hm.lV]; exact hcR
    have hneg:=fun H=>r1_neg hE ((V.getD c []).getD i 0) H (by unfold Fit at fi; omega)
    obtain ⟨H',e1,e2,e3⟩:=ih (c + 1) _ M U (V.set c ((V.getD c []).set i (-(V.getD c []).getD i 0))) b (by omega) (fun t h1 h2=>by
      rw [gets_ne _ _ _ _ _ (by omega)]
      exact hf t (by omega) h2) hrow
    refine ⟨H',?_,?_,by rw [e3]; simp⟩
    · rw [← e1]
      unfold HV at g0
      generalize (V.getD c []).getD i 0 = x at *
      conv=>lhs; rw [a91l2_run]
      simp (maxSteps:=1000000) only [si,simprocAttr,a91b2,a91R,k1,wc,hiR,g0,g3,g4,g6,g8,hneg,hset]
    · rw [negCol_step _ _ _ hlt] at e2
      exact e2
def negRow (M:List (List Int)) (i:Nat):List (List Int):=M.set i ((M.getD i []).map (- ·))
def negColA (V:List (List Int)) (i:Nat):List (List Int):=V.map fun x=>x.set i (-x.getD i 0)
theorem r12_negate (R C:Nat) (hR:R < 2147483648) (hC:C < 2147483648) (rm ru rv:List Nat) (i:Nat) (hi:i < R) (H:Heap) (M U V:List (List Int))
    (fM:∀ t,t < C → Fit ((M.getD i []).getD t 0)) (fU:∀ t,t < R → Fit ((U.getD i []).getD t 0)) (fV:∀ t,t < R → Fit ((V.getD t []).getD i 0))
    (hm:Wk H R C rm ru rv M U V) :
    ∃ H',call E GP 91 [.ptr (3 + 6 * R) 0 [],.int .i64 i] H = some (.tup [],H',false) ∧ Wk H' R C rm ru rv (negRow M i) (negRow U i) (negColA V i) ∧ H'.length = H.length:=by
  rw [call_fun (hE _ _ _ (by decide)) (f:=a91) rfl rfl]
  obtain ⟨H1,d1,d2,d3⟩:=neg_loop0 hE R C hR hC rm ru rv i hi C 0 H M U V false (by omega) (fun t _ h=>fM t h) hm
  obtain ⟨H2,e1,e2,e3⟩:=neg_loop1 hE R C hR hC rm ru rv i hi R 0 H1 _ U V false (by omega) (fun t _ h=>fU t h) d2
  obtain ⟨H3,f1,f2,f3⟩:=neg_loop2 hE R C hR hC rm ru rv i hi R 0 H2 _ _ V false (by omega) (fun t _ h=>fV t h) e2
  refine ⟨H3,?_,f2,by omega⟩
  have hmode:a91.mode = .keep:=rfl
  simp only [Int.ofNat_zero] at d1 e1 f1
  simp (maxSteps:=1000000) only [hmode,si,simprocAttr,a91,a91R,d1,e1,f1]
end Tor
namespace Tor
open Go
def AllFit (M:List (List Int)):Prop:=∀ i t,Fit ((M.getD i []).getD t 0)
def at2 (M:List (List Int)) (i c:Nat):Int:=(M.getD i []).getD c 0
theorem fit_zero:Fit 0:=by unfold Fit; decide
theorem fit_le {a b:Int} (h:a.natAbs ≤ b.natAbs) (hb:Fit b):Fit a:=Nat.lt_of_le_of_lt (limbs_len_le h) hb
theorem addRow_same {M:List (List Int)} {i j c:Nat} (k:Int) (hi:i < M.length) (h1:c < (M.getD i []).length) (h2:c < (M.getD j []).length):at2 (addRow M i j k) i c = at2 M i c + k * at2 M j c:=by
  unfold at2 addRow
  rw [gets_self _ _ _ _ hi]
  generalize M.getD i [] = x at *
  generalize M.getD j [] = y at *
  simp only [List.getD,List.getElem?_zipWith,List.getElem?_eq_getElem h1,List.getElem?_eq_getElem h2,Option.getD_some]
theorem addRow_other {M:List (List Int)} {i j t:Nat} (k:Int) (h:t ≠ i):(addRow M i j k).getD t [] = M.getD t []:=by
  unfold addRow; rw [gets_ne _ _ _ _ _ (fun e=>h e.symm)]
theorem addRow_len (M:List (List Int)) (i j:Nat) (k:Int):(addRow M i j k).length = M.length:=by simp [addRow]
def eucM (M:List (List Int)) (top i c:Nat):List (List Int):=if at2 M top c = 0 then swapL [] M top i else swapL [] (addRow M top i (-(at2 M top c / at2 M i c))) top i
def eucU (M U:List (List Int)) (top i c:Nat):List (List Int):=if at2 M top c = 0 then swapL [] U top i else swapL [] (addRow U top i (-(at2 M top c / at2 M i c))) top i
def eucV (M V:List (List Int)) (top i c:Nat):List (List Int):=if at2 M top c = 0 then swapCol V top i else swapCol (subCol V top i (-(at2 M top c / at2 M i c))) top i
theorem euc_less {M:List (List Int)} {top i c:Nat} (ht:top < M.length) (hi:i < M.length) (hne:top ≠ i) (h1:c < (M.getD top []).length) (h2:c < (M.getD i []).length) (hy:at2 M i c ≠ 0) :
    (at2 (eucM M top i c) i c).natAbs < (at2 M i c).natAbs:=by
  unfold eucM
  split
  · rename_i hx
    have:at2 (swapL [] M top i) i c = at2 M top c:=by unfold at2; rw [swapL_get [] M top i i ht hi,if_pos rfl]
    rw [this,hx]; omega
  · rename_i hx
    have hl:=addRow_len M top i (-(at2 M top c / at2 M i c))
    have:at2 (swapL [] (addRow M top i (-(at2 M top c / at2 M i c))) top i) i c = at2 M top c % at2 M i c:=by
      have:at2 (swapL [] (addRow M top i (-(at2 M top c / at2 M i c))) top i) i c = at2 (addRow M top i (-(at2 M top c / at2 M i c))) top c:=by
        unfold at2; rw [swapL_get [] _ top i i (by rw [addRow_len]; exact ht) (by rw [addRow_len]; exact hi),if_pos rfl]
      rw [this,addRow_same _ ht h1 h2,Int.emod_def,Int.neg_mul,Int.mul_comm (at2 M i c)]; omega
    rw [this]
    have p1:=Int.emod_nonneg (at2 M top c) hy
    have p2:=Int.emod_lt (a:=at2 M top c) hy
    omega
variable {E:CallF} (hE:Free E)
include hE
theorem euc_loop (R C:Nat) (hR:R < 2147483648) (hC:C < 2147483648) (a:AV) (top i c:Nat) (ht:top < R) (hi:i < R) (hne:top ≠ i) (hc:c < C) (Inv:List (List Int) → List (List Int) → List (List Int) → Prop)
    (hF:∀ M U V,Inv M U V → AllFit M ∧ AllFit U ∧ AllFit V) (hS:∀ M U V,Inv M U V → at2 M i c ≠ 0 → Inv (eucM M top i c) (eucU M U top i c) (eucV M V top i c)) :
    ∀ (n:Nat) (M U V:List (List Int)) (rm ru rv:List Nat) (H:Heap) (b:Bool),(at2 M i c).natAbs < n → Inv M U V → Wk H R C rm ru rv M U V →
    ∃ M' U' V' rm' ru' H' b',run E GP a74l2 { vars:=[a,.ptr (3 + 6 * R) 0 [],.int .i64 top,.int .i64 c,.int .i64 i,.u,.bool true,.bool true,.u,.u,.u,.u,.u,a,.agg [.agg [.int .i64 0,.int .i64 0,.nl],.agg [.int .i64 0,.int .i64 0,.nl],.agg [.int .i64 0,.int .i64 0,.nl]],.u,.u],heap:=H,rs:=b } =
      some (.exit 4,{ vars:=[a,.ptr (3 + 6 * R) 0 [],.int .i64 top,.int .i64 c,.int .i64 i,.u,.bool true,.bool true,.bool false,.u,.u,.u,.u,a,.agg [.agg [.int .i64 0,.int .i64 0,.nl],.agg [.int .i64 0,.int .i64 0,.nl],.agg [.int .i64 0,.int .i64 0,.nl]],.u,.u],heap:=H',rs:=b' }) ∧
      Wk H' R C rm' ru' rv M' U' V' ∧ Inv M' U' V' ∧ at2 M' i c = 0:=by
  intro n
  induction n with
  | zero=>intro M U V rm ru rv H b h; omega
  | succ n ih =>
    intro M U V rm ru rv H b h hI hm
    have g0:=hm.w
    have hiR:(i:Int) < (R:Int):=by omega
    have htR:(top:Int) < (R:Int):=by omega
    have hcC:(c:Int) < (C:Int):=by omega
    have lM:M.length = R:=by rw [hm.mM.len,hm.lM]
    have wi:=hm.mM.wid i (by rw [hm.lM]; exact hi)
    have wt:=hm.mM.wid top (by rw [hm.lM]; exact ht)
    have g3:=hm.mM.top
    have g4:=tops_get (C:=C) (rs:=rm) (i:=i) (by rw [hm.lM]; exact hi)
    have g5:=tops_get (C:=C) (rs:=rm) (i:=top) (by rw [hm.lM]; exact ht)
    have g6:=hm.mM.row i (by rw [hm.lM]; exact hi)
    have g7:=hm.mM.row top (by rw [hm.lM]; exact ht)
    have g8:=rowA_get (r:=M.getD i []) (i:=c) (by omega)
    have g9:=rowA_get (r:=M.getD top []) (i:=c) (by omega)
    have hsy:=fun H=>r1_sign hE (at2 M i c) H
    have hsx:=fun H=>r1_sign hE (at2 M top c) H
    obtain ⟨fM,fU,fV⟩:=hF M U V hI
    have fx:Fit (at2 M top c):=fM top c
    have fy:Fit (at2 M i c):=fM i c
    by_cases hy:at2 M i c = 0
    · refine ⟨M,U,V,rm,ru,H,b,?_,hm,hI,hy⟩
      unfold HV at g0
      unfold at2 at hy hsy
      rw [hy] at hsy g8
      rw [Int.sign_zero] at hsy
      rw [a74l2_run]
      simp (maxSteps:=1000000) only [si,simprocAttr,a74b2,a74R,hiR,hcC,g0,g3,g4,g6,g8,hsy,ne_eq,not_true_eq_false]
    · have hless:=euc_less (M:=M) (top:=top) (i:=i) (c:=c) (by omega) (by omega) hne (by omega) (by omega) hy
      have hI':=hS M U V hI hy
      have sy:(at2 M i c).sign ≠ 0:=by rw [Ne,Int.sign_eq_zero_iff_zero]; exact hy
      by_cases hx:at2 M top c = 0
      · obtain ⟨H1,s1,s2,s3⟩:=r12_swap hE R C hR hC rm ru rv top i ht hi hne H M U V hm
        have eM:eucM M top i c = swapL [] M top i:=if_pos hx
        have eU:eucU M U top i c = swapL [] U top i:=if_pos hx
        have eV:eucV M V top i c = swapCol V top i:=if_pos hx
        rw [eM,eU,eV] at hI'
        rw [eM] at hless
        obtain ⟨M',U',V',rm',ru',H',b',e1,e2,e3,e4⟩:=ih _ _ _ _ _ _ H1 (b || true) (by omega) hI' s2
        refine ⟨M',U',V',rm',ru',H',b',?_,e2,e3,e4⟩
        rw [← e1]
        unfold HV at g0
        unfold at2 at hx hsx sy hsy
        rw [hx] at hsx g9
        rw [Int.sign_zero] at hsx
        generalize (M.getD i []).getD c 0 = y at *
        conv=>lhs; rw [a74l2_run]
        simp (maxSteps:=1000000) only [si,simprocAttr,a74b2,a74R,hiR,htR,hcC,g0,g3,g4,g5,g6,g7,g8,g9,hsy,hsx,sy,ne_eq,not_true_eq_false,not_false_eq_true,s1]
      · have sx:(at2 M top c).sign ≠ 0:=by rw [Ne,Int.sign_eq_zero_iff_zero]; exact hx
        have fq:Fit (-(at2 M top c / at2 M i c)):=fit_le (by rw [Int.natAbs_neg]; exact Int.natAbs_ediv_le_natAbs _ _) fx
        have hdm:=fun H=>r1_divmod hE (at2 M top c) (at2 M i c) hy (by unfold Fit at fx; omega) (by unfold Fit at fy; omega) H
        have hng:=fun H=>r1_neg hE (at2 M top c / at2 M i c) H (by rw [← Int.natAbs_neg]; unfold Fit at fq; omega)
        obtain ⟨H0,t1,t2,t3⟩:=r12_addTo hE R C hR hC rm ru rv top i ht hi hne _ fq H M U V (fun t _=>⟨fM top t,fM i t⟩) (fun t _=>⟨fU top t,fU i t⟩) (fun t _=>⟨fV t top,fV t i⟩) hm
        obtain ⟨H1,s1,s2,s3⟩:=r12_swap hE R C hR hC rm ru rv top i ht hi hne H0 _ _ _ t2
        have eM:eucM M top i c = swapL [] (addRow M top i (-(at2 M top c / at2 M i c))) top i:=if_neg hx
        have eU:eucU M U top i c = swapL [] (addRow U top i (-(at2 M top c / at2 M i c))) top i:=if_neg hx
        have eV:eucV M V top i c = swapCol (subCol V top i (-(at2 M top c / at2 M i c))) top i:=if_neg hx
        rw [eM,eU,eV] at hI'
        rw [eM] at hless
        obtain ⟨M',U',V',rm',ru',H',b',e1,e2,e3,e4⟩:=ih _ _ _ _ _ _ H1 (b || true) (by omega) hI' s2
        refine ⟨M',U',V',rm',ru',H',b',?_,e2,e3,e4⟩
        rw [← e1]
        unfold HV at g0
        unfold at2 at hx hsx sx sy hsy hdm hng t1
        generalize (M.getD i []).getD c 0 = y at *
        generalize (M.getD top []).getD c 0 = x at *
        conv=>lhs; rw [a74l2_run]
        simp (maxSteps:=1000000) only [si,simprocAttr,a74b2,a74R,hiR,htR,hcC,g0,g3,g4,g5,g6,g7,g8,g9,hsy,hsx,sx,sy,ne_eq,not_true_eq_false,not_false_eq_true,hdm,hng,t1,s1]
end Tor
namespace Tor
open Go
abbrev MP:=List (List Int) → List (List Int) → List (List Int) → Prop
def Fits3 (M U V:List (List Int)):Prop:=AllFit M ∧ AllFit U ∧ AllFit V
def z14:AV:=.agg [.agg [.int .i64 0,.int .i64 0,.nl],.agg [.int .i64 0,.int .i64 0,.nl],.agg [.int .i64 0,.int .i64 0,.nl]]
def ElimOk (R top c:Nat) (P:Nat → MP):Prop:=∀ i M U V,top < i → i < R → P i M U V →
  ∃ Inv:MP,Inv M U V ∧ (∀ M U V,Inv M U V → Fits3 M U V) ∧ (∀ M U V,Inv M U V → at2 M i c ≠ 0 → Inv (eucM M top i c) (eucU M U top i c) (eucV M V top i c)) ∧
    ∀ M U V,Inv M U V → at2 M i c = 0 → P (i + 1) M U V
def ReduceOk (top c:Nat) (Q:Nat → MP):Prop:=∀ i M U V,i < top → Q i M U V → Fits3 M U V ∧ at2 M top c ≠ 0 ∧
  Q (i + 1) (addRow M i top (-(at2 M i c / at2 M top c))) (addRow U i top (-(at2 M i c / at2 M top c))) (subCol V i top (-(at2 M i c / at2 M top c)))
variable {E:CallF} (hE:Free E)
include hE
theorem elim_loop (R C:Nat) (hR:R < 2147483648) (hC:C < 2147483648) (x:AV) (top c:Nat) (ht:top < R) (hc:c < C) (P:Nat → MP) (hP:ElimOk R top c P) :
    ∀ (n i:Nat) (M U V:List (List Int)) (rm ru rv:List Nat) (H:Heap) (b:Bool),R = i + n → top < i → P i M U V → Wk H R C rm ru rv M U V →
    ∃ M' U' V' rm' ru' H' b',run E GP a74l1 { vars:=[.agg [.int .i64 R,.int .i64 C,x],.ptr (3 + 6 * R) 0 [],.int .i64 top,.int .i64 c,.int .i64 i,.u,.bool true,.u,.u,.u,.u,.u,.u,.agg [.int .i64 R,.int .i64 C,x],z14,.u,.u],heap:=H,rs:=b } =
      some (.exit 2,{ vars:=[.agg [.int .i64 R,.int .i64 C,x],.ptr (3 + 6 * R) 0 [],.int .i64 top,.int .i64 c,.int .i64 R,.u,.bool true,.bool false,.u,.u,.u,.u,.u,.agg [.int .i64 R,.int .i64 C,x],z14,.u,.u],heap:=H',rs:=b' }) ∧
      Wk H' R C rm' ru' rv M' U' V' ∧ P R M' U' V':=by
  intro n
  induction n with
  | zero =>
    intro i M U V rm ru rv H b h hti hp hm
    have hi:i = R:=by omega
    subst hi
    have k1:¬ (i:Int) < (i:Int):=by omega
    refine ⟨M,U,V,rm,ru,H,b,?_,hm,hp⟩
    unfold z14
    rw [a74l1_run]
    simp (maxSteps:=1000000) only [si,simprocAttr,a74b1,a74R,k1]
  | succ n ih =>
    intro i M U V rm ru rv H b h hti hp hm
    have hi:i < R:=by omega
    have k1:(i:Int) < (R:Int):=by omega
    have wi:IntKind.i64.wrap ((i:Int) + 1) = ((i + 1:Nat):Int):=i64a (by omega)
    obtain ⟨Inv,q1,q2,q3,q4⟩:=hP i M U V hti hi hp
    obtain ⟨M1,U1,V1,rm1,ru1,H1,b1,e1,e2,e3,e4⟩:=euc_loop hE R C hR hC (.agg [.int .i64 R,.int .i64 C,x]) top i c ht hi (by omega) hc Inv q2 q3 ((at2 M i c).natAbs + 1) M U V rm ru rv H false (by omega) q1 hm
    obtain ⟨M',U',V',rm',ru',H',b',f1,f2,f3⟩:=ih (i + 1) M1 U1 V1 rm1 ru1 rv H1 (b || b1) (by omega) (by omega) (q4 _ _ _ e3 e4) e2
    refine ⟨M',U',V',rm',ru',H',b',?_,f2,f3⟩
    rw [← f1]
    unfold z14
    conv=>lhs; rw [a74l1_run]
    simp (maxSteps:=1000000) only [si,simprocAttr,a74b1,a74R,k1,wi,e1]
theorem reduce_loop (R C:Nat) (hR:R < 2147483648) (hC:C < 2147483648) (a:AV) (top c:Nat) (ht:top < R) (hc:c < C) (v10 v11:AV) (Q:Nat → MP) (hQ:ReduceOk top c Q) :
    ∀ (n i:Nat) (M U V:List (List Int)) (rm ru rv:List Nat) (H:Heap) (b:Bool),top = i + n → Q i M U V → Wk H R C rm ru rv M U V →
    ∃ M' U' V' H' b',run E GP a74l3 { vars:=[a,.ptr (3 + 6 * R) 0 [],.int .i64 top,.int .i64 c,.int .i64 R,.int .i64 i,.bool true,.bool false,.u,.u,v10,v11,.u,a,z14,.u,.u],heap:=H,rs:=b } =
      some (.exit 6,{ vars:=[a,.ptr (3 + 6 * R) 0 [],.int .i64 top,.int .i64 c,.int .i64 R,.int .i64 top,.bool true,.bool false,.u,.u,v10,v11,.bool false,a,z14,.u,.u],heap:=H',rs:=b' }) ∧
      Wk H' R C rm ru rv M' U' V' ∧ Q top M' U' V':=by
  intro n
  induction n with
  | zero =>
    intro i M U V rm ru rv H b h hp hm
    have hi:i = top:=by omega
    subst hi
    have k1:¬ (i:Int) < (i:Int):=by omega
    refine ⟨M,U,V,H,b,?_,hm,hp⟩
    unfold z14
    rw [a74l3_run]
    simp (maxSteps:=1000000) only [si,simprocAttr,a74b3,a74R,k1]
  | succ n ih =>
    intro i M U V rm ru rv H b h hp hm
    have hi:i < top:=by omega
    have hiR':i < R:=by omega
    have k1:(i:Int) < (top:Int):=by omega
    have hiR:(i:Int) < (R:Int):=by omega
    have htR:(top:Int) < (R:Int):=by omega
    have hcC:(c:Int) < (C:Int):=by omega
    have wi:IntKind.i64.wrap ((i:Int) + 1) = ((i + 1:Nat):Int):=i64a (by omega)
    obtain ⟨⟨fM,fU,fV⟩,hne,hQ'⟩:=hQ i M U V hi hp
    have g0:=hm.w
    have wwi:=hm.mM.wid i (by rw [hm.lM]; exact hiR')
    have wwt:=hm.mM.wid top (by rw [hm.lM]; exact ht)
    have g3:=hm.mM.top
    have g4:=tops_get (C:=C) (rs:=rm) (i:=i) (by rw [hm.lM]; exact hiR')
    have g5:=tops_get (C:=C) (rs:=rm) (i:=top) (by rw [hm.lM]; exact ht)
    have g6:=hm.mM.row i (by rw [hm.lM]; exact hiR')
    have g7:=hm.mM.row top (by rw [hm.lM]; exact ht)
    have g8:=rowA_get (r:=M.getD i []) (i:=c) (by omega)
    have g9:=rowA_get (r:=M.getD top []) (i:=c) (by omega)
    have fx:Fit (at2 M i c):=fM i c
    have fy:Fit (at2 M top c):=fM top c
    have fq:Fit (-(at2 M i c / at2 M top c)):=fit_le (by rw [Int.natAbs_neg]; exact Int.natAbs_ediv_le_natAbs _ _) fx
    have hfl:∀ H,call E GP 92 [Z (at2 M i c),Z (at2 M top c)] H = some (Z (at2 M i c / at2 M top c),H,false):=by
      intro H
      have hdm:=fun H=>r1_divmod hE (at2 M i c) (at2 M top c) hne (by unfold Fit at fx; omega) (by unfold Fit at fy; omega) H
      rw [call_fun (hE _ _ _ (by decide)) (f:=a92) rfl rfl]
      simp (maxSteps:=1000000) only [si,simprocAttr,a92,a92R,hdm]
    have hng:=fun H=>r1_neg hE (at2 M i c / at2 M top c) H (by rw [← Int.natAbs_neg]; unfold Fit at fq; omega)
    obtain ⟨H0,t1,t2,t3⟩:=r12_addTo hE R C hR hC rm ru rv i top hiR' ht (by omega) _ fq H M U V (fun t _=>⟨fM i t,fM top t⟩) (fun t _=>⟨fU i t,fU top t⟩) (fun t _=>⟨fV t i,fV t top⟩) hm
    obtain ⟨M',U',V',H',b',e1,e2,e3⟩:=ih (i + 1) _ _ _ _ _ _ H0 (b || false) (by omega) hQ' t2
    refine ⟨M',U',V',H',b',?_,e2,e3⟩
    rw [← e1]
    unfold HV at g0
    unfold z14
    unfold at2 at hfl hng t1
    generalize (M.getD i []).getD c 0 = p at *
    generalize (M.getD top []).getD c 0 = q at *
    conv=>lhs; rw [a74l3_run]
    simp (maxSteps:=1000000) only [si,simprocAttr,a74b3,a74R,k1,wi,hiR,htR,hcC,g0,g3,g4,g5,g6,g7,g8,g9,hfl,hng,t1]
end Tor
namespace Tor
open Go
def sgnRow (y:Int) (M:List (List Int)) (top:Nat):List (List Int):=if y < 0 then negRow M top else M
def sgnCol (y:Int) (V:List (List Int)) (top:Nat):List (List Int):=if y < 0 then negColA V top else V
def FormOk (R C:Nat) (O:Nat → Nat → MP):Prop:=∀ c top M U V,c < C → top < R → O c top M U V →
  ∃ P:Nat → MP,P (top + 1) M U V ∧ ElimOk R top c P ∧ ∀ M U V,P R M U V → Fits3 M U V ∧ (at2 M top c = 0 → O (c + 1) top M U V) ∧
    (at2 M top c ≠ 0 → ∃ Q:Nat → MP,ReduceOk top c Q ∧ Q 0 (sgnRow (at2 M top c) M top) (sgnRow (at2 M top c) U top) (sgnCol (at2 M top c) V top) ∧
      ∀ M U V,Q top M U V → O (c + 1) (top + 1) M U V)
theorem fz_rowA (n:Nat) (H:Heap) (k:Nat):∀ r:List Int,(rowA r).map (fz n H (k + 2)) = rowA r
  | []=>rfl
  | x :: r=>by
    have:=fz_rowA n H k r
    simp only [rowA,List.map_cons,fz_Z] at this ⊢; rw [this]
theorem fz_tops {H o g C rs A} (h:HMat H o g C rs A) (k:Nat):(tops C rs).map (fz 0 H (k + 3)) = rowsI A:=by
  apply List.ext_getElem (by simp [tops_len,rowsI_len,h.len])
  intro i h1 h2
  simp only [List.length_map,tops_len] at h1
  rw [rowsI_len] at h2
  have hr:=h.row i h1
  have hw:=h.wid i h1
  have e1:(tops C rs)[i]'(by rw [tops_len]; exact h1) = .sl (rs.getD i 0) 0 2 0 C:=by simp [tops,List.getD,h1]
  have e2:(rowsI A)[i]'(by rw [rowsI_len]; exact h2) = .isl (rowA (A.getD i [])):=by simp [rowsI,List.getD,h2]
  rw [List.getElem_map,e1,e2]
  generalize A.getD i [] = x at *
  have hl:C ≤ (rowA x).length:=by rw [rowA_len]; omega
  have ht:List.take C (rowA x) = rowA x:=List.take_of_length_le (by rw [rowA_len]; omega)
  have he:elems H (.sl (rs.getD i 0) 0 2 0 C) = some (rowA x):=by
    simp only [elems,hr]; simp [hl,ht]
  rw [show k + 3 = (k + 2) + 1 from rfl,fz,if_neg (by omega),he]
  simp only [fz_rowA]
theorem fz_HV {H o g C rs A R} (h:HMat H o g C rs A) (hR:rs.length = R) (k:Nat):fz 0 H (k + 5) (HV o g R C) = MI R C A:=by
  have he:elems H (.sl o g 1 0 R) = some (tops C rs):=by
    simp only [elems,h.top]; simp [tops_len,hR,List.take_of_length_le]
  unfold HV MI
  rw [show k + 5 = (k + 4) + 1 from rfl,fz]
  simp only [List.map_cons,List.map_nil]
  rw [show k + 4 = (k + 3) + 1 from rfl,fz,fz,fz,if_neg (by omega),he]
  simp only [fz_tops h]
  all_goals simp
theorem solids_rowA:∀ r:List Int,AV.solids (rowA r) = true
  | []=>rfl
  | x :: r=>by
    have:=solids_rowA r
    simp only [rowA,List.map_cons,AV.solids,Z_solid,Bool.true_and] at this ⊢; exact this
theorem refs_rowsI:∀ A:List (List Int),AV.hasRefs (rowsI A) = false
  | []=>rfl
  | x :: r=>by
    have:=refs_rowsI r
    simp only [rowsI,List.map_cons,AV.hasRefs,AV.hasRef,Bool.false_or] at this ⊢; exact this
theorem solids_rowsI:∀ A:List (List Int),AV.solids (rowsI A) = true
  | []=>rfl
  | x :: r=>by
    have:=solids_rowsI r
    simp only [rowsI,List.map_cons,AV.solids,AV.solid,refs_rowA,solids_rowA,Bool.not_false,Bool.true_and] at this ⊢; exact this
variable {E:CallF} (hE:Free E)
include hE
theorem form_loop (R C:Nat) (hR:R < 2147483648) (hC:C < 2147483648) (x:AV) (O:Nat → Nat → MP) (hO:FormOk R C O) :
    ∀ (n c top:Nat) (M U V:List (List Int)) (rm ru rv:List Nat) (H:Heap) (b:Bool),C = c + n → top ≤ R → O c top M U V → Wk H R C rm ru rv M U V →
    ∃ c' top' M' U' V' rm' ru' H' b' ,run E GP a74l0 { vars:=[.agg [.int .i64 R,.int .i64 C,x],.ptr (3 + 6 * R) 0 [],.int .i64 top,.int .i64 c,.u,.u,.u,.u,.u,.u,.u,.u,.u,.agg [.int .i64 R,.int .i64 C,x],z14,.u,.u],heap:=H,rs:=b } =
      some (.exit 0,{ vars:=[.agg [.int .i64 R,.int .i64 C,x],.ptr (3 + 6 * R) 0 [],.int .i64 (top':Nat),.int .i64 (c':Nat),.u,.u,.bool false,.u,.u,.u,.u,.u,.u,.agg [.int .i64 R,.int .i64 C,x],z14,.u,.u],heap:=H',rs:=b' }) ∧
      Wk H' R C rm' ru' rv M' U' V' ∧ O c' top' M' U' V' ∧ (c' = C ∨ top' = R):=by
  intro n
  induction n with
  | zero =>
    intro c top M U V rm ru rv H b h ht hp hm
    have hc:c = C:=by omega
    subst hc
    have k1:¬ (c:Int) < (c:Int):=by omega
    refine ⟨c,top,M,U,V,rm,ru,H,b,?_,hm,hp,.inl rfl⟩
    unfold z14
    rw [a74l0_run]
    simp (maxSteps:=1000000) only [si,simprocAttr,a74b0,a74R,k1]
  | succ n ih =>
    intro c top M U V rm ru rv H b h ht hp hm
    have hc:c < C:=by omega
    have k1:(c:Int) < (C:Int):=by omega
    by_cases htop:top = R
    · refine ⟨c,top,M,U,V,rm,ru,H,b,?_,hm,hp,.inr htop⟩
      subst htop
      have k2:¬ (top:Int) < (top:Int):=by omega
      unfold z14
      rw [a74l0_run]
      simp (maxSteps:=1000000) only [si,simprocAttr,a74b0,a74R,k1,k2]
    · have htR':top < R:=by omega
      have htR:(top:Int) < (R:Int):=by omega
      have wc:IntKind.i64.wrap ((c:Int) + 1) = ((c + 1:Nat):Int):=i64a (by omega)
      have wt:IntKind.i64.wrap ((top:Int) + 1) = ((top + 1:Nat):Int):=i64a (by omega)
      obtain ⟨P,p1,p2,p3⟩:=hO c top M U V hc htR' hp
      obtain ⟨M1,U1,V1,rm1,ru1,H1,b1,e1,e2,e3⟩:=elim_loop hE R C hR hC x top c htR' hc P p2 (R - (top + 1)) (top + 1) M U V rm ru rv H false (by omega) (by omega) p1 hm
      obtain ⟨⟨fM,fU,fV⟩,p4,p5⟩:=p3 _ _ _ e3
      have g0:=e2.w
      have wwt:=e2.mM.wid top (by rw [e2.lM]; exact htR')
      have g3:=e2.mM.top
      have g5:=tops_get (C:=C) (rs:=rm1) (i:=top) (by rw [e2.lM]; exact htR')
      have g7:=e2.mM.row top (by rw [e2.lM]; exact htR')
      have g9:=rowA_get (r:=M1.getD top []) (i:=c) (by omega)
      have hsy:=fun H=>r1_sign hE (at2 M1 top c) H
      by_cases hy:at2 M1 top c = 0
      · obtain ⟨c',top',M',U',V',rm',ru',H',b',f1,f2,f3,f4⟩:=ih (c + 1) top M1 U1 V1 rm1 ru1 rv H1 (b || b1) (by omega) ht (p4 hy) e2
        refine ⟨c',top',M',U',V',rm',ru',H',b',?_,f2,f3,f4⟩
        rw [← f1]
        unfold HV at g0
        unfold z14 at e1 ⊢
        unfold at2 at hsy hy
        rw [hy] at hsy g9
        rw [Int.sign_zero] at hsy
        conv=>lhs; rw [a74l0_run]
        simp (maxSteps:=1000000) only [si,simprocAttr,a74b0,a74R,k1,htR,wt,wc,e1,g0,g3,g5,g7,g9,hsy]
      · obtain ⟨Q,q1,q2,q3⟩:=p5 hy
        have sy:(at2 M1 top c).sign ≠ 0:=by rw [Ne,Int.sign_eq_zero_iff_zero]; exact hy
        by_cases hneg:at2 M1 top c < 0
        · have sn:(at2 M1 top c).sign < 0:=by rw [Int.sign_eq_neg_one_of_neg hneg]; decide
          rw [sgnRow,if_pos hneg,sgnRow,if_pos hneg,sgnCol,if_pos hneg] at q2
          obtain ⟨H2,n1,n2,n3⟩:=r12_negate hE R C hR hC rm1 ru1 rv top htR' H1 M1 U1 V1 (fun t _=>fM top t) (fun t _=>fU top t) (fun t _=>fV t top) e2
          obtain ⟨M3,U3,V3,H3,b3,r1,r2,r3⟩:=reduce_loop hE R C hR hC (.agg [.int .i64 R,.int .i64 C,x]) top c htR' hc (.bool false) (.bool true) Q q1 top 0 _ _ _ rm1 ru1 rv H2 b1 (by omega) q2 n2
          obtain ⟨c',top',M',U',V',rm',ru',H',b',f1,f2,f3,f4⟩:=ih (c + 1) (top + 1) M3 U3 V3 rm1 ru1 rv H3 (b || b3) (by omega) (by omega) (q3 _ _ _ r3) r2
          refine ⟨c',top',M',U',V',rm',ru',H',b',?_,f2,f3,f4⟩
          rw [← f1]
          unfold HV at g0
          unfold z14 at e1 r1 ⊢
          unfold at2 at hsy sy sn
          simp only [Int.ofNat_zero] at r1
          generalize (M1.getD top []).getD c 0 = y at *
          conv=>lhs; rw [a74l0_run]
          simp (maxSteps:=1000000) only [si,simprocAttr,a74b0,a74R,k1,htR,wt,wc,e1,g0,g3,g5,g7,g9,hsy,sy,sn,n1,r1]
        · have sn:¬ (at2 M1 top c).sign < 0:=by rw [Int.sign_eq_one_of_pos (by omega)]; decide
          rw [sgnRow,if_neg hneg,sgnRow,if_neg hneg,sgnCol,if_neg hneg] at q2
          obtain ⟨M3,U3,V3,H3,b3,r1,r2,r3⟩:=reduce_loop hE R C hR hC (.agg [.int .i64 R,.int .i64 C,x]) top c htR' hc (.bool false) (.bool false) Q q1 top 0 _ _ _ rm1 ru1 rv H1 b1 (by omega) q2 e2
          obtain ⟨c',top',M',U',V',rm',ru',H',b',f1,f2,f3,f4⟩:=ih (c + 1) (top + 1) M3 U3 V3 rm1 ru1 rv H3 (b || b3) (by omega) (by omega) (q3 _ _ _ r3) r2
          refine ⟨c',top',M',U',V',rm',ru',H',b',?_,f2,f3,f4⟩
          rw [← f1]
          unfold HV at g0
          unfold z14 at e1 r1 ⊢
          unfold at2 at hsy sy sn
          simp only [Int.ofNat_zero] at r1
          generalize (M1.getD top []).getD c 0 = y at *
          conv=>lhs; rw [a74l0_run]
          simp (maxSteps:=1000000) only [si,simprocAttr,a74b0,a74R,k1,htR,wt,wc,e1,g0,g3,g5,g7,g9,hsy,sy,sn,r1]
theorem r12_form (R C:Nat) (hR:R < 2147483648) (hC:C < 2147483648) (A:List (List Int)) (hA:A.length = R) (hw:∀ i,i < R → (A.getD i []).length = C) (hfit:∀ i,i < R → ∀ y ∈ A.getD i [],Fit y) (O:Nat → Nat → MP) (hO:FormOk R C O) (h0:O 0 0 A (idMat R) (idMat R)) :
    ∃ c top M U V,O c top M U V ∧ (c = C ∨ top = R) ∧ M.length = R ∧ (∀ i,i < R → (M.getD i []).length = C) ∧ U.length = R ∧ (∀ i,i < R → (U.getD i []).length = R) ∧ V.length = R ∧ (∀ i,i < R → (V.getD i []).length = R) ∧
      ∀ H,call E GP 74 [MI R C A] H = some (.agg [MI R C M,MI R R U,MI R R V],H,false):=by
  obtain ⟨H1,b1,s1,s2⟩:=r12_start hE R C hR hC A hA hw hfit
  obtain ⟨c',top',M',U',V',rm',ru',H',b',f1,f2,f3,f4⟩:=form_loop hE R C hR hC (.isl (rowsI A)) O hO C 0 0 A (idMat R) (idMat R) _ _ _ H1 b1 (by omega) (Nat.zero_le _) h0 s2
  refine ⟨c',top',M',U',V',f3,f4,by rw [f2.mM.len,f2.lM],fun i hi=>f2.mM.wid i (by rw [f2.lM]; exact hi),by rw [f2.mU.len,f2.lU],fun i hi=>f2.mU.wid i (by rw [f2.lU]; exact hi),by rw [f2.mV.len,f2.lV],fun i hi=>f2.mV.wid i (by rw [f2.lV]; exact hi),fun H=>?_⟩
  rw [call_fun (hE _ _ _ (by decide)) (f:=a74) rfl rfl]
  have g0:=f2.w
  have g1:=f2.mM.top
  have g2:=f2.mU.top
  have g3:=f2.mV.top
  have z1:=fz_tops f2.mM 2
  have z2:=fz_tops f2.mU 2
  have z3:=fz_tops f2.mV 2
  have l1:(tops C rm').length = R:=by rw [tops_len,f2.lM]
  have l2:(tops R ru').length = R:=by rw [tops_len,f2.lU]
  have l3:(tops R (news (2 + 4 * R) R)).length = R:=by rw [tops_len,f2.lV]
  have k1:List.take R (tops C rm') = tops C rm':=List.take_of_length_le (by omega)
  have k2:List.take R (tops R ru') = tops R ru':=List.take_of_length_le (by omega)
  have k3:List.take R (tops R (news (2 + 4 * R) R)) = tops R (news (2 + 4 * R) R):=List.take_of_length_le (by omega)
  have hrf:=refs_rowsI
  have hso:=solids_rowsI
  unfold MI at s1 ⊢
  unfold HV at g0
  unfold z14 at f1
  simp only [Int.ofNat_zero] at f1
  simp (maxSteps:=1000000) only [si,simprocAttr,a74,a74R,s1,f1,g0,hrf,hso,g1,g2,g3,z1,z2,z3,l1,l2,l3,k1,k2,k3,Nat.not_lt_zero]
end Tor
namespace Tor
open Go
def nz (r:List Int):Bool:=r.any fun x=>decide (x ≠ 0)
def rankOf (A:List (List Int)):Nat:=(A.filter nz).length
variable {E:CallF} (hE:Free E)
include hE
theorem pivot_loop (v : List Int) (hv : v.length < 2147483648) : ∀ (n c : Nat), v.length = c + n → (∃ i : Nat, ∃ w, (v.drop c).any (fun x => decide (x ≠ 0)) = true ∧
      run E GP a93l0 { vars:=[.isl (rowA v),.int .i64 0,.int .i64 c,.u,.u],heap:=[],rs:=false } = some (.ret,{ vars:=[.isl (rowA v),.int .i64 i,.int .i64 i,.bool true,w],heap:=[],rs:=false })) ∨
    ((v.drop c).any (fun x=>decide (x ≠ 0)) = false ∧
      run E GP a93l0 { vars:=[.isl (rowA v),.int .i64 0,.int .i64 c,.u,.u],heap:=[],rs:=false } = some (.exit 0,{ vars:=[.isl (rowA v),.int .i64 0,.int .i64 v.length,.bool false,.u],heap:=[],rs:=false })):=by
  intro n
  induction n with
  | zero =>
    intro c h
    have hc:c = v.length:=by omega
    subst hc
    have k1:¬ (v.length:Int) < (v.length:Int):=by omega
    refine .inr ⟨by simp,?_⟩
    rw [a93l0_run]
    simp (maxSteps:=1000000) only [si,simprocAttr,a93b0,a93R,rowA_len,k1]
  | succ n ih =>
    intro c h
    have hc:c < v.length:=by omega
    have k1:(c:Int) < (v.length:Int):=by omega
    have wc:IntKind.i64.wrap ((c:Int) + 1) = ((c + 1:Nat):Int):=i64a (by omega)
    have g1:=rowA_get hc
    have hs:=fun H=>r1_sign hE (v.getD c 0) H
    rw [drop_cons v c hc]
    by_cases h0:v.getD c 0 = 0
    · rw [h0] at g1 hs ⊢
      rw [Int.sign_zero] at hs
      have hany:((0:Int) :: v.drop (c + 1)).any (fun x=>decide (x ≠ 0)) = (v.drop (c + 1)).any (fun x=>decide (x ≠ 0)):=by simp
      rw [hany]
      have hst:run E GP a93l0 { vars:=[.isl (rowA v),.int .i64 0,.int .i64 c,.u,.u],heap:=[],rs:=false } = run E GP a93l0 { vars:=[.isl (rowA v),.int .i64 0,.int .i64 (c + 1:Nat),.u,.u],heap:=[],rs:=false }:=by
        conv=>lhs; rw [a93l0_run]
        simp (maxSteps:=1000000) only [si,simprocAttr,a93b0,a93R,rowA_len,k1,wc,g1,hs,ne_eq,not_true_eq_false]
      rw [hst]
      exact ih (c + 1) (by omega)
    · have sx:(v.getD c 0).sign ≠ 0:=by rw [Ne,Int.sign_eq_zero_iff_zero]; exact h0
      refine .inl ⟨c,.bool true,?_,?_⟩
      · rw [List.any_cons]; simp only [h0,ne_eq,not_false_eq_true,decide_true,Bool.true_or]
      · generalize v.getD c 0 = y at *
        rw [a93l0_run]
        simp (maxSteps:=1000000) only [si,simprocAttr,a93b0,a93R,rowA_len,k1,wc,g1,hs,sx,ne_eq,not_false_eq_true,not_true_eq_false]
theorem r12_pivot (v:List Int) (hv:v.length < 2147483648):∃ p:Int,(0 ≤ p ↔ nz v = true) ∧ ∀ H,call E GP 93 [.isl (rowA v)] H = some (.int .i64 p,H,false):=by
  rcases pivot_loop hE v hv v.length 0 (by omega) with ⟨i,w,h1,h2⟩ | ⟨h1,h2⟩
  · refine ⟨i,⟨fun _=>by simpa [nz] using h1,fun _=>by omega⟩,fun H=>?_⟩
    rw [call_fun (hE _ _ _ (by decide)) (f:=a93) rfl rfl]
    have hrf:=refs_rowA v
    simp only [Int.ofNat_zero] at h2
    simp (maxSteps:=1000000) only [si,simprocAttr,a93,a93R,hrf,h2]
  · refine ⟨-1,⟨fun h=>by omega,fun h=>by rw [List.drop_zero] at h1; unfold nz at h; rw [h1] at h; cases h⟩,fun H=>?_⟩
    rw [call_fun (hE _ _ _ (by decide)) (f:=a93) rfl rfl]
    have hrf:=refs_rowA v
    simp only [Int.ofNat_zero] at h2
    simp (maxSteps:=1000000) only [si,simprocAttr,a93,a93R,hrf,h2]
theorem rank_loop (R C:Nat) (hR:R < 2147483648) (hC:C < 2147483648) (A:List (List Int)) (hA:A.length = R) (hw:∀ i,i < R → (A.getD i []).length = C):∀ (n i m:Nat),R = i + n → m ≤ i →
    run E GP a75l0 { vars:=[MI R C A,.int .i64 0,.int .i64 m,.int .i64 i,.u,.u,MI R C A],heap:=[],rs:=false } =
      some (.exit 0,{ vars:=[MI R C A,.int .i64 0,.int .i64 (m + rankOf (A.drop i):Nat),.int .i64 R,.bool false,.u,MI R C A],heap:=[],rs:=false }):=by
  intro n
  induction n with
  | zero =>
    intro i m h hm
    have hi:i = R:=by omega
    subst hi
    have k1:¬ (i:Int) < (i:Int):=by omega
    rw [List.drop_of_length_le (by omega)]
    have:m + rankOf [] = m:=rfl
    rw [this]
    unfold MI
    rw [a75l0_run]
    simp (maxSteps:=1000000) only [si,simprocAttr,a75b0,a75R,k1]
  | succ n ih =>
    intro i m h hm
    have hi:i < R:=by omega
    have k1:(i:Int) < (R:Int):=by omega
    have wi:IntKind.i64.wrap ((i:Int) + 1) = ((i + 1:Nat):Int):=i64a (by omega)
    have wm:IntKind.i64.wrap ((m:Int) + 1) = ((m + 1:Nat):Int):=i64a (by omega)
    have g1:=rowsI_get (A:=A) (i:=i) (by omega)
    obtain ⟨p,p1,p2⟩:=r12_pivot hE (A.getD i []) (by rw [hw i hi]; exact hC)
    have hd:A.drop i = A.getD i [] :: A.drop (i + 1):=by rw [List.drop_eq_getElem_cons (by omega)]; simp [List.getD,show i < A.length by omega]
    rw [hd]
    by_cases hz:nz (A.getD i []) = true
    · have e:m + rankOf (A.getD i [] :: A.drop (i + 1)) = (m + 1) + rankOf (A.drop (i + 1)):=by
        unfold rankOf; rw [List.filter_cons_of_pos hz,List.length_cons]; omega
      have hp:p ≥ 0:=p1.2 hz
      rw [e,← ih (i + 1) (m + 1) (by omega) (by omega)]
      unfold MI
      conv=>lhs; rw [a75l0_run]
      simp (maxSteps:=1000000) only [si,simprocAttr,a75b0,a75R,k1,wi,wm,g1,p2,hp]
    · have e:m + rankOf (A.getD i [] :: A.drop (i + 1)) = m + rankOf (A.drop (i + 1)):=by
        unfold rankOf; rw [List.filter_cons_of_neg hz]
      have hp:¬ p ≥ 0:=fun h=>hz (p1.1 h)
      rw [e,← ih (i + 1) m (by omega) (by omega)]
      unfold MI
      conv=>lhs; rw [a75l0_run]
      simp (maxSteps:=1000000) only [si,simprocAttr,a75b0,a75R,k1,wi,wm,g1,p2,hp]
theorem r12_rank (R C:Nat) (hR:R < 2147483648) (hC:C < 2147483648) (A:List (List Int)) (hA:A.length = R) (hw:∀ i,i < R → (A.getD i []).length = C) (H:Heap) :
    call E GP 75 [MI R C A] H = some (.int .i64 (rankOf A:Nat),H,false):=by
  rw [call_fun (hE _ _ _ (by decide)) (f:=a75) rfl rfl]
  have hl:=rank_loop hE R C hR hC A hA hw R 0 0 (by omega) (Nat.le_refl _)
  rw [List.drop_zero,Nat.zero_add] at hl
  have hrf:=refs_rowsI A
  unfold MI at hl ⊢
  simp only [Int.ofNat_zero] at hl
  simp (maxSteps:=1000000) only [si,simprocAttr,a75,a75R,hrf,hl]
omit hE in
theorem headSize_rowsI (A:List (List Int)):headSize 1 (rowsI A) = true:=by cases A <;> rfl
omit hE in
theorem rowsI_take (A:List (List Int)) (n:Nat):(rowsI A).take n = rowsI (A.take n):=by simp [rowsI,List.map_take]
omit hE in
theorem rowsI_drop (A:List (List Int)) (n:Nat):(rowsI A).drop n = rowsI (A.drop n):=by simp [rowsI,List.map_drop]
omit hE in
theorem fz_rowsI (n:Nat) (H:Heap) (k:Nat):∀ A:List (List Int),(rowsI A).map (fz n H (k + 3)) = rowsI A
  | []=>rfl
  | r :: A=>by
    have h1:=fz_rowsI n H k A
    have h2:=fz_rowA n H k r
    simp only [rowsI,List.map_cons] at h1 ⊢
    rw [h1]
    have:fz n H (k + 3) (.isl (rowA r)) = .isl (rowA r):=by
      rw [show k + 3 = (k + 2) + 1 from rfl,fz]
      all_goals simp
    rw [this]
theorem r12_top (R C n:Nat) (hR:R < 2147483648) (A:List (List Int)) (hA:A.length = R) (hn:n ≤ R) (H:Heap) :
    call E GP 94 [MI R C A,.int .i64 n] H = some (MI n C (A.take n),H,false):=by
  rw [call_fun (hE _ _ _ (by decide)) (f:=a94) rfl rfl]
  have hrf:=refs_rowsI
  have hso:=solids_rowsI
  have hhs:=headSize_rowsI A
  have k1:(n:Int) ≤ (R:Int):=by omega
  have k2:(0:Int) ≤ (n:Int):=by omega
  have htk:=rowsI_take A n
  have hl:=rowsI_len A
  rw [hA] at hl
  unfold MI
  simp (maxSteps:=1000000) only [si,simprocAttr,a94,a94R,hrf,hso,hhs,k1,k2,htk,hl,hA]
theorem r12_basis (R C:Nat) (hR:R < 2147483648) (hC:C < 2147483648) (A M U V:List (List Int)) (hM:M.length = R) (hw:∀ i,i < R → (M.getD i []).length = C)
    (hf:∀ H,call E GP 74 [MI R C A] H = some (.agg [MI R C M,MI R R U,MI R R V],H,false)) (H:Heap) :
    call E GP 76 [MI R C A] H = some (MI (rankOf M) C (M.take (rankOf M)),H,false):=by
  rw [call_fun (hE _ _ _ (by decide)) (f:=a76) rfl rfl]
  have hr:=fun H=>r12_rank hE R C hR hC M hM hw H
  have hle:rankOf M ≤ R:=by rw [← hM]; exact List.length_filter_le ..
  have ht:=fun H=>r12_top hE R C (rankOf M) hR M hM hle H
  have hrf:=refs_rowsI
  have hso:=solids_rowsI
  unfold MI at *
  simp (maxSteps:=1000000) only [si,simprocAttr,a76,a76R,hrf,hso,hf,hr,ht]
theorem r15_left (R C:Nat) (hR:R < 2147483648) (hC:C < 2147483648) (A M U V B:List (List Int)) (k:Nat) (hM:M.length = R) (hw:∀ i,i < R → (M.getD i []).length = C) (hU:U.length = R)
    (hf:∀ H,call E GP 74 [MI R C A] H = some (.agg [MI R C M,MI R R U,MI R R V],H,false))
    (hb:∀ H,call E GP 76 [MI (R - rankOf M) R (U.drop (rankOf M))] H = some (MI k R B,H,false)) (H:Heap) :
    call E GP 62 [MI R C A] H = some (MI k R B,H,false):=by
  rw [call_fun (hE _ _ _ (by decide)) (f:=a62) rfl rfl]
  have hr:=fun H=>r12_rank hE R C hR hC M hM hw H
  have hle:rankOf M ≤ R:=by rw [← hM]; exact List.length_filter_le ..
  have hrf:=refs_rowsI
  have hso:=solids_rowsI
  have hhs:=headSize_rowsI U
  have ws:IntKind.i64.wrap ((R:Int) - (rankOf M:Int)) = ((R - rankOf M:Nat):Int):=by rw [i64w (by omega)]; omega
  have k1:(rankOf M:Int) ≤ (R:Int):=by omega
  have k2:(0:Int) ≤ (rankOf M:Int):=by omega
  have hl:=rowsI_len U
  rw [hU] at hl
  have htk:List.take R (rowsI U) = rowsI U:=List.take_of_length_le (by omega)
  have hdr:=rowsI_drop U (rankOf M)
  unfold MI at *
  simp (maxSteps:=1000000) only [si,simprocAttr,a62,a62R,hrf,hso,hf,hr,hb,hhs,ws,k1,k2,hl,htk,hdr]
end Tor
namespace Tor
open Go
variable {E:CallF} (hE:Free E)
include hE
theorem i_valid (n:Int) (H:Heap) (hs:(limbs n.natAbs).length < 2147483648):call E GP 47 [Z n] H = some (.bool true,H,false):=by
  rw [call_fun (hE _ _ _ (by decide)) (f:=a47) rfl rfl]
  by_cases h0:limbs n.natAbs = []
  · have hn:n = 0:=by have:=limbs_nil.1 h0; omega
    subst hn
    simp (maxSteps:=1000000) only [si,simprocAttr,Z,h0,show limbs 0 = [] from rfl,a47,a47R]
  · have hlast:=limbs_last _ h0
    generalize hl:limbs n.natAbs = l at *
    obtain ⟨m,d,rfl⟩:∃ m d,l = m ++ [d]:=⟨l.dropLast,l.getLast h0,(List.dropLast_concat_getLast h0).symm⟩
    have hd0:d ≠ 0:=by simpa using hlast
    have hd:(d:Int) ≠ 0:=by omega
    have hlen:((m ++ [d]).length:Int) ≠ 0:=by
      have:(m ++ [d]).length = m.length + 1:=by simp
      omega
    have hgt:((m ++ [d]).length:Int) > 0:=by omega
    have hget:((m ++ [d]).map limbA)[m.length]? = some (limbA d):=by simp
    have hw:IntKind.i64.wrap ((m ++ [d]).length - 1) = (m.length:Int):=by
      simp at hs ⊢
      exact i64w (by omega)
    simp (maxSteps:=1000000) only [si,simprocAttr,Z,hl,a47,a47R,hgt,decide_true,refs_limbs,hlen,hw,hget,limbA,hd]
theorem i_sign (n:Int) (H:Heap):call E GP 48 [Z n] H = some (.int .i64 n.sign,H,false):=by
  rw [call_fun (hE _ _ _ (by decide)) (f:=a48) rfl rfl]
  by_cases h0:limbs n.natAbs = []
  · have hn:n = 0:=by have:=limbs_nil.1 h0; omega
    subst hn
    simp (maxSteps:=1000000) only [si,simprocAttr,Z,h0,show limbs 0 = [] from rfl,a48,a48R,Int.sign_zero]
  · have hn:n ≠ 0:=fun e=>h0 (by subst e; rfl)
    have hlen:((limbs n.natAbs).length:Int) ≠ 0:=by simp; exact h0
    by_cases hneg:n < 0
    · simp (maxSteps:=1000000) only [si,simprocAttr,Z,a48,a48R,refs_limbs,hlen,hneg,Int.sign_eq_neg_one_of_neg hneg]
    · simp (maxSteps:=1000000) only [si,simprocAttr,Z,a48,a48R,refs_limbs,hlen,hneg,Int.sign_eq_one_of_pos (show 0 < n by omega)]
omit hE in
theorem norm_loop (l:List Nat) (b:Bool) (c:AV) (hc:c.under 0 = true):∀ (n:Nat) (x:AV),x.under 0 = true → n ≤ l.length → l.length < 2147483648 →
    ∃ x y,run E GP a54l0 { vars:=[.isl (l.map limbA),.bool b,.int .i64 n,.u,.u,c],heap:=[],rs:=false } = some (.exit 0,{ vars:=[.isl (l.map limbA),.bool b,.int .i64 (stripN l n:Nat),x,y,c],heap:=[],rs:=false }):=by
  intro n
  induction n with
  | zero =>
    intro x hx _ _
    refine ⟨.bool false,.u,?_⟩
    rw [a54l0_run]
    simp (maxSteps:=1000000) only [si,simprocAttr,stripN,a54b0,a54R,Int.ofNat_zero]
  | succ n ih =>
    intro x hx hn hl
    have hget:(l.map limbA)[n]? = some (limbA (l.getD n 0)):=by
      rw [List.getElem?_map,List.getElem?_eq_getElem (by omega)]; simp [List.getD,List.getElem?_eq_getElem (show n < l.length by omega)]
    have hw:IntKind.i64.wrap (((n + 1:Nat):Int) - 1) = (n:Int):=by rw [i64w (by omega)]; omega
    have hpos:((n + 1:Nat):Int) > 0:=by omega
    by_cases hz:l.getD n 0 = 0
    · have hz':((l.getD n 0:Nat):Int) = 0:=by omega
      obtain ⟨x',y',e⟩:=ih .u (by simp [AV.under]) (by omega) hl
      refine ⟨x',y',?_⟩
      rw [a54l0_run]
      simp (maxSteps:=1000000) only [si,simprocAttr,stripN,a54b0,a54R,hw,hpos,hget,limbA,hz',hz,hc]
      first | exact e | skip
    · have hz':((l.getD n 0:Nat):Int) ≠ 0:=by omega
      refine ⟨.bool true,.bool true,?_⟩
      rw [a54l0_run]
      simp (maxSteps:=1000000) only [si,simprocAttr,stripN,a54b0,a54R,hw,hpos,hget,limbA,hz',hz,hc]
theorem i_norm (l:List Nat) (neg:Bool) (H:Heap) (o g sz st n:Nat) (he:elems H (.sl o g sz st n) = some (l.map limbA)) (hl:∀ d ∈ l,d < B32) (hlen:l.length < 2147483648):call E GP 54 [.sl o g sz st n,.bool neg] H = some (Z (ofL neg l),H.set o .dead,false):=by
  rw [call_fun (hE _ _ _ (by decide)) (f:=a54) rfl rfl]
  obtain ⟨x,y,hloop⟩:=norm_loop (E:=E) l neg (.agg [.bool false,.isl []]) (by simp [AV.under,AV.unders]) l.length .u (by simp [AV.under]) (Nat.le_refl _) hlen
  have hs:=stripN_le l l.length
  rw [Z_ofL neg l hl]
  have hs2:((stripN l l.length:Nat):Int) ≤ (l.length:Int):=by omega
  have hs3:decide (((stripN l l.length:Nat):Int) > 0) = decide (0 < stripN l l.length):=by simp
  have hm:(l.take (stripN l l.length)).length ≤ 4294967296:=by simp; omega
  have hmode:a54.mode = .con:=rfl
  cases neg <;>
  simp (maxSteps:=1000000) only [he,hmode,si,simprocAttr,a54,a54R,hloop,hs2,hs3,maxLenA,List.drop_zero,← List.map_take,hm]
end Tor
namespace Tor
open Go
variable {E:CallF}
def cmp3 (x y:Int):Int:=if x < y then -1 else if x > y then 1 else 0
theorem cmp3_ne {x y:Int} (h:x ≠ y):cmp3 x y ≠ 0:=by
  unfold cmp3; split
  · decide
  · split
    · decide
    · omega
theorem diffAt_ne (a b:List Nat):∀ n j,diffAt a b n = some j → a.getD j 0 ≠ b.getD j 0
  | 0,j,h=>by simp [diffAt] at h
  | n + 1,j,h=>by
    simp only [diffAt] at h
    by_cases hz:a.getD n 0 = b.getD n 0
    · rw [if_pos hz] at h; exact diffAt_ne a b n j h
    · rw [if_neg hz] at h; cases h; exact hz
section
variable (hE:Free E)
include hE
theorem c_nan64 (x:Int) (H:Heap):call E GP 95 [.int .i64 x] H = some (.bool false,H,false):=by
  rw [call_fun (hE _ _ _ (by decide)) (f:=a95) rfl rfl]
  simp (maxSteps:=1000000) only [si,simprocAttr,a95,a95R,ne_eq,not_true_eq_false,decide_false]
theorem c_nan32 (x:Int) (H:Heap):call E GP 96 [.int .u32 x] H = some (.bool false,H,false):=by
  rw [call_fun (hE _ _ _ (by decide)) (f:=a96) rfl rfl]
  simp (maxSteps:=1000000) only [si,simprocAttr,a96,a96R,ne_eq,not_true_eq_false,decide_false]
theorem c_cmp64 (x y:Int) (H:Heap):call E GP 80 [.int .i64 x,.int .i64 y] H = some (.int .i64 (cmp3 x y),H,false):=by
  rw [call_fun (hE _ _ _ (by decide)) (f:=a80) rfl rfl]
  have n1:=c_nan64 hE x
  have n2:=c_nan64 hE y
  unfold cmp3
  by_cases h1:x < y
  · simp (maxSteps:=1000000) only [si,simprocAttr,a80,a80R,n1,n2,h1]
  · by_cases h2:x > y
    · simp (maxSteps:=1000000) only [si,simprocAttr,a80,a80R,n1,n2,h1,h2]
    · simp (maxSteps:=1000000) only [si,simprocAttr,a80,a80R,n1,n2,h1,h2]
theorem c_cmp32 (x y:Int) (H:Heap):call E GP 81 [.int .u32 x,.int .u32 y] H = some (.int .i64 (cmp3 x y),H,false):=by
  rw [call_fun (hE _ _ _ (by decide)) (f:=a81) rfl rfl]
  have n1:=c_nan32 hE x
  have n2:=c_nan32 hE y
  unfold cmp3
  by_cases h1:x < y
  · simp (maxSteps:=1000000) only [si,simprocAttr,a81,a81R,n1,n2,h1]
  · by_cases h2:x > y
    · simp (maxSteps:=1000000) only [si,simprocAttr,a81,a81R,n1,n2,h1,h2]
    · simp (maxSteps:=1000000) only [si,simprocAttr,a81,a81R,n1,n2,h1,h2]
theorem comp_loop (a b:List Nat) (hl:a.length < 2147483648):∀ n,n ≤ a.length → n ≤ b.length → ∀ (i:Int),i = (n:Int) - 1 →
    run E GP a68l0 { vars:=[.isl (a.map limbA),.isl (b.map limbA),.int .i64 0,.int .i64 0,.int .i64 i,.u,.bool false,.u,.u],heap:=[],rs:=false } =
      match diffAt a b n with
      | none=>some (.exit 0,{ vars:=[.isl (a.map limbA),.isl (b.map limbA),.int .i64 0,.int .i64 0,.int .i64 (-1),.u,.bool false,.bool false,.u],heap:=[],rs:=false })
      | some j=>some (.ret,{ vars:=[.isl (a.map limbA),.isl (b.map limbA),.int .i64 (cmp3 (a.getD j 0:Nat) (b.getD j 0:Nat)),.int .i64 0,.int .i64 j,.int .i64 (cmp3 (a.getD j 0:Nat) (b.getD j 0:Nat)),.bool false,.bool true,.bool true],heap:=[],rs:=false }):=by
  intro n
  induction n with
  | zero =>
    intro _ _ i hi
    have:i = -1:=by omega
    subst this
    rw [a68l0_run]
    simp (maxSteps:=1000000) only [si,simprocAttr,diffAt,a68b0,a68R]
  | succ n ih =>
    intro ha hb i hi
    have:i = (n:Int):=by omega
    subst this
    have hw:IntKind.i64.wrap ((n:Int) - 1) = (n:Int) - 1:=i64w (by omega)
    have h0:(n:Int) ≥ 0:=by omega
    have g1:=limb_get (show n < a.length by omega)
    have g2:=limb_get (show n < b.length by omega)
    have hc:=c_cmp32 hE (a.getD n 0:Nat) (b.getD n 0:Nat)
    rw [a68l0_run]
    by_cases hz:a.getD n 0 = b.getD n 0
    · have hc0:cmp3 (a.getD n 0:Nat) (b.getD n 0:Nat) = 0:=by unfold cmp3; rw [if_neg (by omega),if_neg (by omega)]
      rw [hc0] at hc
      simp only [hz] at hc
      simp (maxSteps:=1000000) only [si,simprocAttr,diffAt,a68b0,a68R,hw,h0,g1,g2,limbA,hz,hc]
      exact ih (by omega) (by omega) _ rfl
    · have hc0:cmp3 (a.getD n 0:Nat) (b.getD n 0:Nat) ≠ 0:=cmp3_ne (by omega)
      simp (maxSteps:=1000000) only [si,simprocAttr,diffAt,a68b0,a68R,hw,h0,g1,g2,limbA,hz,hc,hc0]
theorem i_compare (m n:Nat) (H:Heap) (hm:(limbs m).length < 2147483648) (hn:(limbs n).length < 2147483648) :
    call E GP 68 [.isl ((limbs m).map limbA),.isl ((limbs n).map limbA)] H = some (.int .i64 (cmp3 m n),H,false):=by
  rw [call_fun (hE _ _ _ (by decide)) (f:=a68) rfl rfl]
  have hc:=c_cmp64 hE ((limbs m).length:Nat) ((limbs n).length:Nat)
  by_cases hlen:(limbs m).length = (limbs n).length
  · have hc0:cmp3 ((limbs m).length:Nat) ((limbs n).length:Nat) = 0:=by unfold cmp3; rw [if_neg (by omega),if_neg (by omega)]
    rw [hc0] at hc
    simp only [hlen] at hc
    have hloop:=comp_loop hE (limbs m) (limbs n) hm (limbs m).length (Nat.le_refl _) (by omega) _ rfl
    have hd:=diffAt_val (limbs m) (limbs n) (limbs_lt m) (limbs_lt n) (limbs m).length (Nat.le_refl _) (by omega)
    have hw:IntKind.i64.wrap (((limbs m).length:Int) - 1) = ((limbs m).length:Int) - 1:=i64w (by omega)
    rw [hlen] at hw
    have e1:(limbs m).take (limbs m).length = limbs m:=List.take_length
    have e2:(limbs n).take (limbs m).length = limbs n:=by rw [hlen]; exact List.take_length
    rw [e1,e2,val_limbs,val_limbs] at hd
    cases hdd:diffAt (limbs m) (limbs n) (limbs m).length with
    | none =>
      rw [hdd] at hd hloop
      simp only at hd hloop
      have hcm:cmp3 (m:Int) (n:Int) = 0:=by unfold cmp3; rw [if_neg (by omega),if_neg (by omega)]
      rw [hlen] at hloop
      simp (maxSteps:=1000000) only [si,simprocAttr,a68,a68R,hlen,hc,hw,hloop,hcm]
    | some j =>
      rw [hdd] at hd hloop
      simp only at hd hloop
      have hcm:cmp3 ((limbs m).getD j 0:Nat) ((limbs n).getD j 0:Nat) = cmp3 (m:Int) (n:Int):=by
        have hne:=diffAt_ne _ _ _ _ hdd
        obtain ⟨h1,h2⟩:=hd
        unfold cmp3
        by_cases hlt:m < n
        · have:=h2.2 hlt
          rw [if_pos (by omega),if_pos (by omega)]
        · have:¬ (limbs m).getD j 0 < (limbs n).getD j 0:=fun h=>hlt (h2.1 h)
          rw [if_neg (by omega),if_pos (by omega),if_neg (by omega),if_pos (by omega)]
      rw [hlen] at hloop
      rw [hcm] at hloop
      simp (maxSteps:=1000000) only [si,simprocAttr,a68,a68R,hlen,hc,hw,hloop]
  · have hcm:cmp3 ((limbs m).length:Nat) ((limbs n).length:Nat) = cmp3 (m:Int) (n:Int):=by
      rcases Nat.lt_or_gt_of_ne hlen with h | h
      · have:=limbs_length_lt h
        unfold cmp3; rw [if_pos (by omega),if_pos (by omega)]
      · have:=limbs_length_lt h
        unfold cmp3; rw [if_neg (by omega),if_pos (by omega),if_neg (by omega),if_pos (by omega)]
    have hc0:cmp3 (m:Int) (n:Int) ≠ 0:=by
      rw [← hcm]; exact cmp3_ne (by omega)
    rw [hcm] at hc
    simp (maxSteps:=1000000) only [si,simprocAttr,a68,a68R,hc,hc0]
end
end Tor
namespace Tor
open Go
variable {E:CallF}
theorem u32v (v:BitVec 32):IntKind.u32.wrap (v.toNat:Int) = (v.toNat:Int):=by
  have:=v.isLt
  rw [u32n,Nat.mod_eq_of_lt (by simp only [B32]; omega)]
theorem ofv (v:BitVec 32):BitVec.ofInt 32 (v.toNat:Int) = v:=by
  rw [BitVec.ofInt_natCast]; simp
theorem not32 (v:BitVec 32):unAV .xor (.int .u32 v.toNat) = some (.int .u32 (~~~v).toNat):=by
  have e:unAV .xor (.int .u32 v.toNat) = some (.int .u32 (IntKind.u32.wrap ((BitVec.allOnes 32 ^^^ BitVec.ofInt 32 v.toNat).toNat:Nat))):=rfl
  rw [e,ofv,u32v,BitVec.allOnes_xor]
theorem and32 (u v:BitVec 32):IntKind.u32.wrap ((BitVec.ofInt IntKind.u32.bits (u.toNat:Int) &&& BitVec.ofInt IntKind.u32.bits (v.toNat:Int)).toNat:Nat) = ((u &&& v).toNat:Int):=by
  have e:(BitVec.ofInt IntKind.u32.bits (u.toNat:Int) &&& BitVec.ofInt IntKind.u32.bits (v.toNat:Int)).toNat = (BitVec.ofInt 32 u.toNat &&& BitVec.ofInt 32 v.toNat).toNat:=rfl
  rw [e,ofv,ofv,u32v]
theorem or32 (u v:BitVec 32):binInt .or .u32 u.toNat v.toNat = some (.int .u32 (u ||| v).toNat):=by
  have e:binInt .or .u32 u.toNat v.toNat = some (.int .u32 (IntKind.u32.wrap ((BitVec.ofInt 32 u.toNat ||| BitVec.ofInt 32 v.toNat).toNat:Nat))):=rfl
  rw [e,ofv,ofv,u32v]
theorem xor32 (u v:BitVec 32):binInt .xor .u32 u.toNat v.toNat = some (.int .u32 (u ^^^ v).toNat):=by
  have e:binInt .xor .u32 u.toNat v.toNat = some (.int .u32 (IntKind.u32.wrap ((BitVec.ofInt 32 u.toNat ^^^ BitVec.ofInt 32 v.toNat).toNat:Nat))):=rfl
  rw [e,ofv,ofv,u32v]
theorem top32 (v:BitVec 32):(v.toNat:Int).fdiv (2 ^ Nat.min 31 IntKind.u32.bits) = ((if v.msb then 1 else 0:Nat):Int):=by
  rw [show (2:Int) ^ Nat.min 31 IntKind.u32.bits = 2147483648 from rfl,Int.fdiv_eq_ediv_of_nonneg _ (by decide)]
  have h:=BitVec.msb_eq_decide v
  have hl:=v.isLt
  rw [h]
  simp only [decide_eq_true_eq]
  split <;> omega
section
variable (hE:Free E)
include hE
theorem c_add32 (x y c:Nat) (hx:x < B32) (hy:y < B32) (hc:c ≤ 1) (H:Heap):call E GP 79 [.int .u32 x,.int .u32 y,.int .u32 c] H = some (.tup [.int .u32 ((c + x + y) % B32:Nat),.int .u32 ((c + x + y) / B32:Nat)],H,false):=by
  rw [call_fun (hE _ _ _ (by decide)) (f:=a79) rfl rfl]
  simp only [B32] at hx hy
  have w1:=u64n (n:=x) (by omega)
  have w2:=u64n (n:=y) (by omega)
  have w3:=u64n (n:=c) (by omega)
  have w4:=u64a (x:=x) (y:=y) (by omega)
  have w5:=u64a (x:=x + y) (y:=c) (by omega)
  have w6:=u32n (x + y + c)
  have w7:=u32n ((x + y + c) / B32)
  rw [show c + x + y = x + y + c by omega]
  rw [Nat.mod_eq_of_lt (show (x + y + c) / B32 < B32 by simp only [B32]; omega)] at w7
  have w8:((x + y + c:Nat):Int).fdiv (2 ^ Nat.min 32 IntKind.u64.bits) = (((x + y + c) / B32:Nat):Int):=by
    rw [show (2:Int) ^ Nat.min 32 IntKind.u64.bits = 4294967296 from rfl,Int.fdiv_eq_ediv_of_nonneg _ (by decide)]; rfl
  simp (maxSteps:=1000000) only [si,simprocAttr,a79,a79R,w1,w2,w3,w4,w5,w6,w7,w8]
theorem c_sub32 (x y w:Nat) (hx:x < B32) (hy:y < B32) (hw:w ≤ 1) (H:Heap):call E GP 82 [.int .u32 x,.int .u32 y,.int .u32 w] H = some (.tup [.int .u32 (mdig x y w:Nat),.int .u32 (mbor x y w:Nat)],H,false):=by
  rw [call_fun (hE _ _ _ (by decide)) (f:=a82) rfl rfl]
  obtain ⟨X,rfl⟩:∃ X:BitVec 32,x = X.toNat:=⟨BitVec.ofNat 32 x,by simp only [B32] at hx; simp; omega⟩
  obtain ⟨Y,rfl⟩:∃ Y:BitVec 32,y = Y.toNat:=⟨BitVec.ofNat 32 y,by simp only [B32] at hy; simp; omega⟩
  obtain ⟨D,hD⟩:∃ D:BitVec 32,mdig X.toNat Y.toNat w = D.toNat:=⟨BitVec.ofNat 32 (mdig X.toNat Y.toNat w),by
    have:=(mdig_eq hx hy hw).1; simp only [B32] at this; simp; omega⟩
  have hd:IntKind.u32.wrap (IntKind.u32.wrap ((X.toNat:Int) - (Y.toNat:Int)) - (w:Int)) = (D.toNat:Int):=by
    rw [← hD,IntKind.wrap_u32,IntKind.wrap_u32]
    simp only [B32] at hx hy
    unfold mdig B32
    split <;> omega
  have hb:((if ((~~~X &&& Y) ||| (~~~(X ^^^ Y) &&& D)).msb then 1 else 0:Nat):Int) = (mbor X.toNat Y.toNat w:Nat):=by
    rw [BitVec.msb_or,BitVec.msb_and,BitVec.msb_and,BitVec.msb_not,BitVec.msb_not,BitVec.msb_xor]
    rw [BitVec.msb_eq_decide X,BitVec.msb_eq_decide Y,BitVec.msb_eq_decide D,← hD]
    simp only [B32] at hx hy
    unfold mdig mbor B32
    simp only [Nat.reduceSub,Nat.reducePow,Nat.reduceLT,decide_true,Bool.true_and]
    clear hd hD
    generalize X.toNat = x at *
    generalize Y.toNat = y at *
    by_cases h1:2147483648 ≤ x <;> by_cases h2:2147483648 ≤ y <;> by_cases h3:x < y + w <;>
      by_cases h4:2147483648 ≤ (if x < y + w then x + 4294967296 - (y + w) else x - (y + w)) <;>
      first
      | (exfalso; split at h4 <;> omega)
      | (simp only [h1,h2,h4,decide_true,decide_false]; simp only [h3,if_true,if_false]; rfl)
      | (simp [h1,h2,h3,h4])
  rw [hD]
  simp (maxSteps:=1000000) only [si,simprocAttr,a82,a82R,hd,not32,and32,or32,xor32,top32,hb]
end
end Tor
namespace Tor
open Go
variable {E:CallF}
theorem take_set (l:List Nat) (i d:Nat) (h:i < l.length):(l.set i d).take (i + 1) = l.take i ++ [d]:=by
  rw [List.take_add_one,List.take_set_of_le (Nat.le_refl _)]
  simp [h]
def p2 (a b out:List Nat) (i c:Nat) (sw:Bool):St :=
  { vars:=[.isl (a.map limbA),.isl (b.map limbA),.isl [],.sl 0 0 1 0 (a.length + 1),.int .u32 c,.u,.u,.bool sw,.int .i64 a.length,.int .i64 i,.u,.u],heap:=[.arr 0 1 (out.map limbA)],rs:=false }
section
variable (hE:Free E)
include hE
theorem p2_round (a b:List Nat) (ha:∀ d ∈ a,d < B32) (hb:∀ d ∈ b,d < B32) (la:a.length < 2147483648) (lb:b.length ≤ a.length) (i c:Nat) (sw:Bool) (out:List Nat) (ho:out.length = a.length + 1) (hc:c ≤ 1) (h1:i < a.length) :
    run E GP a67l0 (p2 a b out i c sw) = run E GP a67l0 (p2 a b (out.set i ((c + dig a i + dig b i) % B32)) (i + 1) ((c + dig a i + dig b i) / B32) sw):=by
  have da:=dig_lt ha i
  have db:=dig_lt hb i
  have w1:IntKind.i64.wrap ((i:Int) + 1) = ((i + 1:Nat):Int):=i64a (by omega)
  have g1:=limb_get h1
  have e1:dig a i = a.getD i 0:=by unfold dig; rw [if_pos h1]
  rw [← e1] at g1
  have k1:(i:Int) < (a.length:Int):=by omega
  have k0:(i:Int) < ((a.length + 1:Nat):Int):=by omega
  have k3:i < out.length:=by omega
  have g3:=limb_get k3
  have ca:=c_add32 hE (dig a i) (dig b i) c da db hc
  conv=>lhs; rw [a67l0_run]
  by_cases h2:i < b.length
  · have g2:=limb_get h2
    have e2:dig b i = b.getD i 0:=by unfold dig; rw [if_pos h2]
    rw [← e2] at g2
    have k2:(i:Int) < (b.length:Int):=by omega
    simp (maxSteps:=1000000) only [si,simprocAttr,p2,a67b0,a67R,limbA,w1,g1,g3,k1,k0,k3,g2,k2,ca,List.map_set,List.length_set,ho]
  · have e2:dig b i = 0:=by unfold dig; rw [if_neg h2]
    have k2:¬ (i:Int) < (b.length:Int):=by omega
    rw [e2] at ca
    rw [e2]
    simp only [Int.ofNat_zero] at ca
    simp (maxSteps:=1000000) only [si,simprocAttr,p2,a67b0,a67R,limbA,w1,g1,g3,k1,k0,k3,k2,ca,List.map_set,List.length_set,ho]
def m2 (a b out:List Nat) (i w:Nat):St :=
  { vars:=[.isl (a.map limbA),.isl (b.map limbA),.isl [],.sl 0 0 1 0 a.length,.int .u32 w,.u,.u,.int .i64 a.length,.int .i64 i,.u,.u],heap:=[.arr 0 1 (out.map limbA)],rs:=false }
theorem m2_round (a b:List Nat) (ha:∀ d ∈ a,d < B32) (hb:∀ d ∈ b,d < B32) (la:a.length < 2147483648) (lb:b.length ≤ a.length) (i w:Nat) (out:List Nat) (ho:out.length = a.length) (hw:w ≤ 1) (h1:i < a.length) :
    run E GP a69l0 (m2 a b out i w) = run E GP a69l0 (m2 a b (out.set i (mdig (dig a i) (dig b i) w)) (i + 1) (mbor (dig a i) (dig b i) w)):=by
  have da:=dig_lt ha i
  have db:=dig_lt hb i
  have w1:IntKind.i64.wrap ((i:Int) + 1) = ((i + 1:Nat):Int):=i64a (by omega)
  have g1:=limb_get h1
  have e1:dig a i = a.getD i 0:=by unfold dig; rw [if_pos h1]
  rw [← e1] at g1
  have k1:(i:Int) < (a.length:Int):=by omega
  have k3:i < out.length:=by omega
  have g3:=limb_get k3
  have ca:=c_sub32 hE (dig a i) (dig b i) w da db hw
  conv=>lhs; rw [a69l0_run]
  by_cases h2:i < b.length
  · have g2:=limb_get h2
    have e2:dig b i = b.getD i 0:=by unfold dig; rw [if_pos h2]
    rw [← e2] at g2
    have k2:(i:Int) < (b.length:Int):=by omega
    simp (maxSteps:=1000000) only [si,simprocAttr,m2,a69b0,a69R,limbA,w1,g1,g3,k1,k3,g2,k2,ca,List.map_set,List.length_set,ho]
  · have e2:dig b i = 0:=by unfold dig; rw [if_neg h2]
    have k2:¬ (i:Int) < (b.length:Int):=by omega
    rw [e2] at ca
    rw [e2]
    simp only [Int.ofNat_zero] at ca
    simp (maxSteps:=1000000) only [si,simprocAttr,m2,a69b0,a69R,limbA,w1,g1,g3,k1,k3,k2,ca,List.map_set,List.length_set,ho]
end
end Tor
namespace Tor
open Go
variable {E:CallF}
section
variable (hE:Free E)
include hE
theorem p2_loop (a b:List Nat) (ha:∀ d ∈ a,d < B32) (hb:∀ d ∈ b,d < B32) (la:a.length < 2147483648) (lb:b.length ≤ a.length) (sw:Bool):∀ (k i c:Nat) (out:List Nat),a.length = i + k → out.length = a.length + 1 → c ≤ 1 →
    (∀ d ∈ out.take i,d < B32) → val (out.take i) + B32 ^ i * c = val (a.take i) + val (b.take i) →
    ∃ (r:List Nat) (c':Nat),run E GP a67l0 (p2 a b out i c sw) = some (.exit 0,{ vars:=[.isl (a.map limbA),.isl (b.map limbA),.isl [],.sl 0 0 1 0 (a.length + 1),.int .u32 c',.u,.u,.bool sw,.int .i64 a.length,.int .i64 a.length,.bool false,.u],heap:=[.arr 0 1 (r.map limbA)],rs:=false }) ∧
      r.length = a.length + 1 ∧ c' ≤ 1 ∧ (∀ d ∈ r.take a.length,d < B32) ∧ val (r.take a.length) + B32 ^ a.length * c' = val a + val b:=by
  intro k
  induction k with
  | zero =>
    intro i c out h1 h2 h3 h4 h5
    have hi:i = a.length:=by omega
    subst hi
    rw [List.take_length,List.take_of_length_le lb] at h5
    have k1:¬ (a.length:Int) < (a.length:Int):=by omega
    refine ⟨out,c,?_,h2,h3,h4,h5⟩
    rw [a67l0_run]
    simp (maxSteps:=1000000) only [si,simprocAttr,p2,a67b0,a67R,k1]
  | succ k ih =>
    intro i c out h1 h2 h3 h4 h5
    have da:=dig_lt ha i
    have db:=dig_lt hb i
    rw [p2_round hE a b ha hb la lb i c sw out h2 h3 (by omega)]
    have hm:(c + dig a i + dig b i) % B32 < B32:=Nat.mod_lt _ (by decide)
    refine ih (i + 1) _ _ (by omega) (by simp [h2]) (by simp only [B32] at da db ⊢; omega) (fun d hd=>?_) ?_
    · rw [take_set _ _ _ (by omega)] at hd
      rcases List.mem_append.1 hd with hd | hd
      · exact h4 d hd
      · simp at hd; subst hd; exact hm
    · have hlt:(out.take i).length = i:=by rw [List.length_take]; omega
      rw [take_set _ _ _ (by omega),val_append,hlt,take_dig,take_dig]
      simp only [val,Nat.mul_zero,Nat.add_zero]
      have hdm:=Nat.div_add_mod (c + dig a i + dig b i) B32
      generalize (c + dig a i + dig b i) / B32 = q at *
      generalize (c + dig a i + dig b i) % B32 = m at *
      have e:B32 ^ i * m + B32 ^ (i + 1) * q = B32 ^ i * c + B32 ^ i * dig a i + B32 ^ i * dig b i:=by
        rw [Nat.pow_succ,Nat.mul_assoc,← Nat.mul_add,← Nat.mul_add,← Nat.mul_add,Nat.add_comm m,hdm]
      omega
theorem m2_loop (a b:List Nat) (ha:∀ d ∈ a,d < B32) (hb:∀ d ∈ b,d < B32) (la:a.length < 2147483648) (lb:b.length ≤ a.length):∀ (k i w:Nat) (out:List Nat),a.length = i + k → out.length = a.length → w ≤ 1 →
    (∀ d ∈ out.take i,d < B32) → val (out.take i) + val (b.take i) = val (a.take i) + B32 ^ i * w →
    ∃ (r:List Nat) (w':Nat),run E GP a69l0 (m2 a b out i w) = some (.exit 0,{ vars:=[.isl (a.map limbA),.isl (b.map limbA),.isl [],.sl 0 0 1 0 a.length,.int .u32 w',.u,.u,.int .i64 a.length,.int .i64 a.length,.bool false,.u],heap:=[.arr 0 1 (r.map limbA)],rs:=false }) ∧
      r.length = a.length ∧ w' ≤ 1 ∧ (∀ d ∈ r,d < B32) ∧ val r + val b = val a + B32 ^ a.length * w':=by
  intro k
  induction k with
  | zero =>
    intro i w out h1 h2 h3 h4 h5
    have hi:i = a.length:=by omega
    subst hi
    have e0:out.take a.length = out:=List.take_of_length_le (by omega)
    rw [List.take_length,List.take_of_length_le lb,e0] at h5
    rw [e0] at h4
    have k1:¬ (a.length:Int) < (a.length:Int):=by omega
    refine ⟨out,w,?_,h2,h3,h4,h5⟩
    rw [a69l0_run]
    simp (maxSteps:=1000000) only [si,simprocAttr,m2,a69b0,a69R,k1]
  | succ k ih =>
    intro i w out h1 h2 h3 h4 h5
    have da:=dig_lt ha i
    have db:=dig_lt hb i
    rw [m2_round hE a b ha hb la lb i w out h2 h3 (by omega)]
    obtain ⟨m1,m2,m3⟩:=mdig_eq da db h3
    refine ih (i + 1) _ _ (by omega) (by simp [h2]) m2 (fun d hd=>?_) ?_
    · rw [take_set _ _ _ (by omega)] at hd
      rcases List.mem_append.1 hd with hd | hd
      · exact h4 d hd
      · simp at hd; subst hd; exact m1
    · have hlt:(out.take i).length = i:=by rw [List.length_take]; omega
      rw [take_set _ _ _ (by omega),val_append,hlt,take_dig,take_dig]
      simp only [val,Nat.mul_zero,Nat.add_zero]
      generalize mdig (dig a i) (dig b i) w = m at *
      generalize mbor (dig a i) (dig b i) w = q at *
      have e:B32 ^ i * dig a i + B32 ^ (i + 1) * q = B32 ^ i * m + B32 ^ i * dig b i + B32 ^ i * w:=by
        rw [Nat.pow_succ,Nat.mul_assoc,← Nat.mul_add,← Nat.mul_add,← Nat.mul_add,m3,Nat.add_assoc]
      omega
theorem i_minus (a b:List Nat) (ha:∀ d ∈ a,d < B32) (hb:∀ d ∈ b,d < B32) (la:a.length < 2147483648) (lb:b.length ≤ a.length) (hle:val b ≤ val a):∃ r:List Nat,(∀ d ∈ r,d < B32) ∧ val r = val a - val b ∧ r.length = a.length ∧
    ∀ H,call E GP 69 [.isl (a.map limbA),.isl (b.map limbA)] H = some (.isl (r.map limbA),H,false):=by
  obtain ⟨r,w',h1,h2,h3,h4,h5⟩:=m2_loop hE a b ha hb la lb a.length 0 0 (List.replicate a.length 0) (by omega) (by simp) (by omega) (fun d hd=>by simp at hd) (by simp [val])
  have hw:w' = 0:=by
    have:=val_lt r h4
    rw [h2] at this
    rcases Nat.eq_zero_or_pos w' with h | h
    · exact h
    · have:B32 ^ a.length * 1 ≤ B32 ^ a.length * w':=Nat.mul_le_mul_left _ h
      omega
  subst hw
  refine ⟨r,h4,by omega,h2,fun H=>?_⟩
  rw [call_fun (hE _ _ _ (by decide)) (f:=a69) rfl rfl]
  simp only [m2,Int.ofNat_zero,List.map_replicate,limbA] at h1
  have w3:((a.length:Nat):Int) ≤ maxLenA:=by unfold maxLenA; omega
  have w6:(r.map limbA).take a.length = r.map limbA:=List.take_of_length_le (by simp; omega)
  have hKr:a.length ≤ r.length:=by omega
  generalize hal:a.length = K at *
  simp (maxSteps:=1000000) only [si,simprocAttr,a69,a69R,hal,w3,h1,w6,hKr]
omit hE in
theorem set_last (r:List Nat) (n c:Nat) (h:r.length = n + 1):r.set n c = r.take n ++ [c]:=by
  have:=take_set r n c (by omega)
  rwa [List.take_of_length_le (by simp; omega)] at this
omit hE in
theorem copied (b:List Nat):List.take (b.length + 1) (List.map limbA b) ++ List.drop (b.length.min (b.length + 1)) (AV.int IntKind.u32 0 :: List.replicate b.length (AV.int IntKind.u32 0)) = List.map limbA b ++ [AV.int IntKind.u32 0]:=by
  rw [List.take_of_length_le (by simp),show b.length.min (b.length + 1) = b.length from by simp [Nat.min_def],← List.replicate_succ,List.drop_replicate,show b.length + 1 - b.length = 1 by omega]
  rfl
theorem i_plus (a b:List Nat) (ha:∀ d ∈ a,d < B32) (hb:∀ d ∈ b,d < B32) (la:a.length < 2147483647) (lb:b.length < 2147483647):∃ r:List Nat,(∀ d ∈ r,d < B32) ∧ val r = val a + val b ∧ r.length = max a.length b.length + 1 ∧
    ∀ (H:Heap),call E GP 67 [.isl (a.map limbA),.isl (b.map limbA)] H = some (.isl (r.map limbA),H,false):=by
  by_cases hlt:a.length < b.length
  · obtain ⟨r,c,h1,h2,h3,h4,h5⟩:=p2_loop hE b a hb ha (by omega) (by omega) true b.length 0 0 (b ++ [0]) (by omega) (by simp) (by omega) (fun d hd=>by simp at hd) (by simp [val])
    refine ⟨r.set b.length c,?_,?_,by simp; omega,fun H=>?_⟩
    · intro d hd
      rw [set_last _ _ _ h2] at hd
      rcases List.mem_append.1 hd with hd | hd
      · exact h4 d hd
      · simp at hd; subst hd; simp only [B32]; omega
    · rw [set_last _ _ _ h2,val_append,List.length_take,Nat.min_eq_left (by omega),val,val,Nat.mul_zero,Nat.add_zero,h5,Nat.add_comm]
    rw [call_fun (hE _ _ _ (by decide)) (f:=a67) rfl rfl]
    simp only [p2,Int.ofNat_zero,List.map_append,List.map_cons,List.map_nil,limbA] at h1
    have k1:(a.length:Int) < (b.length:Int):=by omega
    have w3:((b.length + 1:Nat):Int) ≤ maxLenA:=by unfold maxLenA; omega
    have w4:IntKind.i64.wrap ((b.length:Int) + 1) = ((b.length + 1:Nat):Int):=i64a (by omega)
    have w6:List.take (b.length + 1) (List.map limbA (r.set b.length c)) = List.map limbA (r.set b.length c):=List.take_of_length_le (by simp; omega)
    have hKr:b.length + 1 ≤ r.length:=by omega
    have hKs:b.length < r.length:=by omega
    have k2:(b.length:Int) < ((b.length + 1:Nat):Int):=by omega
    have g3:=limb_get (l:=r) (n:=b.length) (by omega)
    have hcp:=copied b
    have hf:(r.map limbA).set b.length (.int .u32 c) = (r.set b.length c).map limbA:=set_limb r b.length c
    simp (maxSteps:=1000000) only [si,simprocAttr,a67,a67R,k1,w3,w4,List.length_replicate,hcp,h1,g3,hKs,k2,limbA,List.length_set,w6,hKr,hf]
  · obtain ⟨r,c,h1,h2,h3,h4,h5⟩:=p2_loop hE a b ha hb (by omega) (by omega) false a.length 0 0 (a ++ [0]) (by omega) (by simp) (by omega) (fun d hd=>by simp at hd) (by simp [val])
    refine ⟨r.set a.length c,?_,?_,by simp; omega,fun H=>?_⟩
    · intro d hd
      rw [set_last _ _ _ h2] at hd
      rcases List.mem_append.1 hd with hd | hd
      · exact h4 d hd
      · simp at hd; subst hd; simp only [B32]; omega
    · rw [set_last _ _ _ h2,val_append,List.length_take,Nat.min_eq_left (by omega),val,val,Nat.mul_zero,Nat.add_zero,h5]
    rw [call_fun (hE _ _ _ (by decide)) (f:=a67) rfl rfl]
    simp only [p2,Int.ofNat_zero,List.map_append,List.map_cons,List.map_nil,limbA] at h1
    have k1:¬ (a.length:Int) < (b.length:Int):=by omega
    have w3:((a.length + 1:Nat):Int) ≤ maxLenA:=by unfold maxLenA; omega
    have w4:IntKind.i64.wrap ((a.length:Int) + 1) = ((a.length + 1:Nat):Int):=i64a (by omega)
    have w6:List.take (a.length + 1) (List.map limbA (r.set a.length c)) = List.map limbA (r.set a.length c):=List.take_of_length_le (by simp; omega)
    have hKr:a.length + 1 ≤ r.length:=by omega
    have hKs:a.length < r.length:=by omega
    have k2:(a.length:Int) < ((a.length + 1:Nat):Int):=by omega
    have g3:=limb_get (l:=r) (n:=a.length) (by omega)
    have hcp:=copied a
    have hf:(r.map limbA).set a.length (.int .u32 c) = (r.set a.length c).map limbA:=set_limb r a.length c
    simp (maxSteps:=1000000) only [si,simprocAttr,a67,a67R,k1,w3,w4,List.length_replicate,hcp,h1,g3,hKs,k2,limbA,List.length_set,w6,hKr,hf]
end
end Tor
namespace Tor
open Go
variable {E:CallF} (hE:Free E)
include hE
theorem i_norm_isl (l:List Nat) (neg:Bool) (H:Heap) (hl:∀ d ∈ l,d < B32) (hlen:l.length < 2147483648):call E GP 54 [.isl (l.map limbA),.bool neg] H = some (Z (ofL neg l),H,false):=by
  rw [call_fun (hE _ _ _ (by decide)) (f:=a54) rfl rfl]
  obtain ⟨x,y,hloop⟩:=norm_loop (E:=E) l neg (.agg [.bool false,.isl []]) (by simp [AV.under,AV.unders]) l.length .u (by simp [AV.under]) (Nat.le_refl _) hlen
  have hs:=stripN_le l l.length
  rw [Z_ofL neg l hl]
  have hs2:((stripN l l.length:Nat):Int) ≤ (l.length:Int):=by omega
  have hs3:decide (((stripN l l.length:Nat):Int) > 0) = decide (0 < stripN l l.length):=by simp
  have hm:(l.take (stripN l l.length)).length ≤ 4294967296:=by simp; omega
  have hmode:a54.mode = .con:=rfl
  cases neg <;>
  simp (maxSteps:=1000000) only [hmode,si,simprocAttr,a54,a54R,hloop,hs2,hs3,maxLenA,List.drop_zero,← List.map_take,hm]
theorem i_add (m n:Int) (H:Heap) (hm:(limbs m.natAbs).length < 2147483647) (hn:(limbs n.natAbs).length < 2147483647):call E GP 53 [Z m,Z n] H = some (Z (m + n),H,false):=by
  rw [call_fun (hE _ _ _ (by decide)) (f:=a53) rfl rfl]
  have Lm:=limbs_lt m.natAbs
  have Ln:=limbs_lt n.natAbs
  have Vm:=val_limbs m.natAbs
  have Vn:=val_limbs n.natAbs
  have hl:=fun H=>i_compare hE m.natAbs n.natAbs H (by omega) (by omega)
  by_cases hs:decide (m < 0) = decide (n < 0)
  · obtain ⟨r,r1,r2,r3,r4⟩:=i_plus hE _ _ Lm Ln (by omega) (by omega)
    have hmade:=fun H=>i_norm_isl hE r (decide (m < 0)) H r1 (by omega)
    have he:ofL (decide (m < 0)) r = m + n:=by
      unfold ofL; rw [r2,Vm,Vn]
      simp only [decide_eq_decide] at hs
      by_cases hm0:m < 0
      · rw [if_pos (by simpa using hm0)]; have:=hs.1 hm0; omega
      · rw [if_neg (by simpa using hm0)]; have:¬ n < 0:=fun h=>hm0 (hs.2 h); omega
    rw [he,hs] at hmade
    rw [show Z m = .agg [.bool (decide (m < 0)),.isl ((limbs m.natAbs).map limbA)] from rfl,show Z n = .agg [.bool (decide (n < 0)),.isl ((limbs n.natAbs).map limbA)] from rfl]
    simp (maxSteps:=1000000) only [si,simprocAttr,a53,a53R,hs,hmade,r4]
  · have hs2:(decide (m < 0) == decide (n < 0)) = false:=by simpa using hs
    by_cases hlt:m.natAbs < n.natAbs
    · obtain ⟨r,r1,r2,r3,r4⟩:=i_minus hE _ _ Ln Lm (by omega) (limbs_len_le (by omega)) (by omega)
      have hmade:=fun H=>i_norm_isl hE r (decide (n < 0)) H r1 (by omega)
      have he:ofL (decide (n < 0)) r = m + n:=by
        unfold ofL; rw [r2,Vm,Vn]
        simp only [decide_eq_decide] at hs
        by_cases hn0:n < 0
        · rw [if_pos (by simpa using hn0)]; have:¬ m < 0:=fun h=>hs ⟨fun _=>hn0,fun _=>h⟩; omega
        · rw [if_neg (by simpa using hn0)]; have:m < 0:=by
            by_cases hm0:m < 0
            · exact hm0
            · exact absurd ⟨fun h=>absurd h hm0,fun h=>absurd h hn0⟩ hs
          omega
      rw [he] at hmade
      have hlt':cmp3 (m.natAbs:Int) (n.natAbs:Int) < 0:=by unfold cmp3; rw [if_pos (by omega)]; decide
      rw [show Z m = .agg [.bool (decide (m < 0)),.isl ((limbs m.natAbs).map limbA)] from rfl,show Z n = .agg [.bool (decide (n < 0)),.isl ((limbs n.natAbs).map limbA)] from rfl]
      simp (maxSteps:=1000000) only [si,simprocAttr,a53,a53R,hs2,hl,hlt',r4,hmade]
    · obtain ⟨r,r1,r2,r3,r4⟩:=i_minus hE _ _ Lm Ln (by omega) (limbs_len_le (by omega)) (by omega)
      have hmade:=fun H=>i_norm_isl hE r (decide (m < 0)) H r1 (by omega)
      have he:ofL (decide (m < 0)) r = m + n:=by
        unfold ofL; rw [r2,Vm,Vn]
        simp only [decide_eq_decide] at hs
        by_cases hm0:m < 0
        · rw [if_pos (by simpa using hm0)]; have:¬ n < 0:=fun h=>hs ⟨fun _=>h,fun _=>hm0⟩; omega
        · rw [if_neg (by simpa using hm0)]; have:n < 0:=by
            by_cases hn0:n < 0
            · exact hn0
            · exact absurd ⟨fun h=>absurd h hm0,fun h=>absurd h hn0⟩ hs
          omega
      rw [he] at hmade
      have hlt':¬ cmp3 (m.natAbs:Int) (n.natAbs:Int) < 0:=by unfold cmp3; rw [if_neg (by omega)]; split <;> decide
      rw [show Z m = .agg [.bool (decide (m < 0)),.isl ((limbs m.natAbs).map limbA)] from rfl,show Z n = .agg [.bool (decide (n < 0)),.isl ((limbs n.natAbs).map limbA)] from rfl]
      simp (maxSteps:=1000000) only [si,simprocAttr,a53,a53R,hs2,hl,hlt',r4,hmade]
end Tor
namespace Tor
open Go
variable {E:CallF}
def zl (s:Bool) (a:List Nat):AV:=.agg [.bool s,.isl (a.map limbA)]
def x2 (sa sb:Bool) (a b out:List Nat) (i k c:Nat):St :=
  { vars:=[zl sa a,zl sb b,.sl 0 0 1 0 out.length,.int .i64 i,.int .u32 (dig a i),.int .u64 c,.u,.u,.isl (a.map limbA),.int .i64 a.length,.int .i64 i,.bool true,.isl (b.map limbA),.int .i64 b.length,.int .i64 k,.u,zl sa a,zl sb b,.agg [.bool false,.isl []]],heap:=[.arr 0 1 (out.map limbA)],rs:=false }
theorem fdiv32 (n:Nat):(n:Int).fdiv (2 ^ Nat.min 32 IntKind.u64.bits) = ((n / B32:Nat):Int):=by
  rw [show (2:Int) ^ Nat.min 32 IntKind.u64.bits = 4294967296 from rfl,Int.fdiv_eq_ediv_of_nonneg _ (by decide)]; rfl
theorem x2_round (sa sb:Bool) (a b:List Nat) (ha:∀ d ∈ a,d < B32) (hb:∀ d ∈ b,d < B32) (out:List Nat) (ho:∀ d ∈ out,d < B32) (la:a.length < 1073741824) (lb:b.length < 1073741824) (i k c:Nat) (hi:i < a.length) (hol:out.length = a.length + b.length)
    (hc:c < B32) (h:k < b.length) :
    run E GP a32l1 (x2 sa sb a b out i k c) = run E GP a32l1 (x2 sa sb a b (out.set (i + k) ((c + (dig a i * dig b k + out.getD (i + k) 0)) % B32)) i (k + 1) ((c + (dig a i * dig b k + out.getD (i + k) 0)) / B32)):=by
  have da:=dig_lt ha i
  have db:=dig_lt hb k
  have dd:=dig_lt ho (i + k)
  have hik:i + k < out.length:=by omega
  have ed:dig out (i + k) = out.getD (i + k) 0:=by unfold dig; rw [if_pos hik]
  rw [ed] at dd
  have hmul:dig a i * dig b k ≤ 4294967295 * 4294967295:=Nat.mul_le_mul (by simp only [B32] at da; omega) (by simp only [B32] at db; omega)
  simp only [B32] at da db dd hc
  have wk:IntKind.i64.wrap ((k:Int) + 1) = ((k + 1:Nat):Int):=i64a (by omega)
  have wik:IntKind.i64.wrap ((i:Int) + (k:Int)) = ((i + k:Nat):Int):=by rw [i64w (by omega)]; omega
  have g3:=limb_get hik
  have wo:=u64n (n:=out.getD (i + k) 0) (by omega)
  have hlen:((i + k:Nat):Int) < ((out.length:Nat):Int):=by omega
  have wq:=fdiv32 (c + (dig a i * dig b k + out.getD (i + k) 0))
  have wr:=u32n (c + (dig a i * dig b k + out.getD (i + k) 0))
  have g2:=limb_get h
  have e2:dig b k = b.getD k 0:=by unfold dig; rw [if_pos h]
  rw [← e2] at g2
  have k2:(k:Int) < (b.length:Int):=by omega
  have wa:=u64n (n:=dig a i) (by omega)
  have wb:=u64n (n:=dig b k) (by omega)
  have wm:IntKind.u64.wrap ((dig a i:Int) * (dig b k:Int)) = ((dig a i * dig b k:Nat):Int):=by
    rw [← Int.natCast_mul]; exact u64n (by omega)
  have ws:=u64a (x:=dig a i * dig b k) (y:=out.getD (i + k) 0) (by omega)
  have w1:=u64a (x:=c) (y:=dig a i * dig b k + out.getD (i + k) 0) (by omega)
  conv=>lhs; rw [a32l1_run]
  simp (maxSteps:=1000000) only [si,simprocAttr,x2,zl,a32b1,a32R,k2,wk,wik,g2,g3,limbA,wo,w1,hlen,wa,wb,wm,ws,wq,wr,List.map_set,List.length_set]
theorem x2_exit (sa sb:Bool) (a b out:List Nat) (i c:Nat) :
    run E GP a32l1 (x2 sa sb a b out i b.length c) = some (.exit 2,{ vars:=[zl sa a,zl sb b,.sl 0 0 1 0 out.length,.int .i64 i,.int .u32 (dig a i),.int .u64 c,.u,.u,.isl (a.map limbA),.int .i64 a.length,.int .i64 i,.bool true,.isl (b.map limbA),.int .i64 b.length,.int .i64 b.length,.bool false,zl sa a,zl sb b,.agg [.bool false,.isl []]],heap:=[.arr 0 1 (out.map limbA)],rs:=false }):=by
  have k2:¬ (b.length:Int) < (b.length:Int):=by omega
  rw [a32l1_run]
  simp (maxSteps:=1000000) only [si,simprocAttr,x2,zl,a32b1,a32R,k2]
theorem take_getD (l:List Nat) (w j:Nat) (h:j < w):(l.take w).getD j 0 = l.getD j 0:=by
  simp [List.getD,List.getElem?_take,h]
theorem x2_row (sa sb:Bool) (a b:List Nat) (ha:∀ d ∈ a,d < B32) (hb:∀ d ∈ b,d < B32) (la:a.length < 1073741824) (lb:b.length < 1073741824) (i:Nat) (hi:i < a.length) (out0:List Nat) :
    ∀ (n k c:Nat) (out:List Nat),b.length = k + n → out.length = a.length + b.length → (∀ d ∈ out,d < B32) → c < B32 →
    val (out.take (i + b.length)) + B32 ^ (i + k) * c = val (out0.take (i + b.length)) + B32 ^ i * (dig a i * val (b.take k)) →
    ∃ (out':List Nat) (c':Nat),run E GP a32l1 (x2 sa sb a b out i k c) = some (.exit 2,{ vars:=[zl sa a,zl sb b,.sl 0 0 1 0 out'.length,.int .i64 i,.int .u32 (dig a i),.int .u64 (c':Nat),.u,.u,.isl (a.map limbA),.int .i64 a.length,.int .i64 i,.bool true,.isl (b.map limbA),.int .i64 b.length,.int .i64 b.length,.bool false,zl sa a,zl sb b,.agg [.bool false,.isl []]],heap:=[.arr 0 1 (out'.map limbA)],rs:=false }) ∧
      out'.length = a.length + b.length ∧ (∀ d ∈ out',d < B32) ∧ c' < B32 ∧ val (out'.take (i + b.length)) + B32 ^ (i + b.length) * c' = val (out0.take (i + b.length)) + B32 ^ i * (dig a i * val b):=by
  intro n
  induction n with
  | zero =>
    intro k c out h1 h2 h3 h4 h5
    have hk:k = b.length:=by omega
    subst hk
    rw [List.take_length] at h5
    exact ⟨out,c,x2_exit sa sb a b out i c,h2,h3,h4,h5⟩
  | succ n ih =>
    intro k c out h1 h2 h3 h4 h5
    have hk:k < b.length:=by omega
    have da:=dig_lt ha i
    have db:=dig_lt hb k
    have dd:=dig_lt h3 (i + k)
    have ed:dig out (i + k) = out.getD (i + k) 0:=by unfold dig; rw [if_pos (by omega)]
    rw [ed] at dd
    have hmul:dig a i * dig b k ≤ 4294967295 * 4294967295:=Nat.mul_le_mul (by simp only [B32] at da; omega) (by simp only [B32] at db; omega)
    rw [x2_round sa sb a b ha hb out h3 la lb i k c hi h2 h4 hk]
    have hs:=val_set (out.take (i + b.length)) (i + k) ((c + (dig a i * dig b k + out.getD (i + k) 0)) % B32) (by rw [List.length_take]; omega)
    rw [take_getD _ _ _ (by omega),← List.take_set] at hs
    have hdm:=Nat.div_add_mod (c + (dig a i * dig b k + out.getD (i + k) 0)) B32
    have hq:(c + (dig a i * dig b k + out.getD (i + k) 0)) / B32 < B32:=by simp only [B32] at *; omega
    have hm:(c + (dig a i * dig b k + out.getD (i + k) 0)) % B32 < B32:=Nat.mod_lt _ (by decide)
    generalize (c + (dig a i * dig b k + out.getD (i + k) 0)) / B32 = q at *
    generalize (c + (dig a i * dig b k + out.getD (i + k) 0)) % B32 = m at *
    refine ih (k + 1) q (out.set (i + k) m) (by omega) (by simp [h2]) (fun d hd=>?_) hq ?_
    · rcases List.mem_or_eq_of_mem_set hd with hd | rfl
      · exact h3 d hd
      · exact hm
    · rw [take_dig,Nat.mul_add,Nat.mul_add,← Nat.add_assoc (val _),← h5]
      have e1:B32 ^ i * (dig a i * (B32 ^ k * dig b k)) = B32 ^ (i + k) * (dig a i * dig b k):=by
        rw [Nat.pow_add,Nat.mul_left_comm (dig a i),Nat.mul_assoc]
      have e2:B32 ^ (i + (k + 1)) * q + B32 ^ (i + k) * m = B32 ^ (i + k) * c + B32 ^ (i + k) * (dig a i * dig b k) + B32 ^ (i + k) * out.getD (i + k) 0:=by
        rw [← Nat.add_assoc,Nat.pow_succ,Nat.mul_assoc,← Nat.mul_add,hdm,Nat.mul_add,Nat.mul_add,Nat.add_assoc]
      rw [e1]
      omega
end Tor
namespace Tor
open Go
variable {E:CallF}
def y2 (sa sb:Bool) (a b out:List Nat) (i:Nat):St :=
  { vars:=[zl sa a,zl sb b,.sl 0 0 1 0 out.length,.u,.u,.u,.u,.u,.isl (a.map limbA),.int .i64 a.length,.int .i64 i,.u,.u,.u,.u,.u,zl sa a,zl sb b,.agg [.bool false,.isl []]],heap:=[.arr 0 1 (out.map limbA)],rs:=false }
theorem y2_rows (sa sb:Bool) (a b:List Nat) (ha:∀ d ∈ a,d < B32) (hb:∀ d ∈ b,d < B32) (la:a.length < 1073741824) (lb:b.length < 1073741824):∀ (n i:Nat) (out:List Nat),a.length = i + n → out.length = a.length + b.length → (∀ d ∈ out,d < B32) →
    val (out.take (i + b.length)) = val (a.take i) * val b →
    ∃ (out':List Nat),run E GP a32l0 (y2 sa sb a b out i) = some (.exit 0,{ vars:=[zl sa a,zl sb b,.sl 0 0 1 0 out'.length,.u,.u,.u,.u,.u,.isl (a.map limbA),.int .i64 a.length,.int .i64 a.length,.bool false,.u,.u,.u,.u,zl sa a,zl sb b,.agg [.bool false,.isl []]],heap:=[.arr 0 1 (out'.map limbA)],rs:=false }) ∧
      out'.length = a.length + b.length ∧ (∀ d ∈ out',d < B32) ∧ val out' = val a * val b:=by
  intro n
  induction n with
  | zero =>
    intro i out h1 h2 h3 h4
    have hi:i = a.length:=by omega
    subst hi
    rw [List.take_length,List.take_of_length_le (by omega)] at h4
    refine ⟨out,?_,h2,h3,h4⟩
    have k1:¬ (a.length:Int) < (a.length:Int):=by omega
    rw [a32l0_run]
    simp (maxSteps:=1000000) only [si,simprocAttr,y2,zl,a32b0,a32R,k1]
  | succ n ih =>
    intro i out h1 h2 h3 h4
    obtain ⟨out1,c,e1,e2,e3,e4,e5⟩:=x2_row (E:=E) sa sb a b ha hb la lb i (by omega) out b.length 0 0 out (by omega) h2 h3 (by decide) (by simp [val])
    have hw:(out1.set (i + b.length) c).take (i + 1 + b.length) = out1.take (i + b.length) ++ [c]:=by
      rw [show i + 1 + b.length = i + b.length + 1 by omega]
      exact take_set _ _ _ (by omega)
    have hv:val ((out1.set (i + b.length) c).take (i + 1 + b.length)) = val (a.take (i + 1)) * val b:=by
      rw [hw,val_append,List.length_take,Nat.min_eq_left (by omega),val,val,Nat.mul_zero,Nat.add_zero,e5,h4,take_dig,Nat.add_mul,Nat.mul_assoc]
    obtain ⟨out',f1,f2,f3,f4⟩:=ih (i + 1) (out1.set (i + b.length) c) (by omega) (by simp [e2]) (fun d hd=>by
      rcases List.mem_or_eq_of_mem_set hd with hd | rfl
      · exact e3 d hd
      · exact e4) hv
    refine ⟨out',?_,f2,f3,f4⟩
    rw [← f1]
    have hlt:(i:Int) < (a.length:Int):=by omega
    have wi:IntKind.i64.wrap ((i:Int) + 1) = ((i + 1:Nat):Int):=i64a (by omega)
    have wik:IntKind.i64.wrap ((i:Int) + (b.length:Int)) = ((i + b.length:Nat):Int):=by rw [i64w (by omega)]; omega
    have g1:=limb_get (l:=a) (n:=i) (by omega)
    have ed:dig a i = a.getD i 0:=by unfold dig; rw [if_pos (by omega)]
    rw [← ed] at g1
    have g3:=limb_get (l:=out1) (n:=i + b.length) (by omega)
    have k3:((i + b.length:Nat):Int) < ((out1.length:Nat):Int):=by omega
    have wc:=u32n c
    rw [Nat.mod_eq_of_lt e4] at wc
    conv=>lhs; rw [a32l0_run]
    simp only [x2,zl,Int.ofNat_zero] at e1
    simp (maxSteps:=1000000) only [si,simprocAttr,y2,zl,a32b0,a32R,hlt,g1,limbA,e1,wi,wik,g3,k3,wc,List.map_set,List.length_set]
variable (hE:Free E)
include hE
theorem i_mul (m n:Int) (H:Heap) (hm:(limbs m.natAbs).length < 1073741824) (hn:(limbs n.natAbs).length < 1073741824):call E GP 32 [Z m,Z n] H = some (Z (m * n),H,false):=by
  rw [call_fun (hE _ _ _ (by decide)) (f:=a32) rfl rfl]
  have Lm:=limbs_lt m.natAbs
  have Ln:=limbs_lt n.natAbs
  have Vm:=val_limbs m.natAbs
  have Vn:=val_limbs n.natAbs
  obtain ⟨out,f1,f2,f3,f4⟩:=y2_rows (E:=E) (decide (m < 0)) (decide (n < 0)) _ _ Lm Ln hm hn (limbs m.natAbs).length 0 (List.replicate ((limbs m.natAbs).length + (limbs n.natAbs).length) 0) (by omega) (by simp) (fun d hd=>by rw [List.eq_of_mem_replicate hd]; decide) (by rw [List.take_replicate,val_zeros]; simp [val])
  have hmade:=i_norm hE out (decide (m < 0) != decide (n < 0)) [.arr 0 1 (out.map limbA)] 0 0 1 0 out.length (by simp [sil,sim,List.take_of_length_le]) f3 (by omega)
  rw [ofL_mul m n out (by rw [f4,Vm,Vn])] at hmade
  have w1:IntKind.i64.wrap (((limbs m.natAbs).length:Int) + ((limbs n.natAbs).length:Int)) = (((limbs m.natAbs).length + (limbs n.natAbs).length:Nat):Int):=by rw [i64w (by omega)]; omega
  have w3:(((limbs m.natAbs).length + (limbs n.natAbs).length:Nat):Int) ≤ maxLenA:=by unfold maxLenA; omega
  have w4:((((limbs m.natAbs).length + (limbs n.natAbs).length:Nat):Int)).toNat = (limbs m.natAbs).length + (limbs n.natAbs).length:=by omega
  have w5:(0:Int) ≤ (((limbs m.natAbs).length + (limbs n.natAbs).length:Nat):Int):=by omega
  rw [show Z m = .agg [.bool (decide (m < 0)),.isl ((limbs m.natAbs).map limbA)] from rfl,show Z n = .agg [.bool (decide (n < 0)),.isl ((limbs n.natAbs).map limbA)] from rfl]
  simp only [y2,zl,List.length_replicate,Int.ofNat_zero,List.map_replicate,limbA] at f1
  generalize (limbs m.natAbs).length + (limbs n.natAbs).length = K at *
  simp (maxSteps:=1000000) only [si,simprocAttr,a32,a32R,w1,w3,w4,w5]
  simp (maxSteps:=1000000) only [si,simprocAttr,f1,hmade,a32R]
end Tor
namespace Tor
open Go
variable {E:CallF}
def fA (p:Int × Int):AV:=.agg [.int .i64 p.1,Z p.2]
def Sm (p:Int × Int):Prop:=(limbs p.2.natAbs).length < 1073741000
theorem fA_ref (p:Int × Int):(fA p).hasRef = false:=by simp [fA,AV.hasRef,AV.hasRefs,Z_ref]
theorem refs_fA:∀ l:List (Int × Int),AV.hasRefs (l.map fA) = false
  | []=>rfl
  | p :: r=>by simp only [List.map_cons,AV.hasRefs,fA_ref,refs_fA r,Bool.or_self]
theorem fA_get {l:List (Int × Int)} {i:Nat} (h:i < l.length):(l.map fA)[i]? = some (.agg [.int .i64 l[i].1,Z l[i].2]):=by
  simp [h,fA]
section
variable (hE:Free E)
include hE
theorem same_loop (l m:List (Int × Int)) (hl:∀ p ∈ l,Sm p) (hm:∀ p ∈ m,Sm p) (hlm:l.length = m.length) (hs:l.length < 2147483648):∀ k i,l.length = i + k →
    (l.drop i = m.drop i → run E GP a10l0 { vars:=[.isl (l.map fA),.isl (m.map fA),.bool false,.int .i64 (i:Nat),.bool false,.u,.u],heap:=[],rs:=false } =
      some (.exit 0,{ vars:=[.isl (l.map fA),.isl (m.map fA),.bool false,.int .i64 l.length,.bool false,.bool false,.u],heap:=[],rs:=false })) ∧
    (l.drop i ≠ m.drop i → ∃ j:Nat,run E GP a10l0 { vars:=[.isl (l.map fA),.isl (m.map fA),.bool false,.int .i64 (i:Nat),.bool false,.u,.u],heap:=[],rs:=false } =
      some (.ret,{ vars:=[.isl (l.map fA),.isl (m.map fA),.bool false,.int .i64 j,.bool false,.bool true,.bool true],heap:=[],rs:=false })):=by
  intro k
  induction k with
  | zero =>
    intro i h
    have hi:i = l.length:=by omega
    subst hi
    have k1:¬ (l.length:Int) < (l.length:Int):=by omega
    refine ⟨fun _=>?_,fun h=>absurd (by simp [hlm]) h⟩
    rw [a10l0_run]
    simp (maxSteps:=1000000) only [si,simprocAttr,a10b0,a10R,k1]
  | succ k ih =>
    intro i h
    have h1:i < l.length:=by omega
    have h2:i < m.length:=by omega
    have k1:(i:Int) < (l.length:Int):=by omega
    have g1:=fA_get h1
    have g2:=fA_get h2
    have wi:IntKind.i64.wrap ((i:Int) + 1) = ((i + 1:Nat):Int):=i64a (by omega)
    have d1:l.drop i = l[i] :: l.drop (i + 1):=List.drop_eq_getElem_cons h1
    have d2:m.drop i = m[i] :: m.drop (i + 1):=List.drop_eq_getElem_cons h2
    have s1:=hl _ (List.getElem_mem h1)
    have s2:=hm _ (List.getElem_mem h2)
    have hsame:=fun H=>r1_same hE l[i].2 m[i].2 H (by unfold Sm at s1; omega) (by unfold Sm at s2; omega)
    rw [d1,d2]
    obtain ⟨ih1,ih2⟩:=ih (i + 1) (by omega)
    by_cases e1:l[i].1 = m[i].1
    · by_cases e2:l[i].2 = m[i].2
      · have e:l[i] = m[i]:=Prod.ext e1 e2
        have hrun:run E GP a10l0 { vars:=[.isl (l.map fA),.isl (m.map fA),.bool false,.int .i64 (i:Nat),.bool false,.u,.u],heap:=[],rs:=false } = run E GP a10l0 { vars:=[.isl (l.map fA),.isl (m.map fA),.bool false,.int .i64 ((i + 1:Nat):Int),.bool false,.u,.u],heap:=[],rs:=false }:=by
          conv=>lhs; rw [a10l0_run]
          simp only [e1,e2,decide_true] at g1 hsame
          simp (maxSteps:=1000000) only [si,simprocAttr,a10b0,a10R,k1,g1,g2,wi,hsame]
        rw [hrun]
        refine ⟨fun hh=>ih1 (List.cons.inj hh).2,fun hh=>ih2 (fun h=>hh (by rw [e,h]))⟩
      · refine ⟨fun hh=>absurd (congrArg (·.2) (List.cons.inj hh).1) e2,fun _=>⟨i,?_⟩⟩
        rw [a10l0_run]
        simp only [e2,decide_false] at hsame
        simp only [e1] at g1
        simp (maxSteps:=1000000) only [si,simprocAttr,a10b0,a10R,k1,g1,g2,wi,hsame]
    · refine ⟨fun hh=>absurd (congrArg (·.1) (List.cons.inj hh).1) e1,fun _=>⟨i,?_⟩⟩
      rw [a10l0_run]
      simp (maxSteps:=1000000) only [si,simprocAttr,a10b0,a10R,k1,g1,g2,wi,e1]
theorem r26_same (l m:List (Int × Int)) (hl:∀ p ∈ l,Sm p) (hm:∀ p ∈ m,Sm p) (hs:l.length < 2147483648) (H:Heap) :
    call E GP 10 [.isl (l.map fA),.isl (m.map fA)] H = some (.bool (decide (l = m)),H,false):=by
  rw [call_fun (hE _ _ _ (by decide)) (f:=a10) rfl rfl]
  by_cases hlm:l.length = m.length
  · obtain ⟨h1,h2⟩:=same_loop hE l m hl hm hlm hs l.length 0 (by omega)
    simp only [List.drop_zero,Int.ofNat_zero] at h1 h2
    have hlm':(l.length:Int) = (m.length:Int):=by omega
    by_cases e:l = m
    · have hr:=h1 e
      simp only [e] at hr
      simp (maxSteps:=1000000) only [si,simprocAttr,a10,a10R,refs_fA,e,hr,ne_eq,not_true_eq_false,decide_true]
    · obtain ⟨j,hr⟩:=h2 e
      simp (maxSteps:=1000000) only [si,simprocAttr,a10,a10R,refs_fA,hr,hlm',e,ne_eq,not_true_eq_false,decide_false]
  · have hlm':(l.length:Int) ≠ (m.length:Int):=by omega
    have e:l ≠ m:=fun h=>hlm (by rw [h])
    simp (maxSteps:=1000000) only [si,simprocAttr,a10,a10R,refs_fA,hlm',e,decide_false]
end
end Tor
