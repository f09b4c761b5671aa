/-
  A part of the proof: an abstract machine for the program, its soundness, and what the functions compute (Mat5, Mat8, Mat9, Int7, Int8, Int9, Int10, Int11, Int12, Int13, Int14, Chn1, Chn2, Chn3, Chn4, Chn5, Chn9, Cx1, Cx3, Pl1, Srt, Law5, Cx8, Cx10, Fb1, Gd2, Sim, Ops).
  Conditions: none.
-/
import Derived.Test.YthcbpifkgolknaaDoorM03
import Derived.MapKept
import GoSem.Dispatch
set_option linter.unusedSectionVars false
set_option linter.unusedVariables false
set_option linter.unusedSimpArgs false
set_option linter.defProp false
namespace Tor
open Go
def swapL {α:Type} (d:α) (l:List α) (i j:Nat):List α:=(l.set i (l.getD j d)).set j (l.getD i d)
theorem swapL_len {α:Type} (d:α) (l:List α) (i j:Nat):(swapL d l i j).length = l.length:=by simp [swapL]
theorem swapL_get {α:Type} (d:α) (l:List α) (i j t:Nat) (hi:i < l.length) (hj:j < l.length):(swapL d l i j).getD t d = l.getD (if t = j then i else if t = i then j else t) d:=by
  unfold swapL
  by_cases h1:t = j
  · subst h1; rw [if_pos rfl,gets_self _ _ _ _ (by simpa using hj)]
  · rw [if_neg h1,gets_ne _ _ _ _ _ (fun e=>h1 e.symm)]
    by_cases h2:t = i
    · subst h2; rw [if_pos rfl,gets_self _ _ _ _ hi]
    · rw [if_neg h2,gets_ne _ _ _ _ _ (fun e=>h2 e.symm)]
theorem swapL_mem {α:Type} (d:α) {l:List α} {i j:Nat} (hi:i < l.length) (hj:j < l.length) {x:α} (h:x ∈ swapL d l i j):x ∈ l:=by
  unfold swapL at h
  have e:∀ t,t < l.length → l.getD t d ∈ l:=fun t ht=>by simp [List.getD,ht]
  rcases List.mem_or_eq_of_mem_set h with h | rfl
  · rcases List.mem_or_eq_of_mem_set h with h | rfl
    · exact h
    · exact e j hj
  · exact e i hi
theorem nodup_of_inj {l:List Nat} (h:∀ i j,i < l.length → j < l.length → l.getD i 0 = l.getD j 0 → i = j):l.Nodup:=by
  rw [List.Nodup,List.pairwise_iff_getElem]
  intro i j hi hj hij he
  have:=h i j hi hj (by simpa [List.getD,hi,hj] using he)
  omega
theorem swapL_nodup {l:List Nat} (hn:l.Nodup) {i j:Nat} (hi:i < l.length) (hj:j < l.length):(swapL 0 l i j).Nodup:=by
  refine nodup_of_inj fun a b ha hb he=>?_
  rw [swapL_len] at ha hb
  rw [swapL_get 0 l i j a hi hj,swapL_get 0 l i j b hi hj] at he
  have:=getD_inj hn (by split <;> (try split) <;> omega) (by split <;> (try split) <;> omega) he
  split at this <;> split at this <;> (try split at this) <;> (try split at this) <;> omega
theorem HMat.swap {H o g C rs A} (h:HMat H o g C rs A) {i j:Nat} (hi:i < rs.length) (hj:j < rs.length):HMat (H.set o (.arr g 1 (tops C (swapL 0 rs i j)))) o g C (swapL 0 rs i j) (swapL [] A i j):=by
  have ho:o < H.length:=(List.getElem?_eq_some_iff.1 h.top).1
  refine ⟨List.getElem?_set_self ho,fun t ht=>?_,by rw [swapL_len,swapL_len]; exact h.len,fun t ht=>?_,swapL_nodup h.nod hi hj,fun e=>h.off (swapL_mem 0 hi hj e)⟩
  · rw [swapL_len] at ht
    rw [swapL_get 0 rs i j t hi hj,swapL_get [] A i j t (by rw [h.len]; exact hi) (by rw [h.len]; exact hj)]
    have hlt:(if t = j then i else if t = i then j else t) < rs.length:=by split <;> (try split) <;> omega
    rw [List.getElem?_set_ne (fun e=>h.off (by rw [e]; exact getD_mem hlt))]
    exact h.row _ hlt
  · rw [swapL_len] at ht
    rw [swapL_get [] A i j t (by rw [h.len]; exact hi) (by rw [h.len]; exact hj)]
    exact h.wid _ (by split <;> (try split) <;> omega)
variable {E:CallF} (hE:Free E)
include hE
end Tor
namespace Tor
open Go
theorem fz_rowA (n:Nat) (H:Heap) (k:Nat):∀ r:List Int,(rowA r).map (fz n H (k + 2)) = rowA r
  | []=>rfl
  | x :: r=>by
    have:=fz_rowA n H k r
    simp only [rowA,List.map_cons,fz_Z] at this ⊢; rw [this]
theorem solids_rowA:∀ r:List Int,AV.solids (rowA r) = true
  | []=>rfl
  | x :: r=>by
    have:=solids_rowA r
    simp only [rowA,List.map_cons,AV.solids,Z_solid,Bool.true_and] at this ⊢; exact this
theorem refs_rowsI:∀ A:List (List Int),AV.hasRefs (rowsI A) = false
  | []=>rfl
  | x :: r=>by
    have:=refs_rowsI r
    simp only [rowsI,List.map_cons,AV.hasRefs,AV.hasRef,Bool.false_or] at this ⊢; exact this
theorem solids_rowsI:∀ A:List (List Int),AV.solids (rowsI A) = true
  | []=>rfl
  | x :: r=>by
    have:=solids_rowsI r
    simp only [rowsI,List.map_cons,AV.solids,AV.solid,refs_rowA,solids_rowA,Bool.not_false,Bool.true_and] at this ⊢; exact this
theorem MI_solid (R C A):(MI R C A).solid = true:=by simp [MI,AV.solid,AV.solids,refs_rowsI,solids_rowsI]
theorem MI_under (R C A n):(MI R C A).under n = true:=by simp [MI,AV.under,AV.unders]
theorem MI_ref (R C A):(MI R C A).hasRef = false:=by simp [MI,AV.hasRef,AV.hasRefs]
variable {E:CallF} (hE:Free E)
include hE
end Tor
namespace Tor
open Go
variable {E:CallF} (hE:Free E)
include hE
omit hE in
theorem fz_rowsI (n:Nat) (H:Heap) (k:Nat):∀ A:List (List Int),(rowsI A).map (fz n H (k + 3)) = rowsI A
  | []=>rfl
  | r :: A=>by
    have h1:=fz_rowsI n H k A
    have h2:=fz_rowA n H k r
    simp only [rowsI,List.map_cons] at h1 ⊢
    rw [h1]
    have:fz n H (k + 3) (.isl (rowA r)) = .isl (rowA r):=by
      rw [show k + 3 = (k + 2) + 1 from rfl,fz]
      all_goals simp
    rw [this]
end Tor
namespace Tor
open Go
variable {E:CallF} (hE:Free E)
include hE
theorem i_sign (n:Int) (H:Heap):call E GP 48 [Z n] H = some (.int .i64 n.sign,H,false):=by
  rw [call_fun (hE _ _ _ (by decide)) (f:=a48) rfl rfl]
  by_cases h0:limbs n.natAbs = []
  · have hn:n = 0:=by have:=limbs_nil.1 h0; omega
    subst hn
    simp (maxSteps:=1000000) only [si,simprocAttr,Z,h0,show limbs 0 = [] from rfl,a48,a48R,Int.sign_zero]
  · have hn:n ≠ 0:=fun e=>h0 (by subst e; rfl)
    have hlen:((limbs n.natAbs).length:Int) ≠ 0:=by simp; exact h0
    by_cases hneg:n < 0
    · simp (maxSteps:=1000000) only [si,simprocAttr,Z,a48,a48R,refs_limbs,hlen,hneg,Int.sign_eq_neg_one_of_neg hneg]
    · simp (maxSteps:=1000000) only [si,simprocAttr,Z,a48,a48R,refs_limbs,hlen,hneg,Int.sign_eq_one_of_pos (show 0 < n by omega)]
omit hE in
theorem norm_loop (l:List Nat) (b:Bool) (c:AV) (hc:c.under 0 = true):∀ (n:Nat) (x:AV),x.under 0 = true → n ≤ l.length → l.length < 2147483648 →
    ∃ x y,run E GP a54l0 { vars:=[.isl (l.map limbA),.bool b,.int .i64 n,.u,.u,c],heap:=[],rs:=false } = some (.exit 0,{ vars:=[.isl (l.map limbA),.bool b,.int .i64 (stripN l n:Nat),x,y,c],heap:=[],rs:=false }):=by
  intro n
  induction n with
  | zero =>
    intro x hx _ _
    refine ⟨.bool false,.u,?_⟩
    rw [a54l0_run]
    simp (maxSteps:=1000000) only [si,simprocAttr,stripN,a54b0,a54R,Int.ofNat_zero]
  | succ n ih =>
    intro x hx hn hl
    have hget:(l.map limbA)[n]? = some (limbA (l.getD n 0)):=by
      rw [List.getElem?_map,List.getElem?_eq_getElem (by omega)]; simp [List.getD,List.getElem?_eq_getElem (show n < l.length by omega)]
    have hw:IntKind.i64.wrap (((n + 1:Nat):Int) - 1) = (n:Int):=by rw [i64w (by omega)]; omega
    have hpos:((n + 1:Nat):Int) > 0:=by omega
    by_cases hz:l.getD n 0 = 0
    · have hz':((l.getD n 0:Nat):Int) = 0:=by omega
      obtain ⟨x',y',e⟩:=ih .u (by simp [AV.under]) (by omega) hl
      refine ⟨x',y',?_⟩
      rw [a54l0_run]
      simp (maxSteps:=1000000) only [si,simprocAttr,stripN,a54b0,a54R,hw,hpos,hget,limbA,hz',hz,hc]
      first | exact e | skip
    · have hz':((l.getD n 0:Nat):Int) ≠ 0:=by omega
      refine ⟨.bool true,.bool true,?_⟩
      rw [a54l0_run]
      simp (maxSteps:=1000000) only [si,simprocAttr,stripN,a54b0,a54R,hw,hpos,hget,limbA,hz',hz,hc]
theorem i_norm (l:List Nat) (neg:Bool) (H:Heap) (o g sz st n:Nat) (he:elems H (.sl o g sz st n) = some (l.map limbA)) (hl:∀ d ∈ l,d < B32) (hlen:l.length < 2147483648):call E GP 54 [.sl o g sz st n,.bool neg] H = some (Z (ofL neg l),H.set o .dead,false):=by
  rw [call_fun (hE _ _ _ (by decide)) (f:=a54) rfl rfl]
  obtain ⟨x,y,hloop⟩:=norm_loop (E:=E) l neg (.agg [.bool false,.isl []]) (by simp [AV.under,AV.unders]) l.length .u (by simp [AV.under]) (Nat.le_refl _) hlen
  have hs:=stripN_le l l.length
  rw [Z_ofL neg l hl]
  have hs2:((stripN l l.length:Nat):Int) ≤ (l.length:Int):=by omega
  have hs3:decide (((stripN l l.length:Nat):Int) > 0) = decide (0 < stripN l l.length):=by simp
  have hm:(l.take (stripN l l.length)).length ≤ 4294967296:=by simp; omega
  have hmode:a54.mode = .con:=rfl
  cases neg <;>
  simp (maxSteps:=1000000) only [he,hmode,si,simprocAttr,a54,a54R,hloop,hs2,hs3,maxLenA,List.drop_zero,← List.map_take,hm]
end Tor
namespace Tor
open Go
variable {E:CallF}
def cmp3 (x y:Int):Int:=if x < y then -1 else if x > y then 1 else 0
theorem cmp3_ne {x y:Int} (h:x ≠ y):cmp3 x y ≠ 0:=by
  unfold cmp3; split
  · decide
  · split
    · decide
    · omega
theorem diffAt_ne (a b:List Nat):∀ n j,diffAt a b n = some j → a.getD j 0 ≠ b.getD j 0
  | 0,j,h=>by simp [diffAt] at h
  | n + 1,j,h=>by
    simp only [diffAt] at h
    by_cases hz:a.getD n 0 = b.getD n 0
    · rw [if_pos hz] at h; exact diffAt_ne a b n j h
    · rw [if_neg hz] at h; cases h; exact hz
section
variable (hE:Free E)
include hE
theorem c_nan64 (x:Int) (H:Heap):call E GP 95 [.int .i64 x] H = some (.bool false,H,false):=by
  rw [call_fun (hE _ _ _ (by decide)) (f:=a95) rfl rfl]
  simp (maxSteps:=1000000) only [si,simprocAttr,a95,a95R,ne_eq,not_true_eq_false,decide_false]
theorem c_nan32 (x:Int) (H:Heap):call E GP 96 [.int .u32 x] H = some (.bool false,H,false):=by
  rw [call_fun (hE _ _ _ (by decide)) (f:=a96) rfl rfl]
  simp (maxSteps:=1000000) only [si,simprocAttr,a96,a96R,ne_eq,not_true_eq_false,decide_false]
theorem c_cmp64 (x y:Int) (H:Heap):call E GP 80 [.int .i64 x,.int .i64 y] H = some (.int .i64 (cmp3 x y),H,false):=by
  rw [call_fun (hE _ _ _ (by decide)) (f:=a80) rfl rfl]
  have n1:=c_nan64 hE x
  have n2:=c_nan64 hE y
  unfold cmp3
  by_cases h1:x < y
  · simp (maxSteps:=1000000) only [si,simprocAttr,a80,a80R,n1,n2,h1]
  · by_cases h2:x > y
    · simp (maxSteps:=1000000) only [si,simprocAttr,a80,a80R,n1,n2,h1,h2]
    · simp (maxSteps:=1000000) only [si,simprocAttr,a80,a80R,n1,n2,h1,h2]
theorem c_cmp32 (x y:Int) (H:Heap):call E GP 81 [.int .u32 x,.int .u32 y] H = some (.int .i64 (cmp3 x y),H,false):=by
  rw [call_fun (hE _ _ _ (by decide)) (f:=a81) rfl rfl]
  have n1:=c_nan32 hE x
  have n2:=c_nan32 hE y
  unfold cmp3
  by_cases h1:x < y
  · simp (maxSteps:=1000000) only [si,simprocAttr,a81,a81R,n1,n2,h1]
  · by_cases h2:x > y
    · simp (maxSteps:=1000000) only [si,simprocAttr,a81,a81R,n1,n2,h1,h2]
    · simp (maxSteps:=1000000) only [si,simprocAttr,a81,a81R,n1,n2,h1,h2]
theorem comp_loop (a b:List Nat) (hl:a.length < 2147483648):∀ n,n ≤ a.length → n ≤ b.length → ∀ (i:Int),i = (n:Int) - 1 →
    run E GP a68l0 { vars:=[.isl (a.map limbA),.isl (b.map limbA),.int .i64 0,.int .i64 0,.int .i64 i,.u,.bool false,.u,.u],heap:=[],rs:=false } =
      match diffAt a b n with
      | none=>some (.exit 0,{ vars:=[.isl (a.map limbA),.isl (b.map limbA),.int .i64 0,.int .i64 0,.int .i64 (-1),.u,.bool false,.bool false,.u],heap:=[],rs:=false })
      | some j=>some (.ret,{ vars:=[.isl (a.map limbA),.isl (b.map limbA),.int .i64 (cmp3 (a.getD j 0:Nat) (b.getD j 0:Nat)),.int .i64 0,.int .i64 j,.int .i64 (cmp3 (a.getD j 0:Nat) (b.getD j 0:Nat)),.bool false,.bool true,.bool true],heap:=[],rs:=false }):=by
  intro n
  induction n with
  | zero =>
    intro _ _ i hi
    have:i = -1:=by omega
    subst this
    rw [a68l0_run]
    simp (maxSteps:=1000000) only [si,simprocAttr,diffAt,a68b0,a68R]
  | succ n ih =>
    intro ha hb i hi
    have:i = (n:Int):=by omega
    subst this
    have hw:IntKind.i64.wrap ((n:Int) - 1) = (n:Int) - 1:=i64w (by omega)
    have h0:(n:Int) ≥ 0:=by omega
    have g1:=limb_get (show n < a.length by omega)
    have g2:=limb_get (show n < b.length by omega)
    have hc:=c_cmp32 hE (a.getD n 0:Nat) (b.getD n 0:Nat)
    rw [a68l0_run]
    by_cases hz:a.getD n 0 = b.getD n 0
    · have hc0:cmp3 (a.getD n 0:Nat) (b.getD n 0:Nat) = 0:=by unfold cmp3; rw [if_neg (by omega),if_neg (by omega)]
      rw [hc0] at hc
      simp only [hz] at hc
      simp (maxSteps:=1000000) only [si,simprocAttr,diffAt,a68b0,a68R,hw,h0,g1,g2,limbA,hz,hc]
      exact ih (by omega) (by omega) _ rfl
    · have hc0:cmp3 (a.getD n 0:Nat) (b.getD n 0:Nat) ≠ 0:=cmp3_ne (by omega)
      simp (maxSteps:=1000000) only [si,simprocAttr,diffAt,a68b0,a68R,hw,h0,g1,g2,limbA,hz,hc,hc0]
theorem i_compare (m n:Nat) (H:Heap) (hm:(limbs m).length < 2147483648) (hn:(limbs n).length < 2147483648) :
    call E GP 68 [.isl ((limbs m).map limbA),.isl ((limbs n).map limbA)] H = some (.int .i64 (cmp3 m n),H,false):=by
  rw [call_fun (hE _ _ _ (by decide)) (f:=a68) rfl rfl]
  have hc:=c_cmp64 hE ((limbs m).length:Nat) ((limbs n).length:Nat)
  by_cases hlen:(limbs m).length = (limbs n).length
  · have hc0:cmp3 ((limbs m).length:Nat) ((limbs n).length:Nat) = 0:=by unfold cmp3; rw [if_neg (by omega),if_neg (by omega)]
    rw [hc0] at hc
    simp only [hlen] at hc
    have hloop:=comp_loop hE (limbs m) (limbs n) hm (limbs m).length (Nat.le_refl _) (by omega) _ rfl
    have hd:=diffAt_val (limbs m) (limbs n) (limbs_lt m) (limbs_lt n) (limbs m).length (Nat.le_refl _) (by omega)
    have hw:IntKind.i64.wrap (((limbs m).length:Int) - 1) = ((limbs m).length:Int) - 1:=i64w (by omega)
    rw [hlen] at hw
    have e1:(limbs m).take (limbs m).length = limbs m:=List.take_length
    have e2:(limbs n).take (limbs m).length = limbs n:=by rw [hlen]; exact List.take_length
    rw [e1,e2,val_limbs,val_limbs] at hd
    cases hdd:diffAt (limbs m) (limbs n) (limbs m).length with
    | none =>
      rw [hdd] at hd hloop
      simp only at hd hloop
      have hcm:cmp3 (m:Int) (n:Int) = 0:=by unfold cmp3; rw [if_neg (by omega),if_neg (by omega)]
      rw [hlen] at hloop
      simp (maxSteps:=1000000) only [si,simprocAttr,a68,a68R,hlen,hc,hw,hloop,hcm]
    | some j =>
      rw [hdd] at hd hloop
      simp only at hd hloop
      have hcm:cmp3 ((limbs m).getD j 0:Nat) ((limbs n).getD j 0:Nat) = cmp3 (m:Int) (n:Int):=by
        have hne:=diffAt_ne _ _ _ _ hdd
        obtain ⟨h1,h2⟩:=hd
        unfold cmp3
        by_cases hlt:m < n
        · have:=h2.2 hlt
          rw [if_pos (by omega),if_pos (by omega)]
        · have:¬ (limbs m).getD j 0 < (limbs n).getD j 0:=fun h=>hlt (h2.1 h)
          rw [if_neg (by omega),if_pos (by omega),if_neg (by omega),if_pos (by omega)]
      rw [hlen] at hloop
      rw [hcm] at hloop
      simp (maxSteps:=1000000) only [si,simprocAttr,a68,a68R,hlen,hc,hw,hloop]
  · have hcm:cmp3 ((limbs m).length:Nat) ((limbs n).length:Nat) = cmp3 (m:Int) (n:Int):=by
      rcases Nat.lt_or_gt_of_ne hlen with h | h
      · have:=limbs_length_lt h
        unfold cmp3; rw [if_pos (by omega),if_pos (by omega)]
      · have:=limbs_length_lt h
        unfold cmp3; rw [if_neg (by omega),if_pos (by omega),if_neg (by omega),if_pos (by omega)]
    have hc0:cmp3 (m:Int) (n:Int) ≠ 0:=by
      rw [← hcm]; exact cmp3_ne (by omega)
    rw [hcm] at hc
    simp (maxSteps:=1000000) only [si,simprocAttr,a68,a68R,hc,hc0]
end
end Tor
namespace Tor
open Go
variable {E:CallF}
theorem u32v (v:BitVec 32):IntKind.u32.wrap (v.toNat:Int) = (v.toNat:Int):=by
  have:=v.isLt
  rw [u32n,Nat.mod_eq_of_lt (by simp only [B32]; omega)]
theorem ofv (v:BitVec 32):BitVec.ofInt 32 (v.toNat:Int) = v:=by
  rw [BitVec.ofInt_natCast]; simp
theorem not32 (v:BitVec 32):unAV .xor (.int .u32 v.toNat) = some (.int .u32 (~~~v).toNat):=by
  have e:unAV .xor (.int .u32 v.toNat) = some (.int .u32 (IntKind.u32.wrap ((BitVec.allOnes 32 ^^^ BitVec.ofInt 32 v.toNat).toNat:Nat))):=rfl
  rw [e,ofv,u32v,BitVec.allOnes_xor]
theorem and32 (u v:BitVec 32):IntKind.u32.wrap ((BitVec.ofInt IntKind.u32.bits (u.toNat:Int) &&& BitVec.ofInt IntKind.u32.bits (v.toNat:Int)).toNat:Nat) = ((u &&& v).toNat:Int):=by
  have e:(BitVec.ofInt IntKind.u32.bits (u.toNat:Int) &&& BitVec.ofInt IntKind.u32.bits (v.toNat:Int)).toNat = (BitVec.ofInt 32 u.toNat &&& BitVec.ofInt 32 v.toNat).toNat:=rfl
  rw [e,ofv,ofv,u32v]
theorem or32 (u v:BitVec 32):binInt .or .u32 u.toNat v.toNat = some (.int .u32 (u ||| v).toNat):=by
  have e:binInt .or .u32 u.toNat v.toNat = some (.int .u32 (IntKind.u32.wrap ((BitVec.ofInt 32 u.toNat ||| BitVec.ofInt 32 v.toNat).toNat:Nat))):=rfl
  rw [e,ofv,ofv,u32v]
theorem xor32 (u v:BitVec 32):binInt .xor .u32 u.toNat v.toNat = some (.int .u32 (u ^^^ v).toNat):=by
  have e:binInt .xor .u32 u.toNat v.toNat = some (.int .u32 (IntKind.u32.wrap ((BitVec.ofInt 32 u.toNat ^^^ BitVec.ofInt 32 v.toNat).toNat:Nat))):=rfl
  rw [e,ofv,ofv,u32v]
theorem top32 (v:BitVec 32):(v.toNat:Int).fdiv (2 ^ Nat.min 31 IntKind.u32.bits) = ((if v.msb then 1 else 0:Nat):Int):=by
  rw [show (2:Int) ^ Nat.min 31 IntKind.u32.bits = 2147483648 from rfl,Int.fdiv_eq_ediv_of_nonneg _ (by decide)]
  have h:=BitVec.msb_eq_decide v
  have hl:=v.isLt
  rw [h]
  simp only [decide_eq_true_eq]
  split <;> omega
section
variable (hE:Free E)
include hE
theorem c_add32 (x y c:Nat) (hx:x < B32) (hy:y < B32) (hc:c ≤ 1) (H:Heap):call E GP 79 [.int .u32 x,.int .u32 y,.int .u32 c] H = some (.tup [.int .u32 ((c + x + y) % B32:Nat),.int .u32 ((c + x + y) / B32:Nat)],H,false):=by
  rw [call_fun (hE _ _ _ (by decide)) (f:=a79) rfl rfl]
  simp only [B32] at hx hy
  have w1:=u64n (n:=x) (by omega)
  have w2:=u64n (n:=y) (by omega)
  have w3:=u64n (n:=c) (by omega)
  have w4:=u64a (x:=x) (y:=y) (by omega)
  have w5:=u64a (x:=x + y) (y:=c) (by omega)
  have w6:=u32n (x + y + c)
  have w7:=u32n ((x + y + c) / B32)
  rw [show c + x + y = x + y + c by omega]
  rw [Nat.mod_eq_of_lt (show (x + y + c) / B32 < B32 by simp only [B32]; omega)] at w7
  have w8:((x + y + c:Nat):Int).fdiv (2 ^ Nat.min 32 IntKind.u64.bits) = (((x + y + c) / B32:Nat):Int):=by
    rw [show (2:Int) ^ Nat.min 32 IntKind.u64.bits = 4294967296 from rfl,Int.fdiv_eq_ediv_of_nonneg _ (by decide)]; rfl
  simp (maxSteps:=1000000) only [si,simprocAttr,a79,a79R,w1,w2,w3,w4,w5,w6,w7,w8]
theorem c_sub32 (x y w:Nat) (hx:x < B32) (hy:y < B32) (hw:w ≤ 1) (H:Heap):call E GP 82 [.int .u32 x,.int .u32 y,.int .u32 w] H = some (.tup [.int .u32 (mdig x y w:Nat),.int .u32 (mbor x y w:Nat)],H,false):=by
  rw [call_fun (hE _ _ _ (by decide)) (f:=a82) rfl rfl]
  obtain ⟨X,rfl⟩:∃ X:BitVec 32,x = X.toNat:=⟨BitVec.ofNat 32 x,by simp only [B32] at hx; simp; omega⟩
  obtain ⟨Y,rfl⟩:∃ Y:BitVec 32,y = Y.toNat:=⟨BitVec.ofNat 32 y,by simp only [B32] at hy; simp; omega⟩
  obtain ⟨D,hD⟩:∃ D:BitVec 32,mdig X.toNat Y.toNat w = D.toNat:=⟨BitVec.ofNat 32 (mdig X.toNat Y.toNat w),by
    have:=(mdig_eq hx hy hw).1; simp only [B32] at this; simp; omega⟩
  have hd:IntKind.u32.wrap (IntKind.u32.wrap ((X.toNat:Int) - (Y.toNat:Int)) - (w:Int)) = (D.toNat:Int):=by
    rw [← hD,IntKind.wrap_u32,IntKind.wrap_u32]
    simp only [B32] at hx hy
    unfold mdig B32
    split <;> omega
  have hb:((if ((~~~X &&& Y) ||| (~~~(X ^^^ Y) &&& D)).msb then 1 else 0:Nat):Int) = (mbor X.toNat Y.toNat w:Nat):=by
    rw [BitVec.msb_or,BitVec.msb_and,BitVec.msb_and,BitVec.msb_not,BitVec.msb_not,BitVec.msb_xor]
    rw [BitVec.msb_eq_decide X,BitVec.msb_eq_decide Y,BitVec.msb_eq_decide D,← hD]
    simp only [B32] at hx hy
    unfold mdig mbor B32
    simp only [Nat.reduceSub,Nat.reducePow,Nat.reduceLT,decide_true,Bool.true_and]
    clear hd hD
    generalize X.toNat = x at *
    generalize Y.toNat = y at *
    by_cases h1:2147483648 ≤ x <;> by_cases h2:2147483648 ≤ y <;> by_cases h3:x < y + w <;>
      by_cases h4:2147483648 ≤ (if x < y + w then x + 4294967296 - (y + w) else x - (y + w)) <;>
      first
      | (exfalso; split at h4 <;> omega)
      | (simp only [h1,h2,h4,decide_true,decide_false]; simp only [h3,if_true,if_false]; rfl)
      | (simp [h1,h2,h3,h4])
  rw [hD]
  simp (maxSteps:=1000000) only [si,simprocAttr,a82,a82R,hd,not32,and32,or32,xor32,top32,hb]
end
end Tor
namespace Tor
open Go
variable {E:CallF}
theorem take_set (l:List Nat) (i d:Nat) (h:i < l.length):(l.set i d).take (i + 1) = l.take i ++ [d]:=by
  rw [List.take_add_one,List.take_set_of_le (Nat.le_refl _)]
  simp [h]
def p2 (a b out:List Nat) (i c:Nat) (sw:Bool):St :=
  { vars:=[.isl (a.map limbA),.isl (b.map limbA),.isl [],.sl 0 0 1 0 (a.length + 1),.int .u32 c,.u,.u,.bool sw,.int .i64 a.length,.int .i64 i,.u,.u],heap:=[.arr 0 1 (out.map limbA)],rs:=false }
section
variable (hE:Free E)
include hE
theorem p2_round (a b:List Nat) (ha:∀ d ∈ a,d < B32) (hb:∀ d ∈ b,d < B32) (la:a.length < 2147483648) (lb:b.length ≤ a.length) (i c:Nat) (sw:Bool) (out:List Nat) (ho:out.length = a.length + 1) (hc:c ≤ 1) (h1:i < a.length) :
    run E GP a67l0 (p2 a b out i c sw) = run E GP a67l0 (p2 a b (out.set i ((c + dig a i + dig b i) % B32)) (i + 1) ((c + dig a i + dig b i) / B32) sw):=by
  have da:=dig_lt ha i
  have db:=dig_lt hb i
  have w1:IntKind.i64.wrap ((i:Int) + 1) = ((i + 1:Nat):Int):=i64a (by omega)
  have g1:=limb_get h1
  have e1:dig a i = a.getD i 0:=by unfold dig; rw [if_pos h1]
  rw [← e1] at g1
  have k1:(i:Int) < (a.length:Int):=by omega
  have k0:(i:Int) < ((a.length + 1:Nat):Int):=by omega
  have k3:i < out.length:=by omega
  have g3:=limb_get k3
  have ca:=c_add32 hE (dig a i) (dig b i) c da db hc
  conv=>lhs; rw [a67l0_run]
  by_cases h2:i < b.length
  · have g2:=limb_get h2
    have e2:dig b i = b.getD i 0:=by unfold dig; rw [if_pos h2]
    rw [← e2] at g2
    have k2:(i:Int) < (b.length:Int):=by omega
    simp (maxSteps:=1000000) only [si,simprocAttr,p2,a67b0,a67R,limbA,w1,g1,g3,k1,k0,k3,g2,k2,ca,List.map_set,List.length_set,ho]
  · have e2:dig b i = 0:=by unfold dig; rw [if_neg h2]
    have k2:¬ (i:Int) < (b.length:Int):=by omega
    rw [e2] at ca
    rw [e2]
    simp only [Int.ofNat_zero] at ca
    simp (maxSteps:=1000000) only [si,simprocAttr,p2,a67b0,a67R,limbA,w1,g1,g3,k1,k0,k3,k2,ca,List.map_set,List.length_set,ho]
def m2 (a b out:List Nat) (i w:Nat):St :=
  { vars:=[.isl (a.map limbA),.isl (b.map limbA),.isl [],.sl 0 0 1 0 a.length,.int .u32 w,.u,.u,.int .i64 a.length,.int .i64 i,.u,.u],heap:=[.arr 0 1 (out.map limbA)],rs:=false }
theorem m2_round (a b:List Nat) (ha:∀ d ∈ a,d < B32) (hb:∀ d ∈ b,d < B32) (la:a.length < 2147483648) (lb:b.length ≤ a.length) (i w:Nat) (out:List Nat) (ho:out.length = a.length) (hw:w ≤ 1) (h1:i < a.length) :
    run E GP a69l0 (m2 a b out i w) = run E GP a69l0 (m2 a b (out.set i (mdig (dig a i) (dig b i) w)) (i + 1) (mbor (dig a i) (dig b i) w)):=by
  have da:=dig_lt ha i
  have db:=dig_lt hb i
  have w1:IntKind.i64.wrap ((i:Int) + 1) = ((i + 1:Nat):Int):=i64a (by omega)
  have g1:=limb_get h1
  have e1:dig a i = a.getD i 0:=by unfold dig; rw [if_pos h1]
  rw [← e1] at g1
  have k1:(i:Int) < (a.length:Int):=by omega
  have k3:i < out.length:=by omega
  have g3:=limb_get k3
  have ca:=c_sub32 hE (dig a i) (dig b i) w da db hw
  conv=>lhs; rw [a69l0_run]
  by_cases h2:i < b.length
  · have g2:=limb_get h2
    have e2:dig b i = b.getD i 0:=by unfold dig; rw [if_pos h2]
    rw [← e2] at g2
    have k2:(i:Int) < (b.length:Int):=by omega
    simp (maxSteps:=1000000) only [si,simprocAttr,m2,a69b0,a69R,limbA,w1,g1,g3,k1,k3,g2,k2,ca,List.map_set,List.length_set,ho]
  · have e2:dig b i = 0:=by unfold dig; rw [if_neg h2]
    have k2:¬ (i:Int) < (b.length:Int):=by omega
    rw [e2] at ca
    rw [e2]
    simp only [Int.ofNat_zero] at ca
    simp (maxSteps:=1000000) only [si,simprocAttr,m2,a69b0,a69R,limbA,w1,g1,g3,k1,k3,k2,ca,List.map_set,List.length_set,ho]
end
end Tor
namespace Tor
open Go
variable {E:CallF}
section
variable (hE:Free E)
include hE
theorem p2_loop (a b:List Nat) (ha:∀ d ∈ a,d < B32) (hb:∀ d ∈ b,d < B32) (la:a.length < 2147483648) (lb:b.length ≤ a.length) (sw:Bool):∀ (k i c:Nat) (out:List Nat),a.length = i + k → out.length = a.length + 1 → c ≤ 1 →
    (∀ d ∈ out.take i,d < B32) → val (out.take i) + B32 ^ i * c = val (a.take i) + val (b.take i) →
    ∃ (r:List Nat) (c':Nat),run E GP a67l0 (p2 a b out i c sw) = some (.exit 0,{ vars:=[.isl (a.map limbA),.isl (b.map limbA),.isl [],.sl 0 0 1 0 (a.length + 1),.int .u32 c',.u,.u,.bool sw,.int .i64 a.length,.int .i64 a.length,.bool false,.u],heap:=[.arr 0 1 (r.map limbA)],rs:=false }) ∧
      r.length = a.length + 1 ∧ c' ≤ 1 ∧ (∀ d ∈ r.take a.length,d < B32) ∧ val (r.take a.length) + B32 ^ a.length * c' = val a + val b:=by
  intro k
  induction k with
  | zero =>
    intro i c out h1 h2 h3 h4 h5
    have hi:i = a.length:=by omega
    subst hi
    rw [List.take_length,List.take_of_length_le lb] at h5
    have k1:¬ (a.length:Int) < (a.length:Int):=by omega
    refine ⟨out,c,?_,h2,h3,h4,h5⟩
    rw [a67l0_run]
    simp (maxSteps:=1000000) only [si,simprocAttr,p2,a67b0,a67R,k1]
  | succ k ih =>
    intro i c out h1 h2 h3 h4 h5
    have da:=dig_lt ha i
    have db:=dig_lt hb i
    rw [p2_round hE a b ha hb la lb i c sw out h2 h3 (by omega)]
    have hm:(c + dig a i + dig b i) % B32 < B32:=Nat.mod_lt _ (by decide)
    refine ih (i + 1) _ _ (by omega) (by simp [h2]) (by simp only [B32] at da db ⊢; omega) (fun d hd=>?_) ?_
    · rw [take_set _ _ _ (by omega)] at hd
      rcases List.mem_append.1 hd with hd | hd
      · exact h4 d hd
      · simp at hd; subst hd; exact hm
    · have hlt:(out.take i).length = i:=by rw [List.length_take]; omega
      rw [take_set _ _ _ (by omega),val_append,hlt,take_dig,take_dig]
      simp only [val,Nat.mul_zero,Nat.add_zero]
      have hdm:=Nat.div_add_mod (c + dig a i + dig b i) B32
      generalize (c + dig a i + dig b i) / B32 = q at *
      generalize (c + dig a i + dig b i) % B32 = m at *
      have e:B32 ^ i * m + B32 ^ (i + 1) * q = B32 ^ i * c + B32 ^ i * dig a i + B32 ^ i * dig b i:=by
        rw [Nat.pow_succ,Nat.mul_assoc,← Nat.mul_add,← Nat.mul_add,← Nat.mul_add,Nat.add_comm m,hdm]
      omega
theorem m2_loop (a b:List Nat) (ha:∀ d ∈ a,d < B32) (hb:∀ d ∈ b,d < B32) (la:a.length < 2147483648) (lb:b.length ≤ a.length):∀ (k i w:Nat) (out:List Nat),a.length = i + k → out.length = a.length → w ≤ 1 →
    (∀ d ∈ out.take i,d < B32) → val (out.take i) + val (b.take i) = val (a.take i) + B32 ^ i * w →
    ∃ (r:List Nat) (w':Nat),run E GP a69l0 (m2 a b out i w) = some (.exit 0,{ vars:=[.isl (a.map limbA),.isl (b.map limbA),.isl [],.sl 0 0 1 0 a.length,.int .u32 w',.u,.u,.int .i64 a.length,.int .i64 a.length,.bool false,.u],heap:=[.arr 0 1 (r.map limbA)],rs:=false }) ∧
      r.length = a.length ∧ w' ≤ 1 ∧ (∀ d ∈ r,d < B32) ∧ val r + val b = val a + B32 ^ a.length * w':=by
  intro k
  induction k with
  | zero =>
    intro i w out h1 h2 h3 h4 h5
    have hi:i = a.length:=by omega
    subst hi
    have e0:out.take a.length = out:=List.take_of_length_le (by omega)
    rw [List.take_length,List.take_of_length_le lb,e0] at h5
    rw [e0] at h4
    have k1:¬ (a.length:Int) < (a.length:Int):=by omega
    refine ⟨out,w,?_,h2,h3,h4,h5⟩
    rw [a69l0_run]
    simp (maxSteps:=1000000) only [si,simprocAttr,m2,a69b0,a69R,k1]
  | succ k ih =>
    intro i w out h1 h2 h3 h4 h5
    have da:=dig_lt ha i
    have db:=dig_lt hb i
    rw [m2_round hE a b ha hb la lb i w out h2 h3 (by omega)]
    obtain ⟨m1,m2,m3⟩:=mdig_eq da db h3
    refine ih (i + 1) _ _ (by omega) (by simp [h2]) m2 (fun d hd=>?_) ?_
    · rw [take_set _ _ _ (by omega)] at hd
      rcases List.mem_append.1 hd with hd | hd
      · exact h4 d hd
      · simp at hd; subst hd; exact m1
    · have hlt:(out.take i).length = i:=by rw [List.length_take]; omega
      rw [take_set _ _ _ (by omega),val_append,hlt,take_dig,take_dig]
      simp only [val,Nat.mul_zero,Nat.add_zero]
      generalize mdig (dig a i) (dig b i) w = m at *
      generalize mbor (dig a i) (dig b i) w = q at *
      have e:B32 ^ i * dig a i + B32 ^ (i + 1) * q = B32 ^ i * m + B32 ^ i * dig b i + B32 ^ i * w:=by
        rw [Nat.pow_succ,Nat.mul_assoc,← Nat.mul_add,← Nat.mul_add,← Nat.mul_add,m3,Nat.add_assoc]
      omega
theorem i_minus (a b:List Nat) (ha:∀ d ∈ a,d < B32) (hb:∀ d ∈ b,d < B32) (la:a.length < 2147483648) (lb:b.length ≤ a.length) (hle:val b ≤ val a):∃ r:List Nat,(∀ d ∈ r,d < B32) ∧ val r = val a - val b ∧ r.length = a.length ∧
    ∀ H,call E GP 69 [.isl (a.map limbA),.isl (b.map limbA)] H = some (.isl (r.map limbA),H,false):=by
  obtain ⟨r,w',h1,h2,h3,h4,h5⟩:=m2_loop hE a b ha hb la lb a.length 0 0 (List.replicate a.length 0) (by omega) (by simp) (by omega) (fun d hd=>by simp at hd) (by simp [val])
  have hw:w' = 0:=by
    have:=val_lt r h4
    rw [h2] at this
    rcases Nat.eq_zero_or_pos w' with h | h
    · exact h
    · have:B32 ^ a.length * 1 ≤ B32 ^ a.length * w':=Nat.mul_le_mul_left _ h
      omega
  subst hw
  refine ⟨r,h4,by omega,h2,fun H=>?_⟩
  rw [call_fun (hE _ _ _ (by decide)) (f:=a69) rfl rfl]
  simp only [m2,Int.ofNat_zero,List.map_replicate,limbA] at h1
  have w3:((a.length:Nat):Int) ≤ maxLenA:=by unfold maxLenA; omega
  have w6:(r.map limbA).take a.length = r.map limbA:=List.take_of_length_le (by simp; omega)
  have hKr:a.length ≤ r.length:=by omega
  generalize hal:a.length = K at *
  simp (maxSteps:=1000000) only [si,simprocAttr,a69,a69R,hal,w3,h1,w6,hKr]
omit hE in
theorem set_last (r:List Nat) (n c:Nat) (h:r.length = n + 1):r.set n c = r.take n ++ [c]:=by
  have:=take_set r n c (by omega)
  rwa [List.take_of_length_le (by simp; omega)] at this
omit hE in
theorem copied (b:List Nat):List.take (b.length + 1) (List.map limbA b) ++ List.drop (b.length.min (b.length + 1)) (AV.int IntKind.u32 0 :: List.replicate b.length (AV.int IntKind.u32 0)) = List.map limbA b ++ [AV.int IntKind.u32 0]:=by
  rw [List.take_of_length_le (by simp),show b.length.min (b.length + 1) = b.length from by simp [Nat.min_def],← List.replicate_succ,List.drop_replicate,show b.length + 1 - b.length = 1 by omega]
  rfl
theorem i_plus (a b:List Nat) (ha:∀ d ∈ a,d < B32) (hb:∀ d ∈ b,d < B32) (la:a.length < 2147483647) (lb:b.length < 2147483647):∃ r:List Nat,(∀ d ∈ r,d < B32) ∧ val r = val a + val b ∧ r.length = max a.length b.length + 1 ∧
    ∀ (H:Heap),call E GP 67 [.isl (a.map limbA),.isl (b.map limbA)] H = some (.isl (r.map limbA),H,false):=by
  by_cases hlt:a.length < b.length
  · obtain ⟨r,c,h1,h2,h3,h4,h5⟩:=p2_loop hE b a hb ha (by omega) (by omega) true b.length 0 0 (b ++ [0]) (by omega) (by simp) (by omega) (fun d hd=>by simp at hd) (by simp [val])
    refine ⟨r.set b.length c,?_,?_,by simp; omega,fun H=>?_⟩
    · intro d hd
      rw [set_last _ _ _ h2] at hd
      rcases List.mem_append.1 hd with hd | hd
      · exact h4 d hd
      · simp at hd; subst hd; simp only [B32]; omega
    · rw [set_last _ _ _ h2,val_append,List.length_take,Nat.min_eq_left (by omega),val,val,Nat.mul_zero,Nat.add_zero,h5,Nat.add_comm]
    rw [call_fun (hE _ _ _ (by decide)) (f:=a67) rfl rfl]
    simp only [p2,Int.ofNat_zero,List.map_append,List.map_cons,List.map_nil,limbA] at h1
    have k1:(a.length:Int) < (b.length:Int):=by omega
    have w3:((b.length + 1:Nat):Int) ≤ maxLenA:=by unfold maxLenA; omega
    have w4:IntKind.i64.wrap ((b.length:Int) + 1) = ((b.length + 1:Nat):Int):=i64a (by omega)
    have w6:List.take (b.length + 1) (List.map limbA (r.set b.length c)) = List.map limbA (r.set b.length c):=List.take_of_length_le (by simp; omega)
    have hKr:b.length + 1 ≤ r.length:=by omega
    have hKs:b.length < r.length:=by omega
    have k2:(b.length:Int) < ((b.length + 1:Nat):Int):=by omega
    have g3:=limb_get (l:=r) (n:=b.length) (by omega)
    have hcp:=copied b
    have hf:(r.map limbA).set b.length (.int .u32 c) = (r.set b.length c).map limbA:=set_limb r b.length c
    simp (maxSteps:=1000000) only [si,simprocAttr,a67,a67R,k1,w3,w4,List.length_replicate,hcp,h1,g3,hKs,k2,limbA,List.length_set,w6,hKr,hf]
  · obtain ⟨r,c,h1,h2,h3,h4,h5⟩:=p2_loop hE a b ha hb (by omega) (by omega) false a.length 0 0 (a ++ [0]) (by omega) (by simp) (by omega) (fun d hd=>by simp at hd) (by simp [val])
    refine ⟨r.set a.length c,?_,?_,by simp; omega,fun H=>?_⟩
    · intro d hd
      rw [set_last _ _ _ h2] at hd
      rcases List.mem_append.1 hd with hd | hd
      · exact h4 d hd
      · simp at hd; subst hd; simp only [B32]; omega
    · rw [set_last _ _ _ h2,val_append,List.length_take,Nat.min_eq_left (by omega),val,val,Nat.mul_zero,Nat.add_zero,h5]
    rw [call_fun (hE _ _ _ (by decide)) (f:=a67) rfl rfl]
    simp only [p2,Int.ofNat_zero,List.map_append,List.map_cons,List.map_nil,limbA] at h1
    have k1:¬ (a.length:Int) < (b.length:Int):=by omega
    have w3:((a.length + 1:Nat):Int) ≤ maxLenA:=by unfold maxLenA; omega
    have w4:IntKind.i64.wrap ((a.length:Int) + 1) = ((a.length + 1:Nat):Int):=i64a (by omega)
    have w6:List.take (a.length + 1) (List.map limbA (r.set a.length c)) = List.map limbA (r.set a.length c):=List.take_of_length_le (by simp; omega)
    have hKr:a.length + 1 ≤ r.length:=by omega
    have hKs:a.length < r.length:=by omega
    have k2:(a.length:Int) < ((a.length + 1:Nat):Int):=by omega
    have g3:=limb_get (l:=r) (n:=a.length) (by omega)
    have hcp:=copied a
    have hf:(r.map limbA).set a.length (.int .u32 c) = (r.set a.length c).map limbA:=set_limb r a.length c
    simp (maxSteps:=1000000) only [si,simprocAttr,a67,a67R,k1,w3,w4,List.length_replicate,hcp,h1,g3,hKs,k2,limbA,List.length_set,w6,hKr,hf]
end
end Tor
namespace Tor
open Go
variable {E:CallF} (hE:Free E)
include hE
theorem i_norm_isl (l:List Nat) (neg:Bool) (H:Heap) (hl:∀ d ∈ l,d < B32) (hlen:l.length < 2147483648):call E GP 54 [.isl (l.map limbA),.bool neg] H = some (Z (ofL neg l),H,false):=by
  rw [call_fun (hE _ _ _ (by decide)) (f:=a54) rfl rfl]
  obtain ⟨x,y,hloop⟩:=norm_loop (E:=E) l neg (.agg [.bool false,.isl []]) (by simp [AV.under,AV.unders]) l.length .u (by simp [AV.under]) (Nat.le_refl _) hlen
  have hs:=stripN_le l l.length
  rw [Z_ofL neg l hl]
  have hs2:((stripN l l.length:Nat):Int) ≤ (l.length:Int):=by omega
  have hs3:decide (((stripN l l.length:Nat):Int) > 0) = decide (0 < stripN l l.length):=by simp
  have hm:(l.take (stripN l l.length)).length ≤ 4294967296:=by simp; omega
  have hmode:a54.mode = .con:=rfl
  cases neg <;>
  simp (maxSteps:=1000000) only [hmode,si,simprocAttr,a54,a54R,hloop,hs2,hs3,maxLenA,List.drop_zero,← List.map_take,hm]
theorem i_add (m n:Int) (H:Heap) (hm:(limbs m.natAbs).length < 2147483647) (hn:(limbs n.natAbs).length < 2147483647):call E GP 53 [Z m,Z n] H = some (Z (m + n),H,false):=by
  rw [call_fun (hE _ _ _ (by decide)) (f:=a53) rfl rfl]
  have Lm:=limbs_lt m.natAbs
  have Ln:=limbs_lt n.natAbs
  have Vm:=val_limbs m.natAbs
  have Vn:=val_limbs n.natAbs
  have hl:=fun H=>i_compare hE m.natAbs n.natAbs H (by omega) (by omega)
  by_cases hs:decide (m < 0) = decide (n < 0)
  · obtain ⟨r,r1,r2,r3,r4⟩:=i_plus hE _ _ Lm Ln (by omega) (by omega)
    have hmade:=fun H=>i_norm_isl hE r (decide (m < 0)) H r1 (by omega)
    have he:ofL (decide (m < 0)) r = m + n:=by
      unfold ofL; rw [r2,Vm,Vn]
      simp only [decide_eq_decide] at hs
      by_cases hm0:m < 0
      · rw [if_pos (by simpa using hm0)]; have:=hs.1 hm0; omega
      · rw [if_neg (by simpa using hm0)]; have:¬ n < 0:=fun h=>hm0 (hs.2 h); omega
    rw [he,hs] at hmade
    rw [show Z m = .agg [.bool (decide (m < 0)),.isl ((limbs m.natAbs).map limbA)] from rfl,show Z n = .agg [.bool (decide (n < 0)),.isl ((limbs n.natAbs).map limbA)] from rfl]
    simp (maxSteps:=1000000) only [si,simprocAttr,a53,a53R,hs,hmade,r4]
  · have hs2:(decide (m < 0) == decide (n < 0)) = false:=by simpa using hs
    by_cases hlt:m.natAbs < n.natAbs
    · obtain ⟨r,r1,r2,r3,r4⟩:=i_minus hE _ _ Ln Lm (by omega) (limbs_len_le (by omega)) (by omega)
      have hmade:=fun H=>i_norm_isl hE r (decide (n < 0)) H r1 (by omega)
      have he:ofL (decide (n < 0)) r = m + n:=by
        unfold ofL; rw [r2,Vm,Vn]
        simp only [decide_eq_decide] at hs
        by_cases hn0:n < 0
        · rw [if_pos (by simpa using hn0)]; have:¬ m < 0:=fun h=>hs ⟨fun _=>hn0,fun _=>h⟩; omega
        · rw [if_neg (by simpa using hn0)]; have:m < 0:=by
            by_cases hm0:m < 0
            · exact hm0
            · exact absurd ⟨fun h=>absurd h hm0,fun h=>absurd h hn0⟩ hs
          omega
      rw [he] at hmade
      have hlt':cmp3 (m.natAbs:Int) (n.natAbs:Int) < 0:=by unfold cmp3; rw [if_pos (by omega)]; decide
      rw [show Z m = .agg [.bool (decide (m < 0)),.isl ((limbs m.natAbs).map limbA)] from rfl,show Z n = .agg [.bool (decide (n < 0)),.isl ((limbs n.natAbs).map limbA)] from rfl]
      simp (maxSteps:=1000000) only [si,simprocAttr,a53,a53R,hs2,hl,hlt',r4,hmade]
    · obtain ⟨r,r1,r2,r3,r4⟩:=i_minus hE _ _ Lm Ln (by omega) (limbs_len_le (by omega)) (by omega)
      have hmade:=fun H=>i_norm_isl hE r (decide (m < 0)) H r1 (by omega)
      have he:ofL (decide (m < 0)) r = m + n:=by
        unfold ofL; rw [r2,Vm,Vn]
        simp only [decide_eq_decide] at hs
        by_cases hm0:m < 0
        · rw [if_pos (by simpa using hm0)]; have:¬ n < 0:=fun h=>hs ⟨fun _=>h,fun _=>hm0⟩; omega
        · rw [if_neg (by simpa using hm0)]; have:n < 0:=by
            by_cases hn0:n < 0
            · exact hn0
            · exact absurd ⟨fun h=>absurd h hm0,fun h=>absurd h hn0⟩ hs
          omega
      rw [he] at hmade
      have hlt':¬ cmp3 (m.natAbs:Int) (n.natAbs:Int) < 0:=by unfold cmp3; rw [if_neg (by omega)]; split <;> decide
      rw [show Z m = .agg [.bool (decide (m < 0)),.isl ((limbs m.natAbs).map limbA)] from rfl,show Z n = .agg [.bool (decide (n < 0)),.isl ((limbs n.natAbs).map limbA)] from rfl]
      simp (maxSteps:=1000000) only [si,simprocAttr,a53,a53R,hs2,hl,hlt',r4,hmade]
end Tor
namespace Tor
open Go
variable {E:CallF}
def zl (s:Bool) (a:List Nat):AV:=.agg [.bool s,.isl (a.map limbA)]
def x2 (sa sb:Bool) (a b out:List Nat) (i k c:Nat):St :=
  { vars:=[zl sa a,zl sb b,.sl 0 0 1 0 out.length,.int .i64 i,.int .u32 (dig a i),.int .u64 c,.u,.u,.isl (a.map limbA),.int .i64 a.length,.int .i64 i,.bool true,.isl (b.map limbA),.int .i64 b.length,.int .i64 k,.u,zl sa a,zl sb b,.agg [.bool false,.isl []]],heap:=[.arr 0 1 (out.map limbA)],rs:=false }
theorem fdiv32 (n:Nat):(n:Int).fdiv (2 ^ Nat.min 32 IntKind.u64.bits) = ((n / B32:Nat):Int):=by
  rw [show (2:Int) ^ Nat.min 32 IntKind.u64.bits = 4294967296 from rfl,Int.fdiv_eq_ediv_of_nonneg _ (by decide)]; rfl
theorem x2_round (sa sb:Bool) (a b:List Nat) (ha:∀ d ∈ a,d < B32) (hb:∀ d ∈ b,d < B32) (out:List Nat) (ho:∀ d ∈ out,d < B32) (la:a.length < 1073741824) (lb:b.length < 1073741824) (i k c:Nat) (hi:i < a.length) (hol:out.length = a.length + b.length)
    (hc:c < B32) (h:k < b.length) :
    run E GP a32l1 (x2 sa sb a b out i k c) = run E GP a32l1 (x2 sa sb a b (out.set (i + k) ((c + (dig a i * dig b k + out.getD (i + k) 0)) % B32)) i (k + 1) ((c + (dig a i * dig b k + out.getD (i + k) 0)) / B32)):=by
  have da:=dig_lt ha i
  have db:=dig_lt hb k
  have dd:=dig_lt ho (i + k)
  have hik:i + k < out.length:=by omega
  have ed:dig out (i + k) = out.getD (i + k) 0:=by unfold dig; rw [if_pos hik]
  rw [ed] at dd
  have hmul:dig a i * dig b k ≤ 4294967295 * 4294967295:=Nat.mul_le_mul (by simp only [B32] at da; omega) (by simp only [B32] at db; omega)
  simp only [B32] at da db dd hc
  have wk:IntKind.i64.wrap ((k:Int) + 1) = ((k + 1:Nat):Int):=i64a (by omega)
  have wik:IntKind.i64.wrap ((i:Int) + (k:Int)) = ((i + k:Nat):Int):=by rw [i64w (by omega)]; omega
  have g3:=limb_get hik
  have wo:=u64n (n:=out.getD (i + k) 0) (by omega)
  have hlen:((i + k:Nat):Int) < ((out.length:Nat):Int):=by omega
  have wq:=fdiv32 (c + (dig a i * dig b k + out.getD (i + k) 0))
  have wr:=u32n (c + (dig a i * dig b k + out.getD (i + k) 0))
  have g2:=limb_get h
  have e2:dig b k = b.getD k 0:=by unfold dig; rw [if_pos h]
  rw [← e2] at g2
  have k2:(k:Int) < (b.length:Int):=by omega
  have wa:=u64n (n:=dig a i) (by omega)
  have wb:=u64n (n:=dig b k) (by omega)
  have wm:IntKind.u64.wrap ((dig a i:Int) * (dig b k:Int)) = ((dig a i * dig b k:Nat):Int):=by
    rw [← Int.natCast_mul]; exact u64n (by omega)
  have ws:=u64a (x:=dig a i * dig b k) (y:=out.getD (i + k) 0) (by omega)
  have w1:=u64a (x:=c) (y:=dig a i * dig b k + out.getD (i + k) 0) (by omega)
  conv=>lhs; rw [a32l1_run]
  simp (maxSteps:=1000000) only [si,simprocAttr,x2,zl,a32b1,a32R,k2,wk,wik,g2,g3,limbA,wo,w1,hlen,wa,wb,wm,ws,wq,wr,List.map_set,List.length_set]
theorem x2_exit (sa sb:Bool) (a b out:List Nat) (i c:Nat) :
    run E GP a32l1 (x2 sa sb a b out i b.length c) = some (.exit 2,{ vars:=[zl sa a,zl sb b,.sl 0 0 1 0 out.length,.int .i64 i,.int .u32 (dig a i),.int .u64 c,.u,.u,.isl (a.map limbA),.int .i64 a.length,.int .i64 i,.bool true,.isl (b.map limbA),.int .i64 b.length,.int .i64 b.length,.bool false,zl sa a,zl sb b,.agg [.bool false,.isl []]],heap:=[.arr 0 1 (out.map limbA)],rs:=false }):=by
  have k2:¬ (b.length:Int) < (b.length:Int):=by omega
  rw [a32l1_run]
  simp (maxSteps:=1000000) only [si,simprocAttr,x2,zl,a32b1,a32R,k2]
theorem take_getD (l:List Nat) (w j:Nat) (h:j < w):(l.take w).getD j 0 = l.getD j 0:=by
  simp [List.getD,List.getElem?_take,h]
theorem x2_row (sa sb:Bool) (a b:List Nat) (ha:∀ d ∈ a,d < B32) (hb:∀ d ∈ b,d < B32) (la:a.length < 1073741824) (lb:b.length < 1073741824) (i:Nat) (hi:i < a.length) (out0:List Nat) :
    ∀ (n k c:Nat) (out:List Nat),b.length = k + n → out.length = a.length + b.length → (∀ d ∈ out,d < B32) → c < B32 →
    val (out.take (i + b.length)) + B32 ^ (i + k) * c = val (out0.take (i + b.length)) + B32 ^ i * (dig a i * val (b.take k)) →
    ∃ (out':List Nat) (c':Nat),run E GP a32l1 (x2 sa sb a b out i k c) = some (.exit 2,{ vars:=[zl sa a,zl sb b,.sl 0 0 1 0 out'.length,.int .i64 i,.int .u32 (dig a i),.int .u64 (c':Nat),.u,.u,.isl (a.map limbA),.int .i64 a.length,.int .i64 i,.bool true,.isl (b.map limbA),.int .i64 b.length,.int .i64 b.length,.bool false,zl sa a,zl sb b,.agg [.bool false,.isl []]],heap:=[.arr 0 1 (out'.map limbA)],rs:=false }) ∧
      out'.length = a.length + b.length ∧ (∀ d ∈ out',d < B32) ∧ c' < B32 ∧ val (out'.take (i + b.length)) + B32 ^ (i + b.length) * c' = val (out0.take (i + b.length)) + B32 ^ i * (dig a i * val b):=by
  intro n
  induction n with
  | zero =>
    intro k c out h1 h2 h3 h4 h5
    have hk:k = b.length:=by omega
    subst hk
    rw [List.take_length] at h5
    exact ⟨out,c,x2_exit sa sb a b out i c,h2,h3,h4,h5⟩
  | succ n ih =>
    intro k c out h1 h2 h3 h4 h5
    have hk:k < b.length:=by omega
    have da:=dig_lt ha i
    have db:=dig_lt hb k
    have dd:=dig_lt h3 (i + k)
    have ed:dig out (i + k) = out.getD (i + k) 0:=by unfold dig; rw [if_pos (by omega)]
    rw [ed] at dd
    have hmul:dig a i * dig b k ≤ 4294967295 * 4294967295:=Nat.mul_le_mul (by simp only [B32] at da; omega) (by simp only [B32] at db; omega)
    rw [x2_round sa sb a b ha hb out h3 la lb i k c hi h2 h4 hk]
    have hs:=val_set (out.take (i + b.length)) (i + k) ((c + (dig a i * dig b k + out.getD (i + k) 0)) % B32) (by rw [List.length_take]; omega)
    rw [take_getD _ _ _ (by omega),← List.take_set] at hs
    have hdm:=Nat.div_add_mod (c + (dig a i * dig b k + out.getD (i + k) 0)) B32
    have hq:(c + (dig a i * dig b k + out.getD (i + k) 0)) / B32 < B32:=by simp only [B32] at *; omega
    have hm:(c + (dig a i * dig b k + out.getD (i + k) 0)) % B32 < B32:=Nat.mod_lt _ (by decide)
    generalize (c + (dig a i * dig b k + out.getD (i + k) 0)) / B32 = q at *
    generalize (c + (dig a i * dig b k + out.getD (i + k) 0)) % B32 = m at *
    refine ih (k + 1) q (out.set (i + k) m) (by omega) (by simp [h2]) (fun d hd=>?_) hq ?_
    · rcases List.mem_or_eq_of_mem_set hd with hd | rfl
      · exact h3 d hd
      · exact hm
    · rw [take_dig,Nat.mul_add,Nat.mul_add,← Nat.add_assoc (val _),← h5]
      have e1:B32 ^ i * (dig a i * (B32 ^ k * dig b k)) = B32 ^ (i + k) * (dig a i * dig b k):=by
        rw [Nat.pow_add,Nat.mul_left_comm (dig a i),Nat.mul_assoc]
      have e2:B32 ^ (i + (k + 1)) * q + B32 ^ (i + k) * m = B32 ^ (i + k) * c + B32 ^ (i + k) * (dig a i * dig b k) + B32 ^ (i + k) * out.getD (i + k) 0:=by
        rw [← Nat.add_assoc,Nat.pow_succ,Nat.mul_assoc,← Nat.mul_add,hdm,Nat.mul_add,Nat.mul_add,Nat.add_assoc]
      rw [e1]
      omega
end Tor
namespace Tor
open Go
variable {E:CallF}
def y2 (sa sb:Bool) (a b out:List Nat) (i:Nat):St :=
  { vars:=[zl sa a,zl sb b,.sl 0 0 1 0 out.length,.u,.u,.u,.u,.u,.isl (a.map limbA),.int .i64 a.length,.int .i64 i,.u,.u,.u,.u,.u,zl sa a,zl sb b,.agg [.bool false,.isl []]],heap:=[.arr 0 1 (out.map limbA)],rs:=false }
theorem y2_rows (sa sb:Bool) (a b:List Nat) (ha:∀ d ∈ a,d < B32) (hb:∀ d ∈ b,d < B32) (la:a.length < 1073741824) (lb:b.length < 1073741824):∀ (n i:Nat) (out:List Nat),a.length = i + n → out.length = a.length + b.length → (∀ d ∈ out,d < B32) →
    val (out.take (i + b.length)) = val (a.take i) * val b →
    ∃ (out':List Nat),run E GP a32l0 (y2 sa sb a b out i) = some (.exit 0,{ vars:=[zl sa a,zl sb b,.sl 0 0 1 0 out'.length,.u,.u,.u,.u,.u,.isl (a.map limbA),.int .i64 a.length,.int .i64 a.length,.bool false,.u,.u,.u,.u,zl sa a,zl sb b,.agg [.bool false,.isl []]],heap:=[.arr 0 1 (out'.map limbA)],rs:=false }) ∧
      out'.length = a.length + b.length ∧ (∀ d ∈ out',d < B32) ∧ val out' = val a * val b:=by
  intro n
  induction n with
  | zero =>
    intro i out h1 h2 h3 h4
    have hi:i = a.length:=by omega
    subst hi
    rw [List.take_length,List.take_of_length_le (by omega)] at h4
    refine ⟨out,?_,h2,h3,h4⟩
    have k1:¬ (a.length:Int) < (a.length:Int):=by omega
    rw [a32l0_run]
    simp (maxSteps:=1000000) only [si,simprocAttr,y2,zl,a32b0,a32R,k1]
  | succ n ih =>
    intro i out h1 h2 h3 h4
    obtain ⟨out1,c,e1,e2,e3,e4,e5⟩:=x2_row (E:=E) sa sb a b ha hb la lb i (by omega) out b.length 0 0 out (by omega) h2 h3 (by decide) (by simp [val])
    have hw:(out1.set (i + b.length) c).take (i + 1 + b.length) = out1.take (i + b.length) ++ [c]:=by
      rw [show i + 1 + b.length = i + b.length + 1 by omega]
      exact take_set _ _ _ (by omega)
    have hv:val ((out1.set (i + b.length) c).take (i + 1 + b.length)) = val (a.take (i + 1)) * val b:=by
      rw [hw,val_append,List.length_take,Nat.min_eq_left (by omega),val,val,Nat.mul_zero,Nat.add_zero,e5,h4,take_dig,Nat.add_mul,Nat.mul_assoc]
    obtain ⟨out',f1,f2,f3,f4⟩:=ih (i + 1) (out1.set (i + b.length) c) (by omega) (by simp [e2]) (fun d hd=>by
      rcases List.mem_or_eq_of_mem_set hd with hd | rfl
      · exact e3 d hd
      · exact e4) hv
    refine ⟨out',?_,f2,f3,f4⟩
    rw [← f1]
    have hlt:(i:Int) < (a.length:Int):=by omega
    have wi:IntKind.i64.wrap ((i:Int) + 1) = ((i + 1:Nat):Int):=i64a (by omega)
    have wik:IntKind.i64.wrap ((i:Int) + (b.length:Int)) = ((i + b.length:Nat):Int):=by rw [i64w (by omega)]; omega
    have g1:=limb_get (l:=a) (n:=i) (by omega)
    have ed:dig a i = a.getD i 0:=by unfold dig; rw [if_pos (by omega)]
    rw [← ed] at g1
    have g3:=limb_get (l:=out1) (n:=i + b.length) (by omega)
    have k3:((i + b.length:Nat):Int) < ((out1.length:Nat):Int):=by omega
    have wc:=u32n c
    rw [Nat.mod_eq_of_lt e4] at wc
    conv=>lhs; rw [a32l0_run]
    simp only [x2,zl,Int.ofNat_zero] at e1
    simp (maxSteps:=1000000) only [si,simprocAttr,y2,zl,a32b0,a32R,hlt,g1,limbA,e1,wi,wik,g3,k3,wc,List.map_set,List.length_set]
variable (hE:Free E)
include hE
theorem i_mul (m n:Int) (H:Heap) (hm:(limbs m.natAbs).length < 1073741824) (hn:(limbs n.natAbs).length < 1073741824):call E GP 32 [Z m,Z n] H = some (Z (m * n),H,false):=by
  rw [call_fun (hE _ _ _ (by decide)) (f:=a32) rfl rfl]
  have Lm:=limbs_lt m.natAbs
  have Ln:=limbs_lt n.natAbs
  have Vm:=val_limbs m.natAbs
  have Vn:=val_limbs n.natAbs
  obtain ⟨out,f1,f2,f3,f4⟩:=y2_rows (E:=E) (decide (m < 0)) (decide (n < 0)) _ _ Lm Ln hm hn (limbs m.natAbs).length 0 (List.replicate ((limbs m.natAbs).length + (limbs n.natAbs).length) 0) (by omega) (by simp) (fun d hd=>by rw [List.eq_of_mem_replicate hd]; decide) (by rw [List.take_replicate,val_zeros]; simp [val])
  have hmade:=i_norm hE out (decide (m < 0) != decide (n < 0)) [.arr 0 1 (out.map limbA)] 0 0 1 0 out.length (by simp [sil,sim,List.take_of_length_le]) f3 (by omega)
  rw [ofL_mul m n out (by rw [f4,Vm,Vn])] at hmade
  have w1:IntKind.i64.wrap (((limbs m.natAbs).length:Int) + ((limbs n.natAbs).length:Int)) = (((limbs m.natAbs).length + (limbs n.natAbs).length:Nat):Int):=by rw [i64w (by omega)]; omega
  have w3:(((limbs m.natAbs).length + (limbs n.natAbs).length:Nat):Int) ≤ maxLenA:=by unfold maxLenA; omega
  have w4:((((limbs m.natAbs).length + (limbs n.natAbs).length:Nat):Int)).toNat = (limbs m.natAbs).length + (limbs n.natAbs).length:=by omega
  have w5:(0:Int) ≤ (((limbs m.natAbs).length + (limbs n.natAbs).length:Nat):Int):=by omega
  rw [show Z m = .agg [.bool (decide (m < 0)),.isl ((limbs m.natAbs).map limbA)] from rfl,show Z n = .agg [.bool (decide (n < 0)),.isl ((limbs n.natAbs).map limbA)] from rfl]
  simp only [y2,zl,List.length_replicate,Int.ofNat_zero,List.map_replicate,limbA] at f1
  generalize (limbs m.natAbs).length + (limbs n.natAbs).length = K at *
  simp (maxSteps:=1000000) only [si,simprocAttr,a32,a32R,w1,w3,w4,w5]
  simp (maxSteps:=1000000) only [si,simprocAttr,f1,hmade,a32R]
end Tor
namespace Tor
open Go
variable {E:CallF}
def fA (p:Int × Int):AV:=.agg [.int .i64 p.1,Z p.2]
theorem fA_ref (p:Int × Int):(fA p).hasRef = false:=by simp [fA,AV.hasRef,AV.hasRefs,Z_ref]
theorem refs_fA:∀ l:List (Int × Int),AV.hasRefs (l.map fA) = false
  | []=>rfl
  | p :: r=>by simp only [List.map_cons,AV.hasRefs,fA_ref,refs_fA r,Bool.or_self]
section
variable (hE:Free E)
include hE
end
end Tor
namespace Tor
open Go
variable {E:CallF}
def insR (f:Int × Int):Bool → List (Int × Int) → List (Int × Int)
  | d,[]=>if d then [] else [f]
  | d,x :: r=>if d = false ∧ x.1 > f.1 then f :: x :: insR f true r
    else if d = false ∧ x.1 = f.1 then (if x.2 + f.2 ≠ 0 then (f.1,x.2 + f.2) :: insR f true r else insR f true r)
    else x :: insR f d r
theorem fz_fA (n:Nat) (H:Heap) (k:Nat) (p:Int × Int):fz n H (k + 3) (fA p) = fA p:=by simp only [fA,fz,List.map_cons,List.map_nil,fz_Z]
theorem solid_fA (p:Int × Int):(fA p).solid = true:=by simp [fA,AV.solid,AV.solids,Z_solid,AV.hasRef,AV.hasRefs,Z_ref]
theorem solids_fA:∀ l:List (Int × Int),AV.solids (l.map fA) = true
  | []=>rfl
  | p :: r=>by simp only [List.map_cons,AV.solids,solid_fA,fA_ref,solids_fA r]; rfl
section
variable (hE:Free E)
include hE
def insert26 (l:List (Int × Int)) (f:Int × Int):List (Int × Int):=insR f (decide (f.2 = 0)) l
end
end Tor
namespace Tor
open Go
variable {E:CallF}
def Bd (N:Nat) (l:List (Int × Int)):Prop:=∀ p ∈ l,p.2.natAbs ≤ N
section
variable (hE:Free E)
include hE
end
end Tor
namespace Tor
open Go
variable {E:CallF} (hE:Free E)
include hE
def add26 (a l:List (Int × Int)) (c:Int):List (Int × Int):=l.foldl (fun a p=>insert26 a (p.1,c * p.2)) a
end Tor
namespace Tor
open Go
variable {E:CallF} (hE:Free E)
include hE
def okAt (l:List (Int × Int)) (i:Nat):Bool:=decide ((l.getD i (0,0)).2.sign ≠ 0) && (decide (i = 0) || decide ((l.getD (i - 1) (0,0)).1 < (l.getD i (0,0)).1))
def valid26 (l:List (Int × Int)):Bool:=(List.range l.length).all (okAt l)
end Tor
namespace Tor
open Go
variable {E:CallF}
def iA (n:Int):AV:=.int .i64 n
end Tor
namespace Tor
open Go
structure Cel where
  id:Int
  dim:Int
  b:List (Int × Int)
def cA (x:Cel):AV:=.agg [.int .i64 x.id,.int .i64 x.dim,.isl (x.b.map fA)]
def zC:Cel:=⟨0,0,[]⟩
theorem cA_ref (x:Cel):(cA x).hasRef = false:=by simp [cA,AV.hasRef,AV.hasRefs]
theorem fz_cA (n:Nat) (H:Heap) (k:Nat) (x:Cel):fz n H (k + 6) (cA x) = cA x:=by
  unfold cA
  rw [show k + 6 = (k + 5) + 1 from rfl,fz]
  simp only [List.map_cons,List.map_nil]
  rw [show k + 5 = (k + 4) + 1 from rfl,fz,fz,fz]
  all_goals simp
variable {E:CallF} (hE:Free E)
include hE
end Tor
namespace Tor
open Go
variable {E:CallF} (hE:Free E)
include hE
def dst (c:List Cel) (x:List (Int × Int)) (d:Int) (m:Bool) (i:Nat) (c7 c8 c9 c10 c12:AV):St :=
  { vars:=[.isl (c.map cA),.isl (x.map fA),.int .i64 0,.int .i64 0,.int .i64 d,.bool m,.int .i64 i,c7,c8,c9,c10,.u,c12],heap:=[],rs:=false }
end Tor
namespace Tor
def Canon:Option Int → List (Int × Int) → Prop
  | _,[]=>True
  | b,(j,x) :: r=>(∀ m,b = some m → m < j) ∧ x ≠ 0 ∧ Canon (some j) r
end Tor
namespace Tor
open Go
def in64 (n:Int):Bool:=decide (-9223372036854775808 ≤ n ∧ n ≤ 9223372036854775807)
end Tor
namespace Tor
open Go
structure Ch (N L:Nat) (a:List (Int × Int)):Prop where
  can:Canon none a
  bd:Bd N a
  len:a.length ≤ L
  key:∀ p ∈ a,in64 p.1 = true
end Tor
namespace Tor
open Go
def bA (n:Int):AV:=.int .i8 n
theorem bA_get {l:List Int} {i:Nat} (h:i < l.length):(l.map bA)[i]? = some (.int .i8 (l.getD i 0)):=by simp [h,bA,List.getD]
def z46:AV:=.agg [.int .i64 0,.int .i64 0,.nl]
def fillAt (d:List Int) (C i j:Nat):Int:=(d.getD (i * C + j) 0).tmod 10
def fillRow (d:List Int) (C i:Nat):List Int:=(List.range C).map (fillAt d C i)
def filled (d:List Int) (R C:Nat):List (List Int):=(List.range R).map (fillRow d C)
variable {E:CallF} (hE:Free E)
include hE
end Tor
namespace Tor
open Go
structure Dg where
  a:Int
  b:Int
  c:Int
  d:Int
def Dg.ok (x:Dg):Prop:=(-128 ≤ x.a ∧ x.a ≤ 127) ∧ (-128 ≤ x.b ∧ x.b ≤ 127) ∧ (-128 ≤ x.c ∧ x.c ≤ 127) ∧ (-128 ≤ x.d ∧ x.d ≤ 127)
def Dg.cs (x:Dg):List Int:=[x.b.tmod 4,x.c.tmod 4,x.d.tmod 4]
def gB (L:List (List (Int × Int))) (e:List Int):List (Int × Int):=(L.zip e).foldl (fun b p=>add26 b p.1 p.2) []
def gDim (x:Dg):Int:=(IntKind.u8.wrap x.a).tmod 4
def gId (c:List Cel) (x:Dg):Int:=if c.length = 0 then 1 else (c.getD (c.length - 1) zC).id + 1 + (IntKind.u8.wrap x.a).tdiv 128
def grown (c:List Cel) (x:Dg) (L:List (List (Int × Int))):List Cel:=c ++ [⟨gId c x,gDim x,gB L x.cs⟩]
variable {E:CallF} (hE:Free E)
include hE
end Tor
namespace Tor
open Go
def sw (i j a:Nat):Nat:=if a = j then i else if a = i then j else a
end Tor
namespace Tor
open Go
structure GS where
  n0:Nat
  n1:Nat
  n2:Nat
  n3:Nat
  b1:Nat
  b2:Nat
  b3:Nat
def GS.n (s:GS):Nat → Nat
  | 0=>s.n0
  | 1=>s.n1
  | 2=>s.n2
  | 3=>s.n3
  | _=>0
def GS.b (s:GS):Nat → Nat
  | 1=>s.b1
  | 2=>s.b2
  | 3=>s.b3
  | _=>0
variable {E:CallF} (hE:Free E)
include hE
end Tor
namespace Tor
open Go Go.RowKit
inductive MapR (C:Cx):List (Int × AV) → List MapEntry → Prop
  | nil:MapR C [] []
  | cons {k x e r es}:e.key = .int .i64 k → Rv1 C x e.val → x.known = true → MapR C r es → MapR C ((k,x) :: r) (e :: es)
theorem MapR_le {C C':Cx} (h:Le C C') {r es} (hr:MapR C r es):MapR C' r es:=by
  induction hr with
  | nil=>exact .nil
  | cons a b c _ ih=>exact .cons a (Rv1_le h b) c ih
def MapRS (C:Cx) (kvs:List (Int × AV)) (es:Array MapEntry) (clock:Nat):Prop:=MapR C kvs es.toList ∧ Go.MapKept.Stamped es clock
def bOf:Option (Option (Nat × Nat)) → Option Nat
  | some (some (b,_))=>some b
  | _=>none
def blk (C:Cx) (o:Nat):AObj → Option Nat
  | .var _=>bOf (C.β o 0)
  | .arr g _ _=>bOf (C.β o g)
  | .map _=>bOf (C.β o 0)
  | .dead=>none
def ObjOk (base:Nat) (C:Cx) (o:Nat):AObj → Prop
  | .var x=>∃ b c e,C.β o 0 = some (some (b,0)) ∧ C.w.heap[b]? = some (.cells c e (0,0)) ∧ Rc C x c.toList ∧ base ≤ b ∧ ¬ C.F b
  | .arr g sz l=>(C.β o g = some none ∧ l = []) ∨ ∃ b bs c e pre css post,C.β o g = some (some (b,bs)) ∧ C.w.heap[b]? = some (.cells c e (0,0)) ∧
      c.toList = pre ++ css.flatten ++ post ∧ pre.length = bs ∧ Rcl C l css ∧ (∀ x ∈ css,x.length = sz) ∧ base ≤ b ∧ ¬ C.F b
  | .map kvs=>∃ b es clock,C.β o 0 = some (some (b,0)) ∧ C.w.heap[b]? = some (.map es clock) ∧ MapRS C kvs es clock ∧ base ≤ b ∧ ¬ C.F b
  | .dead=>True
def GenOk (C:Cx) (o:Nat):AObj → Prop
  | .arr g _ _=>∀ g',g < g' → C.β o g' = none
  | _=>True
def Glob (C:Cx):Prop:=∀ p ∈ C.ι.G,C.F p.1.block ∧ C.w.cell? p.1 = some p.2
theorem Glob.of {C C':Cx} (h:Glob C) (hι:C'.ι = C.ι) (hF:∀ b,C.F b → C'.F b) (hm:∀ b,C.F b → C'.w.heap[b]? = C.w.heap[b]?):Glob C':=fun p hp=>by
  rw [hι] at hp
  obtain ⟨h1,h2⟩:=h p hp
  exact ⟨hF _ h1,(World.cell?_of_block (hm _ h1)).trans h2⟩
theorem Glob.le {C C':Cx} (h:Glob C) (k:Le C C'):Glob C':=h.of k.ι k.F k.mem
structure Sim (base:Nat) (C:Cx) (H:Heap):Prop where
  fsz:∀ b,C.F b → b < C.w.heap.size
  dom:∀ o,H.length ≤ o → ∀ g,C.β o g = none
  obj:∀ o ob,H[o]? = some ob → ObjOk base C o ob ∧ GenOk C o ob
  sep:∀ o o' ob ob' b,H[o]? = some ob → H[o']? = some ob' → blk C o ob = some b → blk C o' ob' = some b → o = o'
  bsz:base ≤ C.w.heap.size
  glob:Glob C
theorem lt_of_heap {w:World} {b:Nat} {o:Obj} (h:w.heap[b]? = some o):b < w.heap.size:=(Array.getElem?_eq_some_iff.1 h).1
theorem blk_heap {base C o ob b} (h:ObjOk base C o ob) (hb:blk C o ob = some b):base ≤ b ∧ ¬ C.F b ∧ b < C.w.heap.size:=by
  cases ob with
  | var x =>
    obtain ⟨b',c,e,h1,h2,_,h3,h4⟩:=h
    simp only [blk,h1,bOf,Option.some.injEq] at hb; subst hb
    exact ⟨h3,h4,lt_of_heap h2⟩
  | arr g sz l =>
    rcases h with ⟨h1,_⟩ | ⟨b',bs,c,e,pre,css,post,h1,h2,_,_,_,_,h3,h4⟩
    · simp [blk,h1,bOf] at hb
    · simp only [blk,h1,bOf,Option.some.injEq] at hb; subst hb
      exact ⟨h3,h4,lt_of_heap h2⟩
  | map kvs =>
    obtain ⟨b',es,cl,h1,h2,_,h3,h4⟩:=h
    simp only [blk,h1,bOf,Option.some.injEq] at hb; subst hb
    exact ⟨h3,h4,lt_of_heap h2⟩
  | dead=>cases hb
theorem ObjOk_keep {base C C' o ob} (h:Le C C') (ho:ObjOk base C o ob) (hF:∀ b,C'.F b → C.F b ∨ C.w.heap.size ≤ b)
    (hm:∀ b,blk C o ob = some b → C'.w.heap[b]? = C.w.heap[b]?):ObjOk base C' o ob:=by
  have hno:∀ b,¬ C.F b → b < C.w.heap.size → ¬ C'.F b:=fun b h1 h2 h3=>by
    rcases hF b h3 with h | h
    · exact h1 h
    · omega
  cases ob with
  | var x =>
    obtain ⟨b,c,e,h1,h2,h3,h4,h5⟩:=ho
    exact ⟨b,c,e,h.β _ _ _ h1,(hm b (by simp [blk,h1,bOf])).trans h2,Rc_le h _ _ h3,h4,hno _ h5 (lt_of_heap h2)⟩
  | arr g sz l =>
    rcases ho with ⟨h1,h2⟩ | ⟨b,bs,c,e,pre,css,post,h1,h2,h3,h4,h5,h6,h7,h8⟩
    · exact .inl ⟨h.β _ _ _ h1,h2⟩
    · exact .inr ⟨b,bs,c,e,pre,css,post,h.β _ _ _ h1,(hm b (by simp [blk,h1,bOf])).trans h2,h3,h4,Rcl_le h _ _ h5,h6,h7,hno _ h8 (lt_of_heap h2)⟩
  | map kvs =>
    obtain ⟨b,es,cl,h1,h2,h3,h4,h5⟩:=ho
    exact ⟨b,es,cl,h.β _ _ _ h1,(hm b (by simp [blk,h1,bOf])).trans h2,⟨MapR_le h h3.1,h3.2⟩,h4,hno _ h5 (lt_of_heap h2)⟩
  | dead=>trivial
theorem blk_le {base C C' o ob} (h:Le C C') (ho:ObjOk base C o ob):blk C' o ob = blk C o ob:=by
  cases ob with
  | var x=>obtain ⟨b,c,e,h1,_⟩:=ho; simp [blk,h1,h.β _ _ _ h1]
  | arr g sz l =>
    rcases ho with ⟨h1,_⟩ | ⟨b,bs,c,e,pre,css,post,h1,_⟩ <;> simp [blk,h1,h.β _ _ _ h1]
  | map kvs=>obtain ⟨b,es,cl,h1,_⟩:=ho; simp [blk,h1,h.β _ _ _ h1]
  | dead=>rfl
theorem Sim.world {base C C' H} (h:Sim base C H) (hle:Le C C') (hF:∀ b,C'.F b → b < C'.w.heap.size ∧ (C.F b ∨ C.w.heap.size ≤ b)) (hβ:∀ o g,C'.β o g = C.β o g)
    (hs:C.w.heap.size ≤ C'.w.heap.size) (hm:∀ b,b < C.w.heap.size → ¬ C.F b → base ≤ b → C'.w.heap[b]? = C.w.heap[b]?):Sim base C' H where
  fsz b hb:=(hF b hb).1
  dom o ho g:=by rw [hβ]; exact h.dom o ho g
  obj o ob ho:=by
    obtain ⟨h1,h2⟩:=h.obj o ob ho
    refine ⟨ObjOk_keep hle h1 (fun b hb=>(hF b hb).2) (fun b hb=>?_),?_⟩
    · obtain ⟨a,b',c⟩:=blk_heap h1 hb
      exact hm b c b' a
    · cases ob with
      | arr g sz l=>intro g' hg'; rw [hβ]; exact h2 g' hg'
      | _=>trivial
  sep o o' ob ob' b ho ho' hb hb':=by
    rw [blk_le hle (h.obj o ob ho).1] at hb
    rw [blk_le hle (h.obj o' ob' ho').1] at hb'
    exact h.sep o o' ob ob' b ho ho' hb hb'
  bsz:=Nat.le_trans h.bsz hs
  glob:=h.glob.le hle
theorem one_inv {α} {a b:α} {i:Nat} (h:[a][i]? = some b):i = 0 ∧ b = a:=by
  cases i with
  | zero=>simp at h; exact ⟨rfl,h.symm⟩
  | succ i=>simp at h
theorem Sim.push {base C C' H ob} (h:Sim base C H) (hle:Le C C') (hF:∀ b,C'.F b ↔ C.F b) (hs:C.w.heap.size ≤ C'.w.heap.size)
    (hβ:∀ o g,o < H.length → C'.β o g = C.β o g) (hβ2:∀ o g,H.length < o → C'.β o g = none)
    (hm:∀ b,b < C.w.heap.size → C'.w.heap[b]? = C.w.heap[b]?) (ho:ObjOk base C' H.length ob) (hg:GenOk C' H.length ob)
    (hb:∀ b,blk C' H.length ob = some b → C.w.heap.size ≤ b):Sim base C' (H ++ [ob]) where
  fsz b hb:=Nat.lt_of_lt_of_le (h.fsz b ((hF b).1 hb)) hs
  dom o ho g:=by
    simp at ho
    exact hβ2 o g (by omega)
  obj o ob' ho':=by
    rw [List.getElem?_append] at ho'
    split at ho'
    · rename_i hlt
      obtain ⟨h1,h2⟩:=h.obj o ob' ho'
      refine ⟨ObjOk_keep hle h1 (fun b hb=>.inl ((hF b).1 hb)) (fun b hb=>hm b (blk_heap h1 hb).2.2),?_⟩
      cases ob' with
      | arr g sz l=>intro g' hg'; rw [hβ _ _ hlt]; exact h2 g' hg'
      | _=>trivial
    · rename_i hge
      obtain ⟨hz,e⟩:=one_inv ho'
      have:o = H.length:=by omega
      subst this
      subst e
      exact ⟨ho,hg⟩
  sep o o' ob1 ob2 b ho1 ho2 hb1 hb2:=by
    have key:∀ o ob1,(H ++ [ob])[o]? = some ob1 → blk C' o ob1 = some b → (o < H.length ∧ H[o]? = some ob1 ∧ blk C o ob1 = some b ∧ b < C.w.heap.size) ∨ (o = H.length ∧ C.w.heap.size ≤ b):=by
      intro o ob1 ho1 hb1
      rw [List.getElem?_append] at ho1
      split at ho1
      · rename_i hlt
        rw [blk_le hle (h.obj o ob1 ho1).1] at hb1
        exact .inl ⟨hlt,ho1,hb1,(blk_heap (h.obj o ob1 ho1).1 hb1).2.2⟩
      · rename_i hge
        obtain ⟨hz,e⟩:=one_inv ho1
        have e2:o = H.length:=by omega
        subst e2
        subst e
        exact .inr ⟨rfl,hb b hb1⟩
    rcases key o ob1 ho1 hb1 with ⟨a1,a2,a3,a4⟩ | ⟨a1,a2⟩ <;> rcases key o' ob2 ho2 hb2 with ⟨b1,b2,b3,b4⟩ | ⟨b1,b2⟩
    · exact h.sep o o' ob1 ob2 b a2 b2 a3 b3
    · omega
    · omega
    · omega
  bsz:=Nat.le_trans h.bsz hs
  glob:=h.glob.le hle
theorem Sim.set {base C C' H o ob ob'} (h:Sim base C H) (ho:H[o]? = some ob) (hle:Le C C') (hF:∀ b,C'.F b → b < C'.w.heap.size ∧ (C.F b ∨ C.w.heap.size ≤ b ∨ blk C o ob = some b))
    (hs:C.w.heap.size ≤ C'.w.heap.size)
    (hβ:∀ o' g,o' ≠ o → C'.β o' g = C.β o' g)
    (hm:∀ b,b < C.w.heap.size → blk C o ob ≠ some b → C'.w.heap[b]? = C.w.heap[b]?) (hn:ObjOk base C' o ob') (hg:GenOk C' o ob')
    (hb:∀ b,blk C' o ob' = some b → blk C o ob = some b ∨ C.w.heap.size ≤ b):Sim base C' (H.set o ob') where
  fsz b hb:=(hF b hb).1
  dom o' ho' g:=by
    have hlt:o < H.length:=(List.getElem?_eq_some_iff.1 ho).1
    simp at ho'
    rw [hβ o' g (by omega)]; exact h.dom o' ho' g
  obj o' ob1 ho':=by
    rw [List.getElem?_set] at ho'
    split at ho'
    · rename_i e
      subst e
      split at ho'
      · cases ho'; exact ⟨hn,hg⟩
      · cases ho'
    · rename_i hne
      obtain ⟨h1,h2⟩:=h.obj o' ob1 ho'
      have hbl:∀ b,blk C o' ob1 = some b → blk C o ob ≠ some b:=fun b h3 h4=>hne (h.sep o o' ob ob1 b ho ho' h4 h3)
      refine ⟨?_,?_⟩
      · have hno:∀ b,blk C o' ob1 = some b → ¬ C'.F b:=fun b h3 h4=>by
          obtain ⟨_,x2,x3⟩:=blk_heap h1 h3
          rcases (hF b h4).2 with q | q | q
          · exact x2 q
          · omega
          · exact hbl b h3 q
        cases ob1 with
        | var x =>
          obtain ⟨b,c,e,g1,g2,g3,g4,g5⟩:=h1
          have hk:blk C o' (.var x) = some b:=by simp [blk,g1,bOf]
          exact ⟨b,c,e,hle.β _ _ _ g1,(hm b (lt_of_heap g2) (hbl b hk)).trans g2,Rc_le hle _ _ g3,g4,hno b hk⟩
        | arr g sz l =>
          rcases h1 with ⟨g1,g2⟩ | ⟨b,bs,c,e,pre,css,post,g1,g2,g3,g4,g5,g6,g7,g8⟩
          · exact .inl ⟨hle.β _ _ _ g1,g2⟩
          · have hk:blk C o' (.arr g sz l) = some b:=by simp [blk,g1,bOf]
            exact .inr ⟨b,bs,c,e,pre,css,post,hle.β _ _ _ g1,(hm b (lt_of_heap g2) (hbl b hk)).trans g2,g3,g4,Rcl_le hle _ _ g5,g6,g7,hno b hk⟩
        | map kvs =>
          obtain ⟨b,es,cl,g1,g2,g3,g4,g5⟩:=h1
          have hk:blk C o' (.map kvs) = some b:=by simp [blk,g1,bOf]
          exact ⟨b,es,cl,hle.β _ _ _ g1,(hm b (lt_of_heap g2) (hbl b hk)).trans g2,⟨MapR_le hle g3.1,g3.2⟩,g4,hno b hk⟩
        | dead=>trivial
      · cases ob1 with
        | arr g sz l=>intro g' hg'; rw [hβ _ _ (fun e=>hne e.symm)]; exact h2 g' hg'
        | _=>trivial
  sep o1 o2 ob1 ob2 b ho1 ho2 hb1 hb2:=by
    have key:∀ o1 ob1,(H.set o ob')[o1]? = some ob1 → blk C' o1 ob1 = some b → (o1 = o ∧ (blk C o ob = some b ∨ C.w.heap.size ≤ b)) ∨ (o1 ≠ o ∧ H[o1]? = some ob1 ∧ blk C o1 ob1 = some b ∧ b < C.w.heap.size):=by
      intro o1 ob1 ho1 hb1
      rw [List.getElem?_set] at ho1
      split at ho1
      · rename_i e
        subst e
        split at ho1
        · cases ho1; exact .inl ⟨rfl,hb b hb1⟩
        · cases ho1
      · rename_i hne
        rw [blk_le hle (h.obj o1 ob1 ho1).1] at hb1
        exact .inr ⟨fun e=>hne e.symm,ho1,hb1,(blk_heap (h.obj o1 ob1 ho1).1 hb1).2.2⟩
    rcases key o1 ob1 ho1 hb1 with ⟨a1,a2⟩ | ⟨a1,a2,a3,a4⟩ <;> rcases key o2 ob2 ho2 hb2 with ⟨b1,b2⟩ | ⟨b1,b2,b3,b4⟩
    · omega
    · rcases a2 with a2 | a2
      · exact absurd (h.sep o o2 ob ob2 b ho b2 a2 b3) (fun e=>b1 e.symm)
      · omega
    · rcases b2 with b2 | b2
      · exact absurd (h.sep o o1 ob ob1 b ho a2 b2 a3) (fun e=>a1 e.symm)
      · omega
    · exact h.sep o1 o2 ob1 ob2 b a2 b2 a3 b3
  bsz:=Nat.le_trans h.bsz hs
  glob:=h.glob.le hle
def Cx.cut (C:Cx) (n:Nat):Cx:={ C with β:=fun o g=>if o < n then C.β o g else none }
theorem Sim.take {base C H} (h:Sim base C H) (n:Nat) (hn:n ≤ H.length) (hfr:∀ o ob,H[o]? = some ob → o < n → ObjOk base (C.cut n) o ob):Sim base (C.cut n) (H.take n) where
  fsz b hb:=h.fsz b hb
  dom o ho g:=by
    simp at ho
    have:¬ o < n:=by omega
    simp [Cx.cut,this]
  obj o ob ho:=by
    rw [List.getElem?_take] at ho
    split at ho
    · rename_i hlt
      refine ⟨hfr o ob ho hlt,?_⟩
      cases ob with
      | arr g sz l=>intro g' hg'; have:=(h.obj o _ ho).2 g' hg'; simp [Cx.cut,hlt,this]
      | _=>trivial
    · cases ho
  sep o o' ob ob' b ho ho' hb hb':=by
    rw [List.getElem?_take] at ho ho'
    split at ho
    · split at ho'
      · rename_i h1 h2
        have e:∀ o ob,o < n → blk (C.cut n) o ob = blk C o ob:=by
          intro o ob hlt; cases ob <;> simp [blk,Cx.cut,hlt]
        rw [e o ob h1] at hb
        rw [e o' ob' h2] at hb'
        exact h.sep o o' ob ob' b ho ho' hb hb'
      · cases ho'
    · cases ho
  bsz:=h.bsz
  glob:=h.glob.of rfl (fun _ h=>h) (fun _ _=>rfl)
end Tor
namespace Tor
open Go Go.RowKit
variable {P:Program} {base:Nat} {C:Cx} {H:Heap}
theorem addr_add (b off i:Nat):(⟨b,off,none⟩:Addr).add i = ⟨b,off + i,none⟩:=by
  unfold Addr.add; split <;> simp_all
theorem Rv_known {x v} (hk:x.known = true) (h:Rv C x v):Rc C x v.cells.toList ∧ vIsA v = x.isA:=by
  rcases h with (rfl | h) | ⟨l,vs,rfl,_⟩
  · cases hk
  · exact h
  · cases hk
theorem Rv_of {x v} (h:Rc C x v.cells.toList) (h2:vIsA v = x.isA):Rv C x v:=.inl (.inr ⟨h,h2⟩)
theorem cells_one {v:Value} (h:vIsA v = false):v.cells = #[v]:=by cases v <;> first | rfl | cases h
theorem Rv_one {x v} (h:Rc C x [v]) (hx:x.isA = false) (hv:vIsA v = false):Rv C x v:=by
  refine Rv_of ?_ (hv.trans hx.symm)
  rw [cells_one hv]; exact h
theorem Rv_bool {b v} (h:Rv C (.bool b) v):v = .bool b:=by
  obtain ⟨h1,h2⟩:=Rv_known rfl h
  rw [cells_one h2] at h1
  simpa [Rc] using h1
theorem Rv_int {k n v} (h:Rv C (.int k n) v):v = .int k n:=by
  obtain ⟨h1,h2⟩:=Rv_known rfl h
  rw [cells_one h2] at h1
  simpa [Rc] using h1
theorem Rv_a {x v} (h:Rv C (.a x) v):v = x ∧ x.oneCell' = true:=by
  obtain ⟨h1,h2⟩:=Rv_known rfl h
  rw [cells_one h2] at h1
  simpa [Rc] using h1
theorem Rv_nl {v} (h:Rv C .nl v):v = .slice none 0 0:=by
  obtain ⟨h1,h2⟩:=Rv_known rfl h
  rw [cells_one h2] at h1
  simpa [Rc] using h1
theorem Rv_isl {l v} (h:Rv C (.isl l) v):SlV C l.length (Rcl C l) v:=by
  obtain ⟨h1,h2⟩:=Rv_known rfl h
  rw [cells_one h2] at h1
  simp only [Rc] at h1
  obtain ⟨_,v',e,hv⟩:=h1
  simp at e; subst e; exact hv
theorem Rv_isl_flat {l v} (h:Rv C (.isl l) v):AV.hasRefs l = false:=by
  obtain ⟨h1,h2⟩:=Rv_known rfl h
  simp only [Rc] at h1
  exact h1.1
theorem Rv_iptr {x v} (h:Rv C (.iptr x) v):∃ b off xs,v = .pointer (some ⟨b,off,none⟩) ∧ C.F b ∧ Rc C x xs ∧ cellsAt C.w b off xs:=by
  obtain ⟨h1,h2⟩:=Rv_known rfl h
  rw [cells_one h2] at h1
  simp only [Rc] at h1
  obtain ⟨b,off,xs,e,r⟩:=h1
  simp at e; exact ⟨b,off,xs,e,r⟩
theorem Rv_ptr {o g p v} (h:Rv C (.ptr o g p) v):∃ b bs,C.β o g = some (some (b,bs)) ∧ v = .pointer (some ⟨b,bs + offs p,none⟩):=by
  obtain ⟨h1,h2⟩:=Rv_known rfl h
  rw [cells_one h2] at h1
  simp only [Rc] at h1
  obtain ⟨b,bs,hb,e⟩:=h1
  simp at e; exact ⟨b,bs,hb,e⟩
theorem Rv_sl {o g sz st len v} (h : Rv C (.sl o g sz st len) v) : (∃ b bs cap, C.β o g = some (some (b, bs)) ∧ v = .slice (some ⟨b, bs + st * sz, none⟩) len cap ∧ len ≤ cap ∧ Room C.w b (bs + st * sz) sz cap) ∨
      (∃ q,C.β o g = some q ∧ len = 0 ∧ ∃ a,v = .slice a 0 0):=by
  obtain ⟨h1,h2⟩:=Rv_known rfl h
  rw [cells_one h2] at h1
  simp only [Rc] at h1
  rcases h1 with ⟨b,bs,cap,hb,e,r⟩ | ⟨q,hb,hl,a,e⟩
  · simp at e; exact .inl ⟨b,bs,cap,hb,e,r⟩
  · simp at e; exact .inr ⟨q,hb,hl,a,e⟩
theorem Rv_mp {o v} (h:Rv C (.mp o) v):∃ b,C.β o 0 = some (some (b,0)) ∧ v = .map (some b):=by
  obtain ⟨h1,h2⟩:=Rv_known rfl h
  rw [cells_one h2] at h1
  simp only [Rc] at h1
  obtain ⟨b,hb,e⟩:=h1
  simp at e; exact ⟨b,hb,e⟩
theorem Rv_fn {f l v} (h:Rv C (.fn f l) v):∃ vs,v = .func (.func (C.ι f)) #[] vs ∧ Rcl C l (vs.toList.map fun v=>[v]) ∧ ∀ x ∈ l,x.isA = false:=by
  obtain ⟨h1,h2⟩:=Rv_known rfl h
  rw [cells_one h2] at h1
  simp only [Rc] at h1
  obtain ⟨ha,vs,e,hl⟩:=h1
  simp at e; exact ⟨vs,e,hl,ha⟩
theorem Rv_agg {l v} (h:Rv C (.agg l) v):∃ css,Rcl C l css ∧ v = .agg css.flatten.toArray:=by
  obtain ⟨h1,h2⟩:=Rv_known rfl h
  simp only [Rc] at h1
  obtain ⟨css,hl,e⟩:=h1
  refine ⟨css,hl,?_⟩
  cases v <;> simp [vIsA,AV.isA] at h2
  rename_i cs
  simp [Value.cells] at e
  rw [← e]
theorem Rv_tup {l v} (h:Rv C (.tup l) v):∃ vs,v = .tuple vs ∧ Rvl C l vs.toList:=by
  rcases h with (e | ⟨h,_⟩) | ⟨l',vs,e,e2,h⟩
  · cases e
  · exact h.elim
  · cases e; exact ⟨vs,e2,h⟩
theorem mk_bool (b:Bool):Rv C (.bool b) (.bool b):=Rv_one (by simp [Rc]) rfl rfl
theorem mk_int (k:IntKind) (n:Int):Rv C (.int k n) (.int k n):=Rv_one (by simp [Rc]) rfl rfl
theorem uniform_len {α} {sz:Nat}:∀ css:List (List α),(∀ c ∈ css,c.length = sz) → css.flatten.length = css.length * sz
  | [],_=>by simp
  | c :: r,h=>by
    have h1:=h c (by simp)
    have h2:=uniform_len r (fun d hd=>h d (by simp [hd]))
    simp only [List.flatten_cons,List.length_append,List.length_cons,h1,h2,Nat.add_mul]; omega
theorem take_uniform {α} {sz:Nat} (css:List (List α)) (h:∀ c ∈ css,c.length = sz) (i:Nat) (hi:i ≤ css.length):(css.take i).flatten.length = i * sz:=by
  rw [uniform_len _ (fun c hc=>h c (List.mem_of_mem_take hc)),List.length_take,Nat.min_eq_left hi]
theorem cellsAt_of {w:World} {b:Nat} {c:Array Value} {e:TypeId} {fr:Nat × Nat} (h:w.heap[b]? = some (.cells c e fr)) {pre ys post:List Value} (hc:c.toList = pre ++ ys ++ post) :
    cellsAt w b pre.length ys:=by
  intro i x hx
  have:c[pre.length + i]? = some x:=by
    rw [← Array.getElem?_toList,hc,List.append_assoc,List.getElem?_append_right (by omega)]
    simp only [Nat.add_sub_cancel_left]
    rw [List.getElem?_append_left]
    · exact hx
    · exact (List.getElem?_eq_some_iff.1 hx).1
  simp [World.cell?,h,this]
theorem cellsAt_part {w:World} {b off:Nat} {pre ys post:List Value} (h:cellsAt w b off (pre ++ ys ++ post)):cellsAt w b (off + pre.length) ys:=by
  intro i x hx
  have:=h (pre.length + i) x (by
    rw [List.append_assoc,List.getElem?_append_right (by omega),Nat.add_sub_cancel_left,List.getElem?_append_left]
    · exact hx
    · exact (List.getElem?_eq_some_iff.1 hx).1)
  rw [← this,Nat.add_assoc]
theorem objGet_ok (hs:Sim base C H) {o ob g p y} (ho:H[o]? = some ob) (h:objGet ob g p = some y) :
    ∃ b bs ys,C.β o g = some (some (b,bs)) ∧ Rc C y ys ∧ cellsAt C.w b (bs + offs p) ys:=by
  obtain ⟨hok,_⟩:=hs.obj o ob ho
  cases ob with
  | var x =>
    simp only [objGet] at h
    split at h
    · rename_i hg
      subst hg
      obtain ⟨b,c,e,h1,h2,h3,_⟩:=hok
      obtain ⟨pre,ys,post,e1,e2,e3⟩:=nav_ok p x y _ h h3
      refine ⟨b,0,ys,h1,e3,?_⟩
      have:=cellsAt_of h2 e1
      rw [e2] at this
      simpa using this
    · cases h
  | arr g' sz l =>
    cases p with
    | nil=>simp [objGet] at h
    | cons q p =>
      obtain ⟨i,off⟩:=q
      simp only [objGet] at h
      split at h
      · rename_i hg
        obtain ⟨hg,ho2⟩:=hg
        subst hg
        split at h
        · rename_i z hz
          rcases hok with ⟨_,h2⟩ | ⟨b,bs,c,e,pre,css,post,h1,h2,h3,h4,h5,h6,_⟩
          · subst h2; simp at hz
          · obtain ⟨cz,hcz,hrz⟩:=Rcl_get l css i z h5 hz
            obtain ⟨pre2,ys,post2,e1,e2,e3⟩:=nav_ok p z y _ h hrz
            refine ⟨b,bs,ys,h1,e3,?_⟩
            have hi:i < css.length:=(List.getElem?_eq_some_iff.1 hcz).1
            have hl:(css.take i).flatten.length = i * sz:=take_uniform css h6 i (by omega)
            have hc:c.toList = (pre ++ (css.take i).flatten ++ pre2) ++ ys ++ (post2 ++ (css.drop (i + 1)).flatten ++ post):=by
              rw [h3,flatten_split css i cz hcz,e1]; simp [List.append_assoc]
            have:=cellsAt_of h2 hc
            simp only [List.length_append,h4,hl,e2] at this
            rw [show bs + offs ((i,off) :: p) = bs + i * sz + offs p by simp [offs,ho2]; omega]
            exact this
        · cases h
      · cases h
  | _=>simp [objGet] at h
def aggB (P:Program) (t:TypeId):Option Bool :=
  match P.underlying t with
  | some (.struct _)=>some true
  | some (.array _ _)=>some true
  | some _=>some false
  | none=>none
def sizeB (P:Program) (t:TypeId):Option Nat:=(P.info? t).map (·.size)
theorem run_isAgg {t b} (h:aggB P t = some b) (w:World):(isAgg t).run P w = .ok b w:=by
  unfold aggB at h
  unfold isAgg
  cases hu:P.underlying t with
  | none=>rw [hu] at h; cases h
  | some d =>
    rw [hu] at h
    simp only [Sem.run_bind,run_underlying hu,Result.andThen_ok]
    cases d <;> (cases h; rfl)
theorem run_sizeOf {t n} (h:sizeB P t = some n) (w:World):(Go.sizeOf t).run P w = .ok n w:=by
  unfold sizeB at h
  cases hi:P.info? t with
  | none=>rw [hi] at h; cases h
  | some i=>rw [hi] at h; cases h; simp [Go.sizeOf,typeInfo,hi]
theorem run_loadVar {t ag b off ys y} (ha:aggB P t = some ag) (hz:sizeB P t = some y.size) (hag:y.isA = ag) (hy:Rc C y ys) (hc:cellsAt C.w b off ys) :
    ∃ v,(loadVar t ⟨b,off,none⟩).run P C.w = .ok v C.w ∧ Rv C y v:=by
  have hlen:=Rc_len y ys hy
  unfold loadVar
  simp only [Sem.run_bind,run_isAgg ha,Result.andThen_ok]
  cases ag with
  | true =>
    refine ⟨.agg ys.toArray,?_,Rv_of (by simpa [Value.cells] using hy) hag.symm⟩
    have:=run_loadCells_list (P:=P) C.w ⟨b,off,none⟩ ys (fun j v hv=>by rw [addr_add]; exact hc j v hv)
    rw [hlen] at this
    simp only [if_true,Sem.run_bind,run_sizeOf hz,Result.andThen_ok,this,Sem.run_pure]
  | false =>
    have h1:ys.length = 1:=by
      rw [hlen]
      cases y <;> first | rfl | cases hag
    match ys,h1 with
    | [v],_ =>
      have hv:=Rc_one y [v] hy v (by simp)
      have hva:vIsA v = false:=by cases v <;> first | rfl | cases hv
      refine ⟨v,?_,Rv_one hy hag hva⟩
      have:=hc 0 v (by simp)
      simp only [Nat.add_zero] at this
      simp [this]
theorem load_ok (hs:Sim base C H) {t ag sz X v y} (ha:aggB P t = some ag) (hz:sizeB P t = some sz) (hx:Rv C X v) (h:doLoad ag sz H X = some y) :
    ∃ u,(Instr.loadAt t v).run P C.w = .ok u C.w ∧ Rv C y u:=by
  have hfit:∀ q,fits ag sz q = some y → q = some y ∧ y.size = sz ∧ y.isA = ag:=by
    intro q hq
    cases q with
    | none=>cases hq
    | some z =>
      simp only [fits] at hq
      split at hq
      · rename_i hh; cases hq; exact ⟨rfl,hh⟩
      · cases hq
  unfold Instr.loadAt
  cases X with
  | iptr x =>
    simp only [doLoad] at h
    obtain ⟨e,h1,h2⟩:=hfit _ h
    cases e
    obtain ⟨b,off,xs,rfl,hF,hr,hm⟩:=Rv_iptr hx
    simp only [Instr.sureAddr,Sem.run_bind,Sem.run_pure,Result.andThen_ok]
    exact run_loadVar ha (h1 ▸ hz) h2 hr hm
  | ptr o g p =>
    simp only [doLoad] at h
    obtain ⟨e,h1,h2⟩:=hfit _ h
    obtain ⟨b,bs,hb,rfl⟩:=Rv_ptr hx
    cases ho:H[o]? with
    | none=>rw [ho] at e; cases e
    | some ob =>
      rw [ho] at e
      obtain ⟨b',bs',ys,hb',hr,hm⟩:=objGet_ok hs ho e
      rw [hb] at hb'
      cases hb'
      simp only [Instr.sureAddr,Sem.run_bind,Sem.run_pure,Result.andThen_ok]
      exact run_loadVar ha (h1 ▸ hz) h2 hr hm
  | _=>cases h
theorem nilCheck_ok {X v y} (hx:Rv C X v) (h:doNilCheck X = some y) :
    Rv C y v ∧ (match v with
    | .pointer none | .nilIface | .nilFunc=>False
    | .func (.method _) _ _=>False
    | _=>True):=by
  cases X with
  | iptr x=>cases h; obtain ⟨b,off,xs,rfl,_⟩:=Rv_iptr hx; exact ⟨hx,trivial⟩
  | ptr o g p=>cases h; obtain ⟨b,bs,_,rfl⟩:=Rv_ptr hx; exact ⟨hx,trivial⟩
  | fn f l=>cases h; obtain ⟨vs,rfl,_⟩:=Rv_fn hx; exact ⟨hx,trivial⟩
  | _=>cases h
theorem conv_ok {s d k X v y} (hd:P.underlying d = some (.int k)) (hsd:(P.underlying s).isSome = true) (hx:Rv C X v) (h:doConv k X = some y) :
    ∃ u,(convert s d v).run P C.w = .ok u C.w ∧ Rv C y u:=by
  cases X with
  | int k' n =>
    cases h
    rw [Rv_int hx]
    obtain ⟨ds,hds⟩:=Option.isSome_iff_exists.1 hsd
    refine ⟨.int k (k.wrap n),?_,mk_int _ _⟩
    unfold convert
    simp only [Sem.run_bind,run_underlying hds,run_underlying hd,Result.andThen_ok]
    cases ds <;> rfl
  | _=>cases h
theorem binInt_ok {op k x y z} (h:binInt op k x y = some z) (t:TypeId) (w:World) :
    ∃ u,(binOp op t (.int k x) (.int k y)).run P w = .ok u w ∧ ∀ C,Rv C z u:=by
  cases op <;> simp only [binInt,Option.some.injEq,reduceCtorEq] at h
  case quo =>
    split at h
    · cases h
    · rename_i hy; cases h
      exact ⟨.int k (k.wrap (x.tdiv y)),by simp [binOp,Op.intDiv,hy],fun C=>mk_int _ _⟩
  case rem =>
    split at h
    · cases h
    · rename_i hy; cases h
      exact ⟨.int k (x.tmod y),by simp [binOp,Op.intDiv,hy],fun C=>mk_int _ _⟩
  all_goals subst h
  case add=>exact ⟨_,by simp only [binOp,ne_eq,not_true_eq_false,if_false,Op.intArith]; rfl,fun C=>mk_int _ _⟩
  case sub=>exact ⟨_,by simp only [binOp,ne_eq,not_true_eq_false,if_false,Op.intArith]; rfl,fun C=>mk_int _ _⟩
  case mul=>exact ⟨_,by simp only [binOp,ne_eq,not_true_eq_false,if_false,Op.intArith]; rfl,fun C=>mk_int _ _⟩
  case and=>exact ⟨_,by simp only [binOp,ne_eq,not_true_eq_false,if_false,Op.intBits]; rfl,fun C=>mk_int _ _⟩
  case or=>exact ⟨_,by simp only [binOp,ne_eq,not_true_eq_false,if_false,Op.intBits]; rfl,fun C=>mk_int _ _⟩
  case xor=>exact ⟨_,by simp only [binOp,ne_eq,not_true_eq_false,if_false,Op.intBits]; rfl,fun C=>mk_int _ _⟩
  case andNot=>exact ⟨_,by simp only [binOp,ne_eq,not_true_eq_false,if_false,Op.intBits]; rfl,fun C=>mk_int _ _⟩
  all_goals exact ⟨_,by simp only [binOp,ne_eq,not_true_eq_false,if_false,Op.intCmp]; rfl,fun C=>mk_bool _⟩
theorem run_eql_bool2 (t:TypeId) (a b:Bool) (h:P.underlying t = some .bool) (w:World):(Op.equal t (.bool a) (.bool b)).run P w = .ok (a == b) w:=by
  unfold Op.equal Op.maxDepth
  rw [show (10000:Nat) = 9999 + 1 from rfl,Op.equalIn]
  simp only [Sem.run_bind,run_underlying h,Result.andThen_ok]
  rfl
theorem binb_ok {ne t X Y u v z} (ht:P.underlying t = some .bool) (hx:Rv C X u) (hy:Rv C Y v) (h:binB ne X Y = some z) :
    ∃ r,(binOp (if ne then .neq else .eql) t u v).run P C.w = .ok r C.w ∧ Rv C z r:=by
  cases X <;> cases Y <;> simp only [binB,reduceCtorEq,Option.some.injEq] at h
  rename_i a b
  subst h
  rw [Rv_bool hx,Rv_bool hy]
  cases ne with
  | false=>exact ⟨.bool (a == b),by simp only [Bool.false_eq_true,if_false,binOp,Sem.run_bind,run_eql_bool2 t a b ht,Result.andThen_ok,Sem.run_pure],mk_bool _⟩
  | true=>exact ⟨.bool (!(a == b)),by simp only [if_true,binOp,Sem.run_bind,run_eql_bool2 t a b ht,Result.andThen_ok,Sem.run_pure],mk_bool _⟩
theorem bin_ok {op t X Y u v z} (hx:Rv C X u) (hy:Rv C Y v) (h:binAV op X Y = some z):∃ r,(binOp op t u v).run P C.w = .ok r C.w ∧ Rv C z r:=by
  cases X <;> try (cases h; done)
  cases Y <;> try (cases h; done)
  rename_i k x k' y
  rw [Rv_int hx,Rv_int hy]
  have hgen:∀ op,(if k = k' then binInt op k x y else none) = some z → ∃ r,(binOp op t (.int k x) (.int k' y)).run P C.w = .ok r C.w ∧ Rv C z r:=by
    intro op h'
    split at h'
    · rename_i hk; subst hk
      obtain ⟨r,hr,hz⟩:=binInt_ok (P:=P) h' t C.w
      exact ⟨r,hr,hz C⟩
    · cases h'
  cases op
  case shl =>
    simp only [binAV] at h
    split at h
    · cases h
    · rename_i hn; cases h
      exact ⟨_,by simp only [binOp,Op.shift,hn,if_false]; rfl,mk_int _ _⟩
  case shr =>
    simp only [binAV] at h
    split at h
    · cases h
    · rename_i hn; cases h
      exact ⟨_,by simp only [binOp,Op.shift,hn,if_false]; rfl,mk_int _ _⟩
  all_goals exact hgen _ h
theorem un_ok {op X u z} (hx:Rv C X u) (h:unAV op X = some z):∃ r,(Op.unary op u).run P C.w = .ok r C.w ∧ Rv C z r:=by
  cases X <;> try (cases h; done)
  · rename_i b
    rw [Rv_bool hx]
    cases op <;> simp only [unAV,Option.some.injEq,reduceCtorEq] at h
    subst h; exact ⟨.bool !b,by simp only [Op.unary,Sem.run_pure],mk_bool _⟩
  · rename_i k n
    rw [Rv_int hx]
    cases op <;> simp only [unAV,Option.some.injEq,reduceCtorEq] at h
    · subst h; exact ⟨_,by simp only [Op.unary,Op.intArith]; rfl,mk_int _ _⟩
    · subst h; exact ⟨_,by simp only [Op.unary,Op.intBits]; rfl,mk_int _ _⟩
def fieldB (P:Program) (t:TypeId) (i:Nat):Option Field :=
  match P.underlying t with
  | some (.struct fs)=>fs[i]?
  | _=>none
theorem sizes_take_get {l:List AV} {css} (hl:Rcl C l css) {i:Nat} {y:AV} (hy:l[i]? = some y) :
    ∃ c,css.flatten = (css.take i).flatten ++ c ++ (css.drop (i + 1)).flatten ∧ (css.take i).flatten.length = AV.sizes (l.take i) ∧ Rc C y c:=by
  obtain ⟨c,hc,hr⟩:=Rcl_get l css i y hl hy
  exact ⟨c,flatten_split css i c hc,take_size hl i,hr⟩
theorem fieldAddr_ok {t i off f X v y} (hf:fieldB P t i = some f) (ho:f.offset = off) (hz:∃ n,sizeB P f.type = some n ∧ n ≠ 0) (hx:Rv C X v) (h:doFieldAddr i off X = some y) :
    ∃ u,(Instr.fieldAt t v i).run P C.w = .ok u C.w ∧ Rv C y u:=by
  obtain ⟨n,hn,hn0⟩:=hz
  have hrun:∀ b o,v = .pointer (some ⟨b,o,none⟩) → (Instr.fieldAt t v i).run P C.w = .ok (.pointer (some ⟨b,o + off,none⟩)) C.w:=by
    rintro b o rfl
    unfold fieldB at hf
    cases hu:P.underlying t with
    | none=>rw [hu] at hf; cases hf
    | some d =>
      rw [hu] at hf
      cases d <;> try (cases hf; done)
      rename_i fs
      simp [Instr.fieldAt,run_underlying hu,hf,Instr.sureAddr,fieldPlace,run_sizeOf hn,hn0,addr_add,ho]
  cases X with
  | iptr x =>
    cases x with
    | agg l =>
      simp only [doFieldAddr] at h
      split at h
      · rename_i hs
        obtain ⟨b,o,xs,rfl,hF,hr,hm⟩:=Rv_iptr hx
        cases hl:l[i]? with
        | none=>rw [hl] at h; cases h
        | some z =>
          rw [hl] at h; cases h
          simp only [Rc] at hr
          obtain ⟨css,hcl,rfl⟩:=hr
          obtain ⟨c,e1,e2,e3⟩:=sizes_take_get hcl hl
          refine ⟨_,hrun b o rfl,Rv_one ?_ rfl rfl⟩
          simp only [Rc]
          rw [e1] at hm
          have:=cellsAt_part hm
          rw [e2,hs] at this
          exact ⟨b,o + off,c,rfl,hF,e3,this⟩
      · cases h
    | _=>cases h
  | ptr o g p =>
    cases h
    obtain ⟨b,bs,hb,rfl⟩:=Rv_ptr hx
    refine ⟨_,hrun b _ rfl,Rv_one ?_ rfl rfl⟩
    simp only [Rc]
    exact ⟨b,bs,hb,by simp [offs]; omega⟩
  | _=>cases h
theorem fits_inv {ag sz q y} (h:fits ag sz q = some y):q = some y ∧ y.size = sz ∧ y.isA = ag:=by
  cases q with
  | none=>cases h
  | some z =>
    simp only [fits] at h
    split at h
    · rename_i hh; cases h; exact ⟨rfl,hh⟩
    · cases h
theorem field_ok {t i off ag sz f X v y} (hf:fieldB P t i = some f) (ho:f.offset = off) (ha:aggB P f.type = some ag) (hz:sizeB P f.type = some sz) (hx:Rv C X v) (h:doField i off ag sz X = some y) :
    ∃ u,(Instr.field t v i).run P C.w = .ok u C.w ∧ Rv C y u:=by
  cases X with
  | agg l =>
    simp only [doField] at h
    split at h
    · rename_i hs
      obtain ⟨e,h1,h2⟩:=fits_inv h
      obtain ⟨css,hcl,rfl⟩:=Rv_agg hx
      obtain ⟨c,e1,e2,e3⟩:=sizes_take_get hcl e
      have hlen:=Rc_len _ _ e3
      unfold fieldB at hf
      cases hu:P.underlying t with
      | none=>rw [hu] at hf; cases hf
      | some d =>
        rw [hu] at hf
        cases d <;> try (cases hf; done)
        rename_i fs
        simp only at hf
        have hcut:(css.flatten.drop off).take sz = c:=by
          rw [e1,← hs,← e2,List.append_assoc,List.drop_left,← h1,← hlen,List.take_left]
        cases ag with
        | true =>
          refine ⟨.agg c.toArray,?_,Rv_of (by simpa [Value.cells] using e3) h2.symm⟩
          simp only [Instr.field,Sem.run_bind,run_underlying hu,Result.andThen_ok,hf,asAgg,Sem.run_pure,part,run_isAgg ha,if_true,run_sizeOf hz,ho]
          congr 2
          rw [← hcut]
          apply Array.ext'
          simp
        | false =>
          have h1':c.length = 1:=by
            rw [hlen]
            cases y <;> first | rfl | cases h2
          match c,h1' with
          | [u],_ =>
            have hv:=Rc_one y [u] e3 u (by simp)
            have hva:vIsA u = false:=by cases u <;> first | rfl | cases hv
            refine ⟨u,?_,Rv_one e3 h2 hva⟩
            have hget:css.flatten[off]? = some u:=by
              rw [e1,← hs,← e2,List.append_assoc,List.getElem?_append_right (by omega)]; simp
            simp [Instr.field,run_underlying hu,hf,asAgg,part,run_isAgg ha,ho,hget]
    · cases h
  | _=>cases h
theorem idx_ok {t e n ag sz X I v vi y} (ht:P.underlying t = some (.array n e)) (hz:sizeB P e = some sz) (ha:aggB P e = some ag) (hx:Rv C X v) (hi:Rv C I vi) (h:doX (.idx n sz ag) X I = some y) :
    ∃ u,(Instr.index t v vi).run P C.w = .ok u C.w ∧ Rv C y u:=by
  cases X with
  | agg l =>
    cases I with
    | int k i =>
      have hvi:=Rv_int hi
      subst hvi
      simp only [doX] at h
      split at h
      · rename_i hh
        obtain ⟨h0,hn,hs⟩:=hh
        obtain ⟨e,h1,h2⟩:=fits_inv h
        obtain ⟨css,hcl,rfl⟩:=Rv_agg hx
        obtain ⟨c,e1,e2,e3⟩:=sizes_take_get hcl e
        have hlen:=Rc_len _ _ e3
        have hcut:(css.flatten.drop (i.toNat * sz)).take sz = c:=by
          rw [e1,← hs,← e2,List.append_assoc,List.drop_left,← h1,← hlen,List.take_left]
        cases ag with
        | true =>
          refine ⟨.agg c.toArray,?_,Rv_of (by simpa [Value.cells] using e3) h2.symm⟩
          simp only [Instr.index,asIntOf,Sem.run_bind,run_underlying ht,Result.andThen_ok,Sem.run_pure,h0,hn,and_self,if_true,part,run_isAgg ha,run_sizeOf hz]
          congr 2
          rw [← hcut]
          apply Array.ext'
          simp
        | false =>
          have h1':c.length = 1:=by
            rw [hlen]
            cases y <;> first | rfl | cases h2
          match c,h1' with
          | [u],_ =>
            have hv:=Rc_one y [u] e3 u (by simp)
            have hva:vIsA u = false:=by cases u <;> first | rfl | cases hv
            refine ⟨u,?_,Rv_one e3 h2 hva⟩
            have hget:css.flatten[i.toNat * sz]? = some u:=by
              rw [e1,← hs,← e2,List.append_assoc,List.getElem?_append_right (by omega)]; simp
            simp [Instr.index,asIntOf,run_underlying ht,part,run_isAgg ha,run_sizeOf hz,h0,hn,hget]
      · cases h
    | _=>cases h
  | _=>cases I <;> cases h
def sliceB (P:Program) (t:TypeId):Option TypeId :=
  match P.underlying t with
  | some (.slice e)=>some e
  | _=>none
theorem sliceB_inv {t e} (h:sliceB P t = some e):P.underlying t = some (.slice e):=by
  unfold sliceB at h
  cases hu:P.underlying t with
  | none=>rw [hu] at h; cases h
  | some d=>rw [hu] at h; cases d <;> first | (cases h; rfl) | cases h
theorem indexAddr_ok {t e sz X I v vi y} (ht:sliceB P t = some e) (hz:sizeB P e = some sz) (hx:Rv C X v) (hi:Rv C I vi) (h:doIndexAddr sz X I = some y) :
    ∃ u,(Instr.indexAt t v vi).run P C.w = .ok u C.w ∧ Rv C y u:=by
  have hu:=sliceB_inv ht
  have hrun:∀ b o len cap k (n:Int),v = .slice (some ⟨b,o,none⟩) len cap → vi = .int k n → 0 ≤ n → n < len →
      (Instr.indexAt t v vi).run P C.w = .ok (.pointer (some ⟨b,o + n.toNat * sz,none⟩)) C.w:=by
    rintro b o len cap k n rfl rfl h0 h1
    simp [Instr.indexAt,asIntOf,run_underlying hu,h0,h1,run_sizeOf hz,addr_add]
  cases I with
  | int k n =>
    have hvi:=Rv_int hi
    cases X with
    | isl l =>
      simp only [doIndexAddr] at h
      split at h
      · rename_i h0
        cases hl:l[n.toNat]? with
        | none=>rw [hl] at h; cases h
        | some z =>
          rw [hl] at h
          simp only [iptrOf] at h
          split at h
          · rename_i hzs
            cases h
            have hlt:n.toNat < l.length:=(List.getElem?_eq_some_iff.1 hl).1
            obtain ⟨a,cap,rfl,hn⟩:=Rv_isl hx
            rcases hn with hn | ⟨b,off,css,sz',rfl,hF,hc,hr,hun,hm⟩
            · omega
            · obtain ⟨c,hcc,hrz⟩:=Rcl_get l css _ z hr hl
              have hsz:sz' = sz:=by rw [← hzs,← Rc_len _ _ hrz]; exact (hun c (List.mem_of_getElem? hcc)).symm
              subst hsz
              refine ⟨_,hrun b off _ cap k n rfl hvi h0 (by omega),Rv_one ?_ rfl rfl⟩
              simp only [Rc]
              rw [flatten_split css _ c hcc] at hm
              have:=cellsAt_part hm
              rw [take_uniform css hun _ (by have:=(List.getElem?_eq_some_iff.1 hcc).1; omega)] at this
              exact ⟨b,off + n.toNat * sz',c,rfl,hF,hrz,this⟩
          · cases h
      · cases h
    | sl o g sz' st len =>
      simp only [doIndexAddr] at h
      split at h
      · rename_i hh
        obtain ⟨h0,h1,h2⟩:=hh
        subst h2
        cases h
        rcases Rv_sl hx with ⟨b,bs,cap,hb,rfl,hl,hroom⟩ | ⟨_,_,hl,_⟩
        · refine ⟨_,hrun b _ len cap k n rfl hvi h0 h1,Rv_one ?_ rfl rfl⟩
          simp only [Rc]
          exact ⟨b,bs,hb,by simp [offs,Nat.add_mul]; omega⟩
        · omega
      · cases h
    | _=>cases h
  | _=>cases X <;> cases h
theorem indexArr_ok {t e n sz X I v vi y} (ht:P.underlying t = some (.array n e)) (hz:sizeB P e = some sz) (hx:Rv C X v) (hi:Rv C I vi) (h:doIndexArr n sz X I = some y) :
    ∃ u,(Instr.indexAt t v vi).run P C.w = .ok u C.w ∧ Rv C y u:=by
  have hrun:∀ b o k (i:Int),v = .pointer (some ⟨b,o,none⟩) → vi = .int k i → 0 ≤ i → i < n →
      (Instr.indexAt t v vi).run P C.w = .ok (.pointer (some ⟨b,o + i.toNat * sz,none⟩)) C.w:=by
    rintro b o k i rfl rfl h0 h1
    simp [Instr.indexAt,asIntOf,run_underlying ht,Instr.sureAddr,h0,h1,run_sizeOf hz,addr_add]
  cases I with
  | int k i =>
    have hvi:=Rv_int hi
    cases X with
    | iptr x =>
      cases x with
      | agg l =>
        simp only [doIndexArr] at h
        split at h
        · rename_i hh
          obtain ⟨h0,h1,hs⟩:=hh
          obtain ⟨b,o,xs,rfl,hF,hr,hm⟩:=Rv_iptr hx
          cases hl:l[i.toNat]? with
          | none=>rw [hl] at h; cases h
          | some z =>
            rw [hl] at h
            simp only [iptrOf] at h
            split at h
            · cases h
              simp only [Rc] at hr
              obtain ⟨css,hcl,rfl⟩:=hr
              obtain ⟨c,e1,e2,e3⟩:=sizes_take_get hcl hl
              refine ⟨_,hrun b o k i rfl hvi h0 h1,Rv_one ?_ rfl rfl⟩
              simp only [Rc]
              rw [e1] at hm
              have:=cellsAt_part hm
              rw [e2,hs] at this
              exact ⟨b,_,c,rfl,hF,e3,this⟩
            · cases h
        · cases h
      | _=>cases h
    | ptr o g p =>
      simp only [doIndexArr] at h
      split at h
      · rename_i hh
        cases h
        obtain ⟨b,bs,hb,rfl⟩:=Rv_ptr hx
        refine ⟨_,hrun b _ k i rfl hvi hh.1 hh.2,Rv_one ?_ rfl rfl⟩
        simp only [Rc]
        exact ⟨b,bs,hb,by simp [offs]; omega⟩
      · cases h
    | _=>cases h
  | _ =>
    cases X with
    | iptr x=>cases x <;> cases h
    | _=>cases h
theorem indexStr_ok {t X I v vi y} (ht:P.underlying t = some .string) (hx:Rv C X v) (hi:Rv C I vi) (h:doIndexStr X I = some y) :
    ∃ u,(Instr.index t v vi).run P C.w = .ok u C.w ∧ Rv C y u:=by
  cases X with
  | a x =>
    cases I with
    | int k n =>
      cases x <;> try (cases h; done)
      rename_i s
      simp only [doIndexStr] at h
      split at h
      · rename_i h0
        cases hs:s[n.toNat]? with
        | none=>rw [hs] at h; cases h
        | some b =>
          rw [hs] at h; cases h
          rw [(Rv_a hx).1,Rv_int hi]
          exact ⟨.int .u8 b.toNat,by simp [Instr.index,asIntOf,run_underlying ht,h0,hs],mk_int _ _⟩
      · cases h
    | _=>cases x <;> cases h
  | _=>cases I <;> cases h
end Tor
