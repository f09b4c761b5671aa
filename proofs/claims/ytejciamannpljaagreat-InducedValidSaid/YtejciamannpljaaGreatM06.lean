/-
  A part of the proof: an abstract machine for the program, its soundness, and what the functions compute (Chn2, Chn3, Chn4, Chn5, Chn6, Chn7, Chn8, Chn9, Cx1, Cx2, Chn10, Chn11, Chn12, Cx3, Pl1, Pl2, Pl3, Pl4, Pl5, Srt, Law2, Law3, Law5, Cx4, Cx5, Cx6, Cx8).
  Conditions: none.
-/
import Derived.Test.YtejciamannpljaaGreatM05
set_option linter.unusedSectionVars false
set_option linter.unusedVariables false
set_option linter.unusedSimpArgs false
set_option linter.defProp false
namespace Tor
open Go
variable {E:CallF}
def insR (f:Int × Int):Bool → List (Int × Int) → List (Int × Int)
  | d,[]=>if d then [] else [f]
  | d,x :: r=>if d = false ∧ x.1 > f.1 then f :: x :: insR f true r
    else if d = false ∧ x.1 = f.1 then (if x.2 + f.2 ≠ 0 then (f.1,x.2 + f.2) :: insR f true r else insR f true r)
    else x :: insR f d r
def nst (l:List (Int × Int)) (f:Int × Int) (out:List (Int × Int)) (d:Bool) (i:Nat):St :=
  { vars:=[.isl (l.map fA),fA f,.isl [],.sl 0 out.length 3 0 out.length,.bool d,.int .i64 i,.u,.u,.u,.u,.u,fA f,.u],heap:=[.arr out.length 3 (out.map fA)],rs:=false }
theorem fA_size (p:Int × Int):(fA p).size = 3:=by simp [fA,AV.size,AV.sizes,Z_size]
theorem fz_fA (n:Nat) (H:Heap) (k:Nat) (p:Int × Int):fz n H (k + 3) (fA p) = fA p:=by simp only [fA,fz,List.map_cons,List.map_nil,fz_Z]
theorem fz_fAs (n:Nat) (H:Heap) (k:Nat):∀ l:List (Int × Int),(l.map fA).map (fz n H (k + 3)) = l.map fA
  | []=>rfl
  | p :: r=>by rw [List.map_cons,List.map_cons,fz_fA,fz_fAs n H k r]
theorem fz_fAs7 (n:Nat) (H:Heap) (l:List (Int × Int)):(l.map fA).map (fz n H 7) = l.map fA:=fz_fAs n H 4 l
theorem solid_fA (p:Int × Int):(fA p).solid = true:=by simp [fA,AV.solid,AV.solids,Z_solid,AV.hasRef,AV.hasRefs,Z_ref]
theorem solids_fA:∀ l:List (Int × Int),AV.solids (l.map fA) = true
  | []=>rfl
  | p :: r=>by simp only [List.map_cons,AV.solids,solid_fA,fA_ref,solids_fA r]; rfl
theorem headSize_fA (l:List (Int × Int)):headSize 3 (l.map fA) = true:=by cases l <;> simp [headSize,fA_size]
theorem take_all {α:Type} (l:List α) (f:α → AV):List.take l.length (l.map f) = l.map f:=List.take_of_length_le (by simp)
section
variable (hE:Free E)
include hE
theorem ins_keep (l:List (Int × Int)) (f:Int × Int) (hs:l.length < 2147483648) (out:List (Int × Int)) (ho:out.length < 2147483650) (d:Bool) (i:Nat) (h1:i < l.length)
    (h:d = true ∨ (¬ l[i].1 > f.1 ∧ l[i].1 ≠ f.1)):run E GP a29l0 (nst l f out d i) = run E GP a29l0 (nst l f (out ++ [l[i]]) d (i + 1)):=by
  have k1:(i:Int) < (l.length:Int):=by omega
  have g1:=fA_get h1
  have wi:IntKind.i64.wrap ((i:Int) + 1) = ((i + 1:Nat):Int):=i64a (by omega)
  have hm:out.length + 1 ≤ 4294967296:=by omega
  have el:(out ++ [l[i]]).length = out.length + 1:=by simp
  conv=>lhs; rw [a29l0_run]
  cases d with
  | true =>
    simp (maxSteps:=1000000) only [si,simprocAttr,nst,fA,a29b0,a29R,k1,g1,wi,hm,maxLenA,List.map_append,el]
  | false =>
    have h':¬ l[i].1 > f.1 ∧ l[i].1 ≠ f.1:=by rcases h with h | h; cases h; exact h
    simp (maxSteps:=1000000) only [si,simprocAttr,nst,fA,a29b0,a29R,k1,g1,wi,hm,maxLenA,List.map_append,el,h'.1,h'.2]
theorem ins_put (l:List (Int × Int)) (f:Int × Int) (hs:l.length < 2147483648) (out:List (Int × Int)) (ho:out.length < 2147483650) (i:Nat) (h1:i < l.length)
    (h:l[i].1 > f.1):run E GP a29l0 (nst l f out false i) = run E GP a29l0 (nst l f (out ++ [f] ++ [l[i]]) true (i + 1)):=by
  have k1:(i:Int) < (l.length:Int):=by omega
  have g1:=fA_get h1
  have wi:IntKind.i64.wrap ((i:Int) + 1) = ((i + 1:Nat):Int):=i64a (by omega)
  have hm:out.length + 1 ≤ 4294967296:=by omega
  have hm2:out.length + 1 + 1 ≤ 4294967296:=by omega
  have el:(out ++ [f] ++ [l[i]]).length = out.length + 1 + 1:=by simp
  conv=>lhs; rw [a29l0_run]
  simp (maxSteps:=1000000) only [si,simprocAttr,nst,fA,a29b0,a29R,k1,g1,wi,hm,hm2,maxLenA,List.map_append,List.length_append,List.length_cons,List.length_nil,Nat.zero_add,h]
theorem ins_sum (l:List (Int × Int)) (f:Int × Int) (hf:Sm f) (hs:l.length < 2147483648) (out:List (Int × Int)) (ho:out.length < 2147483650) (i:Nat) (h1:i < l.length) (hli:Sm l[i])
    (h:l[i].1 = f.1):run E GP a29l0 (nst l f out false i) = run E GP a29l0 (nst l f (if l[i].2 + f.2 ≠ 0 then out ++ [(f.1,l[i].2 + f.2)] else out) true (i + 1)):=by
  have k1:(i:Int) < (l.length:Int):=by omega
  have g1:=fA_get h1
  rw [h] at g1
  have k2:¬ f.1 > f.1:=by omega
  have wi:IntKind.i64.wrap ((i:Int) + 1) = ((i + 1:Nat):Int):=i64a (by omega)
  have hm:out.length + 1 ≤ 4294967296:=by omega
  have ha:=fun H=>r1_add hE l[i].2 f.2 H (by unfold Sm at hli; omega) (by unfold Sm at hf; omega)
  have hg:=r1_sign hE (l[i].2 + f.2)
  have el:(out ++ [(f.1,l[i].2 + f.2)]).length = out.length + 1:=by simp
  conv=>lhs; rw [a29l0_run]
  by_cases hz:l[i].2 + f.2 = 0
  · rw [if_neg (by simpa using hz)]
    rw [hz] at ha hg
    simp only [Int.sign_zero] at hg
    simp (maxSteps:=1000000) only [si,simprocAttr,nst,fA,a29b0,a29R,k1,g1,wi,hm,maxLenA,List.map_append,k2,ha,hg,ne_eq,not_true_eq_false,decide_false]
  · rw [if_pos hz]
    have hsg:(l[i].2 + f.2).sign ≠ 0:=by
      intro e; exact hz (Int.sign_eq_zero_iff_zero.1 e)
    simp (maxSteps:=1000000) only [si,simprocAttr,nst,fA,a29b0,a29R,k1,g1,wi,hm,maxLenA,List.map_append,el,k2,ha,hg,hsg,ne_eq,not_false_eq_true,decide_true]
omit hE in
theorem ins_exit (l:List (Int × Int)) (f:Int × Int) (out:List (Int × Int)) (d:Bool) :
    run E GP a29l0 (nst l f out d l.length) = some (.exit 0,{ vars:=[.isl (l.map fA),fA f,.isl [],.sl 0 out.length 3 0 out.length,.bool d,.int .i64 l.length,.bool false,.u,.u,.u,.u,fA f,.u],heap:=[.arr out.length 3 (out.map fA)],rs:=false }):=by
  have k1:¬ (l.length:Int) < (l.length:Int):=by omega
  rw [a29l0_run]
  simp (maxSteps:=1000000) only [si,simprocAttr,nst,fA,a29b0,a29R,k1]
def insEnd (f:Int × Int) (d:Bool):List (Int × Int):=if d then [] else [f]
theorem ins_loop (l:List (Int × Int)) (f:Int × Int) (hf:Sm f) (hl:∀ p ∈ l,Sm p) (hs:l.length < 2147483648):∀ (k i:Nat) (d:Bool) (out:List (Int × Int)),l.length = i + k → out.length ≤ i + (if d then 1 else 0) →
    ∃ (out':List (Int × Int)) (d':Bool),run E GP a29l0 (nst l f out d i) = some (.exit 0,{ vars:=[.isl (l.map fA),fA f,.isl [],.sl 0 out'.length 3 0 out'.length,.bool d',.int .i64 l.length,.bool false,.u,.u,.u,.u,fA f,.u],heap:=[.arr out'.length 3 (out'.map fA)],rs:=false }) ∧
      out'.length ≤ l.length + 1 ∧ out' ++ insEnd f d' = out ++ insR f d (l.drop i):=by
  intro k
  induction k with
  | zero =>
    intro i d out h1 h2
    have hi:i = l.length:=by omega
    subst hi
    refine ⟨out,d,ins_exit l f out d,by cases d <;> simp at h2 <;> omega,?_⟩
    rw [List.drop_length]; cases d <;> rfl
  | succ k ih =>
    intro i d out h1 h2
    have hi:i < l.length:=by omega
    have hd:l.drop i = l[i] :: l.drop (i + 1):=List.drop_eq_getElem_cons hi
    have ho:out.length < 2147483650:=by cases d <;> simp at h2 <;> omega
    rw [hd]
    by_cases c1:d = true ∨ (¬ l[i].1 > f.1 ∧ l[i].1 ≠ f.1)
    · rw [ins_keep hE l f hs out ho d i hi c1]
      obtain ⟨out',d',e1,e2,e3⟩:=ih (i + 1) d (out ++ [l[i]]) (by omega) (by simp; omega)
      refine ⟨out',d',e1,e2,e3.trans ?_⟩
      have:insR f d (l[i] :: l.drop (i + 1)) = l[i] :: insR f d (l.drop (i + 1)):=by
        rw [insR,if_neg,if_neg]
        · rintro ⟨a,b⟩; rcases c1 with c | c
          · rw [a] at c; cases c
          · exact c.2 b
        · rintro ⟨a,b⟩; rcases c1 with c | c
          · rw [a] at c; cases c
          · exact c.1 b
      rw [this,List.append_assoc]; rfl
    · have hdf:d = false:=by cases d with
        | true=>exact absurd (Or.inl rfl) c1
        | false=>rfl
      subst hdf
      simp only [Bool.false_eq_true,if_false,Nat.add_zero] at h2
      by_cases c2:l[i].1 > f.1
      · rw [ins_put hE l f hs out ho i hi c2]
        obtain ⟨out',d',e1,e2,e3⟩:=ih (i + 1) true (out ++ [f] ++ [l[i]]) (by omega) (by simp; omega)
        refine ⟨out',d',e1,e2,e3.trans ?_⟩
        rw [insR,if_pos ⟨rfl,c2⟩]; simp
      · have c3:l[i].1 = f.1:=by
          by_cases c3:l[i].1 = f.1
          · exact c3
          · exact absurd (Or.inr ⟨c2,c3⟩) c1
        rw [ins_sum hE l f hf hs out ho i hi (hl _ (List.getElem_mem hi)) c3]
        obtain ⟨out',d',e1,e2,e3⟩:=ih (i + 1) true (if l[i].2 + f.2 ≠ 0 then out ++ [(f.1,l[i].2 + f.2)] else out) (by omega) (by split <;> simp <;> omega)
        refine ⟨out',d',e1,e2,e3.trans ?_⟩
        have hin:insR f false (l[i] :: l.drop (i + 1)) = (if l[i].2 + f.2 ≠ 0 then (f.1,l[i].2 + f.2) :: insR f true (l.drop (i + 1)) else insR f true (l.drop (i + 1))):=by
          rw [insR,if_neg (fun h=>c2 h.2),if_pos ⟨rfl,c3⟩]
        rw [hin]
        by_cases hz:l[i].2 + f.2 ≠ 0
        · rw [if_pos hz,if_pos hz]; simp
        · rw [if_neg hz,if_neg hz]
def insert26 (l:List (Int × Int)) (f:Int × Int):List (Int × Int):=insR f (decide (f.2 = 0)) l
theorem r26_insert (l:List (Int × Int)) (f:Int × Int) (hf:Sm f) (hl:∀ p ∈ l,Sm p) (hs:l.length < 2147483647) (H:Heap) :
    call E GP 29 [.isl (l.map fA),fA f] H = some (.isl ((insert26 l f).map fA),H,false):=by
  rw [call_fun (hE _ _ _ (by decide)) (f:=a29) rfl rfl]
  have hg:=r1_sign hE f.2
  have hz:decide (f.2.sign = 0) = decide (f.2 = 0):=by rw [decide_eq_decide]; exact Int.sign_eq_zero_iff_zero
  obtain ⟨out,d,e1,e2,e3⟩:=ins_loop hE l f hf hl (by omega) l.length 0 (decide (f.2 = 0)) [] (by omega) (by simp)
  rw [List.drop_zero,List.nil_append] at e3
  unfold insert26
  rw [← e3]
  simp only [nst,List.length_nil,List.map_nil,Int.ofNat_zero] at e1
  have e1':=e1
  have hm:out.length + 1 ≤ 4294967296:=by omega
  cases d with
  | true =>
    simp only [insEnd,if_true,List.append_nil]
    simp only [fA] at e1
    simp (maxSteps:=1000000) only [si,simprocAttr,a29,a29R,refs_fA,fA,hg,hz,e1,hm,maxLenA,take_all,fz_fAs7,solids_fA,headSize_fA]
  | false =>
    simp only [insEnd,Bool.false_eq_true,if_false,List.map_append]
    simp only [fA] at e1
    simp (maxSteps:=1000000) only [si,simprocAttr,a29,a29R,refs_fA,fA,hg,hz,e1,hm,maxLenA]
    have e9:List.map fA out ++ [AV.agg [.int .i64 f.1,Z f.2]] = (out ++ [f]).map fA:=by simp [fA]
    have e8:out.length + 1 = (out ++ [f]).length:=by simp
    simp (maxSteps:=1000000) only [si,simprocAttr,e9,e8,take_all,fz_fAs7,solids_fA,refs_fA,headSize_fA]
end
end Tor
namespace Tor
open Go
variable {E:CallF}
def Bd (N:Nat) (l:List (Int × Int)):Prop:=∀ p ∈ l,p.2.natAbs ≤ N
theorem limbs_len_pow {n k:Nat} (hk:n < B32 ^ k):(limbs n).length ≤ k:=by
  rcases Nat.lt_or_ge k (limbs n).length with h | h
  · exfalso
    have hne:limbs n ≠ []:=by intro e; rw [e] at h; simp at h
    obtain ⟨l,d,e⟩:∃ l d,limbs n = l ++ [d]:=⟨_,_,(List.dropLast_concat_getLast hne).symm⟩
    have hd:d ≠ 0:=by
      have:=limbs_last n hne
      simp only [e] at this
      simpa using this
    have h2:=val_limbs n
    rw [e,val_append] at h2
    simp only [val,Nat.mul_zero,Nat.add_zero] at h2
    have h3:l.length + 1 = (limbs n).length:=by rw [e]; simp
    have h4:B32 ^ k ≤ B32 ^ l.length:=Nat.pow_le_pow_right (by decide) (by omega)
    have h5:B32 ^ l.length * 1 ≤ B32 ^ l.length * d:=Nat.mul_le_mul_left _ (by omega)
    omega
  · exact h
theorem big_gen (k:Nat):∃ n:Nat,(∀ m,m < n → (limbs m).length ≤ k) ∧ ∀ b,b ≤ k → B32 ^ b ≤ n :=
  ⟨B32 ^ k,fun m hm=>limbs_len_pow hm,fun b hb=>Nat.pow_le_pow_right (by decide) hb⟩
noncomputable def BIG:Nat:=Classical.choose (big_gen 500000000)
theorem big_len {m:Nat} (h:m < BIG):(limbs m).length ≤ 500000000:=(Classical.choose_spec (big_gen 500000000)).1 m h
theorem big_pow {b:Nat} (h:b ≤ 500000000):B32 ^ b ≤ BIG:=(Classical.choose_spec (big_gen 500000000)).2 b h
theorem big_le:340282366920938463463374607431768211456 ≤ BIG:=by
  have h:(340282366920938463463374607431768211456:Nat) = B32 ^ 4:=by decide
  rw [h]
  exact big_pow (by decide)
theorem sm_of {N:Nat} (hN:N < BIG) {p:Int × Int} (h:p.2.natAbs ≤ N):Sm p:=by
  have:=big_len (Nat.lt_of_le_of_lt h hN)
  unfold Sm; omega
theorem bd_mono {M N:Nat} (h:M ≤ N) {l:List (Int × Int)} (hl:Bd M l):Bd N l:=fun p hp=>Nat.le_trans (hl p hp) h
theorem insR_bd {M N:Nat} {f:Int × Int} (hf:f.2.natAbs ≤ N):∀ (l:List (Int × Int)) (d:Bool),Bd M l → Bd (M + N) (insR f d l)
  | [],d,_=>by
    cases d <;> intro p hp <;> simp [insR] at hp
    subst hp; omega
  | x :: r,d,h=>by
    have hx:x.2.natAbs ≤ M:=h x (.head _)
    have hr:Bd M r:=fun p hp=>h p (.tail _ hp)
    have i1:=insR_bd hf r true hr
    have i2:=insR_bd hf r d hr
    rw [insR]
    split
    · intro p hp
      cases hp with
      | head=>omega
      | tail _ hp=>cases hp with
        | head=>omega
        | tail _ hp=>exact i1 p hp
    · split
      · split
        · intro p hp
          cases hp with
          | head=>simp only; omega
          | tail _ hp=>exact i1 p hp
        · exact i1
      · intro p hp
        cases hp with
        | head=>omega
        | tail _ hp=>exact i2 p hp
theorem insR_len (f:Int × Int):∀ (l:List (Int × Int)) (d:Bool),(insR f d l).length ≤ l.length + 1
  | [],d=>by cases d <;> simp [insR]
  | x :: r,d=>by
    have i0:∀ r:List (Int × Int),(insR f true r).length ≤ r.length:=by
      intro r
      induction r with
      | nil=>simp [insR]
      | cons y r ih=>simp [insR]; exact ih
    have i1:=i0 r
    have i2:=insR_len f r d
    rw [insR]
    split
    · simp; omega
    · split
      · split
        · simp; omega
        · simp; omega
      · simp; omega
section
variable (hE:Free E)
include hE
theorem make_loop (l:List (Int × Int)) (N:Nat) (hl:Bd N l) (hs:l.length < 2147483647) (hN:N * (l.length + 1) < BIG):∀ (k i:Nat) (acc:List (Int × Int)),l.length = i + k → Bd (N * i) acc → acc.length ≤ i →
    run E GP a3l0 { vars:=[.isl (l.map fA),.isl [],.isl (acc.map fA),.int .i64 (i:Nat),.u],heap:=[],rs:=false } =
      some (.exit 0,{ vars:=[.isl (l.map fA),.isl [],.isl (((l.drop i).foldl insert26 acc).map fA),.int .i64 l.length,.bool false],heap:=[],rs:=false }):=by
  intro k
  induction k with
  | zero =>
    intro i acc h1 h2 h3
    have hi:i = l.length:=by omega
    subst hi
    have k1:¬ (l.length:Int) < (l.length:Int):=by omega
    rw [a3l0_run,List.drop_length,List.foldl_nil]
    simp (maxSteps:=1000000) only [si,simprocAttr,a3b0,a3R,k1]
  | succ k ih =>
    intro i acc h1 h2 h3
    have hi:i < l.length:=by omega
    have k1:(i:Int) < (l.length:Int):=by omega
    have g1:(l.map fA)[i]? = some (fA l[i]):=by simp [hi]
    have wi:IntKind.i64.wrap ((i:Int) + 1) = ((i + 1:Nat):Int):=i64a (by omega)
    have hd:l.drop i = l[i] :: l.drop (i + 1):=List.drop_eq_getElem_cons hi
    have hb:=hl _ (List.getElem_mem hi)
    have hNi:N * i ≤ N * (l.length + 1):=Nat.mul_le_mul_left _ (by omega)
    have hN1:N * 1 ≤ N * (l.length + 1):=Nat.mul_le_mul_left _ (by omega)
    have hins:=r26_insert hE acc l[i] (sm_of (N:=N) (by omega) hb) (fun p hp=>sm_of (N:=N * i) (by omega) (h2 p hp)) (by omega)
    have hacc:Bd (N * (i + 1)) (insert26 acc l[i]):=by
      rw [Nat.mul_succ]; exact insR_bd hb acc _ h2
    have hlen:=insR_len l[i] acc (decide (l[i].2 = 0))
    rw [hd,List.foldl_cons,← ih (i + 1) (insert26 acc l[i]) (by omega) hacc (by unfold insert26; omega)]
    conv=>lhs; rw [a3l0_run]
    have hsz:=fA_size l[i]
    have hA:(fA l[i]).isA = true:=rfl
    have hK:(fA l[i]).known = true:=rfl
    have hR:=fA_ref l[i]
    simp (maxSteps:=1000000) only [si,simprocAttr,a3b0,a3R,k1,g1,wi,hsz,hA,hK,hR,hins]
theorem r26_make (l:List (Int × Int)) (N:Nat) (hl:Bd N l) (hs:l.length < 2147483647) (hN:N * (l.length + 1) < BIG) (H:Heap) :
    call E GP 3 [.isl (l.map fA)] H = some (.isl ((l.foldl insert26 []).map fA),H,false):=by
  rw [call_fun (hE _ _ _ (by decide)) (f:=a3) rfl rfl]
  have hr:=make_loop hE l N hl hs hN l.length 0 [] (by omega) (by intro p hp; cases hp) (by simp)
  simp only [List.map_nil,Int.ofNat_zero,List.drop_zero] at hr
  simp (maxSteps:=1000000) only [si,simprocAttr,a3,a3R,refs_fA,hr,fz_fAs7,solids_fA]
end
end Tor
namespace Tor
open Go
variable {E:CallF} (hE:Free E)
include hE
theorem add_loop (l:List (Int × Int)) (c:Int) (av:AV) (ha:av.under 0 = true) (M N:Nat) (hc:Sm (0,c)) (hsm:∀ p ∈ l,Sm p) (hl:∀ p ∈ l,(c * p.2).natAbs ≤ N) (hs:l.length < 1073741824) (hN:M + N * (l.length + 1) < BIG):∀ (k i:Nat) (acc:List (Int × Int)),l.length = i + k → Bd (M + N * i) acc → acc.length ≤ 1073741824 + i →
    run E GP a16l0 { vars:=[av,.isl (l.map fA),Z c,.isl [],.isl (acc.map fA),.int .i64 (i:Nat),.u,Z c],heap:=[],rs:=false } =
      some (.exit 0,{ vars:=[av,.isl (l.map fA),Z c,.isl [],.isl (((l.drop i).foldl (fun a p=>insert26 a (p.1,c * p.2)) acc).map fA),.int .i64 l.length,.bool false,Z c],heap:=[],rs:=false }):=by
  intro k
  induction k with
  | zero =>
    intro i acc h1 h2 h3
    have hi:i = l.length:=by omega
    subst hi
    have k1:¬ (l.length:Int) < (l.length:Int):=by omega
    rw [a16l0_run,List.drop_length,List.foldl_nil]
    simp (maxSteps:=1000000) only [si,simprocAttr,a16b0,a16R,k1,ha]
  | succ k ih =>
    intro i acc h1 h2 h3
    have hi:i < l.length:=by omega
    have k1:(i:Int) < (l.length:Int):=by omega
    have g1:=fA_get hi
    have wi:IntKind.i64.wrap ((i:Int) + 1) = ((i + 1:Nat):Int):=i64a (by omega)
    have hd:l.drop i = l[i] :: l.drop (i + 1):=List.drop_eq_getElem_cons hi
    have hb:=hl _ (List.getElem_mem hi)
    have hp:=hsm _ (List.getElem_mem hi)
    have hNi:N * i ≤ N * (l.length + 1):=Nat.mul_le_mul_left _ (by omega)
    have hN1:N * 1 ≤ N * (l.length + 1):=Nat.mul_le_mul_left _ (by omega)
    have hmul:=fun H=>r1_mul hE c l[i].2 H (by unfold Sm at hc; simp only at hc; omega) (by unfold Sm at hp; omega) (by unfold Sm at hc hp; simp only at hc; omega)
    have hins:=r26_insert hE acc (l[i].1,c * l[i].2) (sm_of (N:=N) (by omega) hb) (fun p hp=>sm_of (N:=M + N * i) (by omega) (h2 p hp)) (by omega)
    have hacc:Bd (M + N * (i + 1)) (insert26 acc (l[i].1,c * l[i].2)):=by
      rw [Nat.mul_succ,← Nat.add_assoc]; exact insR_bd hb acc _ h2
    have hlen:=insR_len (l[i].1,c * l[i].2) acc (decide (c * l[i].2 = 0))
    rw [hd,List.foldl_cons,← ih (i + 1) (insert26 acc (l[i].1,c * l[i].2)) (by omega) hacc (by unfold insert26; simp only; omega)]
    conv=>lhs; rw [a16l0_run]
    simp only [fA] at hins
    simp (maxSteps:=1000000) only [si,simprocAttr,a16b0,a16R,k1,g1,wi,hmul,hins,ha]
def add26 (a l:List (Int × Int)) (c:Int):List (Int × Int):=l.foldl (fun a p=>insert26 a (p.1,c * p.2)) a
theorem r26_add (a l:List (Int × Int)) (c:Int) (M N:Nat) (ha:Bd M a) (hc:Sm (0,c)) (hsm:∀ p ∈ l,Sm p) (hl:∀ p ∈ l,(c * p.2).natAbs ≤ N) (hsa:a.length ≤ 1073741824) (hs:l.length < 1073741824) (hN:M + N * (l.length + 1) < BIG) (H:Heap) :
    call E GP 16 [.isl (a.map fA),.isl (l.map fA),Z c] H = some (.isl ((add26 a l c).map fA),H,false):=by
  rw [call_fun (hE _ _ _ (by decide)) (f:=a16) rfl rfl]
  have hr:=add_loop hE l c (.isl (a.map fA)) (by simp [AV.under,refs_fA]) M N hc hsm hl hs hN l.length 0 a (by omega) (by simpa using ha) (by omega)
  simp only [Int.ofNat_zero,List.drop_zero] at hr
  unfold add26
  simp (maxSteps:=1000000) only [si,simprocAttr,a16,a16R,refs_fA,hr,fz_fAs7,solids_fA]
end Tor
namespace Tor
open Go
variable {E:CallF} (hE:Free E)
include hE
def okAt (l:List (Int × Int)) (i:Nat):Bool:=decide ((l.getD i (0,0)).2.sign ≠ 0) && (decide (i = 0) || decide ((l.getD (i - 1) (0,0)).1 < (l.getD i (0,0)).1))
omit hE in
theorem getD_get (l:List (Int × Int)) (i:Nat) (h:i < l.length):l[i] = l.getD i (0,0):=by simp [List.getD,h]
theorem valid_loop (l:List (Int × Int)) (hl:∀ p ∈ l,Sm p) (hs:l.length < 2147483648):∀ k i,l.length = i + k →
    ((∀ j,i ≤ j → j < l.length → okAt l j = true) → run E GP a17l0 { vars:=[.isl (l.map fA),.bool false,.int .i64 (i:Nat),.u,.u],heap:=[],rs:=false } =
      some (.exit 0,{ vars:=[.isl (l.map fA),.bool false,.int .i64 l.length,.bool false,.u],heap:=[],rs:=false })) ∧
    ((¬ ∀ j,i ≤ j → j < l.length → okAt l j = true) → ∃ j:Nat,run E GP a17l0 { vars:=[.isl (l.map fA),.bool false,.int .i64 (i:Nat),.u,.u],heap:=[],rs:=false } =
      some (.ret,{ vars:=[.isl (l.map fA),.bool false,.int .i64 j,.bool true,.bool true],heap:=[],rs:=false })):=by
  intro k
  induction k with
  | zero =>
    intro i h
    have hi:i = l.length:=by omega
    subst hi
    have k1:¬ (l.length:Int) < (l.length:Int):=by omega
    refine ⟨fun _=>?_,fun h=>absurd (fun j h1 h2=>by omega) h⟩
    rw [a17l0_run]
    simp (maxSteps:=1000000) only [si,simprocAttr,a17b0,a17R,k1]
  | succ k ih =>
    intro i h
    have h1:i < l.length:=by omega
    have k1:(i:Int) < (l.length:Int):=by omega
    have g1:=fA_get h1
    have wi:IntKind.i64.wrap ((i:Int) + 1) = ((i + 1:Nat):Int):=i64a (by omega)
    have s1:=hl _ (List.getElem_mem h1)
    have hv:=fun H=>r1_valid hE l[i].2 H (by unfold Sm at s1; omega)
    have hg:=r1_sign hE l[i].2
    obtain ⟨ih1,ih2⟩:=ih (i + 1) (by omega)
    have hok:okAt l i = (decide (l[i].2.sign ≠ 0) && (decide (i = 0) || decide ((l.getD (i - 1) (0,0)).1 < l[i].1))):=by
      unfold okAt; rw [getD_get l i h1]
    have hiff:(∀ j,i ≤ j → j < l.length → okAt l j = true) ↔ okAt l i = true ∧ ∀ j,i + 1 ≤ j → j < l.length → okAt l j = true:=by
      constructor
      · exact fun hh=>⟨hh i (Nat.le_refl _) h1,fun j a b=>hh j (by omega) b⟩
      · rintro ⟨a,b⟩ j c d
        rcases Nat.eq_or_lt_of_le c with e | e
        · subst e; exact a
        · exact b j e d
    have hround:okAt l i = true → run E GP a17l0 { vars:=[.isl (l.map fA),.bool false,.int .i64 (i:Nat),.u,.u],heap:=[],rs:=false } = run E GP a17l0 { vars:=[.isl (l.map fA),.bool false,.int .i64 ((i + 1:Nat):Int),.u,.u],heap:=[],rs:=false }:=by
      intro hk
      rw [hok] at hk
      simp only [Bool.and_eq_true,decide_eq_true_eq,Bool.or_eq_true] at hk
      obtain ⟨hk1,hk2⟩:=hk
      conv=>lhs; rw [a17l0_run]
      by_cases hi0:i = 0
      · have k2:¬ (i:Int) > 0:=by omega
        simp (maxSteps:=1000000) only [si,simprocAttr,a17b0,a17R,k1,g1,wi,hv,hg,hk1,k2]
      · have k2:(i:Int) > 0:=by omega
        have hp:IntKind.i64.wrap ((i:Int) - 1) = ((i - 1:Nat):Int):=by rw [i64w (by omega)]; omega
        have g0:=fA_get (l:=l) (i:=i - 1) (by omega)
        have hk3:¬ l[i - 1].1 ≥ l[i].1:=by
          have:=hk2.resolve_left hi0
          rw [← getD_get l (i - 1) (by omega)] at this; omega
        have k3:((i - 1:Nat):Int) < (l.length:Int):=by omega
        simp (maxSteps:=1000000) only [si,simprocAttr,a17b0,a17R,k1,g1,wi,hv,hg,hk1,k2,hp,g0,hk3,k3]
    have hstop:okAt l i = false → run E GP a17l0 { vars:=[.isl (l.map fA),.bool false,.int .i64 (i:Nat),.u,.u],heap:=[],rs:=false } = some (.ret,{ vars:=[.isl (l.map fA),.bool false,.int .i64 i,.bool true,.bool true],heap:=[],rs:=false }):=by
      intro hk
      rw [hok] at hk
      rw [a17l0_run]
      by_cases hz:l[i].2.sign = 0
      · simp (maxSteps:=1000000) only [si,simprocAttr,a17b0,a17R,k1,g1,wi,hv,hg,hz]
      · have hk2:i ≠ 0 ∧ ¬ (l.getD (i - 1) (0,0)).1 < l[i].1:=by
          rw [show decide (l[i].2.sign ≠ 0) = true by simpa using hz,Bool.true_and,Bool.or_eq_false_iff] at hk
          exact ⟨by simpa using hk.1,by simpa using hk.2⟩
        have k2:(i:Int) > 0:=by omega
        have hp:IntKind.i64.wrap ((i:Int) - 1) = ((i - 1:Nat):Int):=by rw [i64w (by omega)]; omega
        have g0:=fA_get (l:=l) (i:=i - 1) (by omega)
        have hk3:l[i - 1].1 ≥ l[i].1:=by
          have:=hk2.2
          rw [← getD_get l (i - 1) (by omega)] at this; omega
        have k3:((i - 1:Nat):Int) < (l.length:Int):=by omega
        simp (maxSteps:=1000000) only [si,simprocAttr,a17b0,a17R,k1,g1,wi,hv,hg,hz,k2,hp,g0,hk3,k3]
    rw [hiff]
    cases hc:okAt l i with
    | true =>
      rw [hround hc]
      refine ⟨fun hh=>ih1 hh.2,fun hh=>ih2 (fun a=>hh ⟨rfl,a⟩)⟩
    | false =>
      refine ⟨fun hh=>(Bool.false_ne_true hh.1).elim,fun _=>⟨i,hstop hc⟩⟩
def valid26 (l:List (Int × Int)):Bool:=(List.range l.length).all (okAt l)
theorem r26_valid (l:List (Int × Int)) (hl:∀ p ∈ l,Sm p) (hs:l.length < 2147483648) (H:Heap) :
    call E GP 17 [.isl (l.map fA)] H = some (.bool (valid26 l),H,false):=by
  rw [call_fun (hE _ _ _ (by decide)) (f:=a17) rfl rfl]
  obtain ⟨h1,h2⟩:=valid_loop hE l hl hs l.length 0 (by omega)
  simp only [Int.ofNat_zero] at h1 h2
  by_cases c:∀ j,0 ≤ j → j < l.length → okAt l j = true
  · have hv:valid26 l = true:=by
      unfold valid26; rw [List.all_eq_true]; intro j hj; exact c j (Nat.zero_le _) (List.mem_range.1 hj)
    have hr:=h1 c
    simp (maxSteps:=1000000) only [si,simprocAttr,a17,a17R,refs_fA,hr,hv]
  · have hv:valid26 l = false:=by
      cases hh:valid26 l with
      | false=>rfl
      | true=>exact absurd (fun j _ hj=>by unfold valid26 at hh; rw [List.all_eq_true] at hh; exact hh j (List.mem_range.2 hj)) c
    obtain ⟨j,hr⟩:=h2 c
    simp (maxSteps:=1000000) only [si,simprocAttr,a17,a17R,refs_fA,hr,hv]
end Tor
namespace Tor
open Go
variable {E:CallF} (hE:Free E)
include hE
theorem cvalid_loop (l:List (Int × Int)) (hl:∀ p ∈ l,Sm p) (hs:l.length < 2147483648):∀ k i,l.length = i + k →
    ((∀ j,i ≤ j → j < l.length → okAt l j = true) → run E GP a26l0 { vars:=[.isl (l.map fA),.bool false,.u,.isl (l.map fA),.int .i64 l.length,.int .i64 (i:Nat),.u,.u,.u],heap:=[],rs:=false } =
      some (.exit 0,{ vars:=[.isl (l.map fA),.bool false,.u,.isl (l.map fA),.int .i64 l.length,.int .i64 l.length,.bool false,.u,.u],heap:=[],rs:=false })) ∧
    ((¬ ∀ j,i ≤ j → j < l.length → okAt l j = true) → ∃ (j:Nat) (x:AV),run E GP a26l0 { vars:=[.isl (l.map fA),.bool false,.u,.isl (l.map fA),.int .i64 l.length,.int .i64 (i:Nat),.u,.u,.u],heap:=[],rs:=false } =
      some (.ret,{ vars:=[.isl (l.map fA),.bool false,.int .i64 j,.isl (l.map fA),.int .i64 l.length,.int .i64 j,.bool true,.bool true,x],heap:=[],rs:=false })):=by
  intro k
  induction k with
  | zero =>
    intro i h
    have hi:i = l.length:=by omega
    subst hi
    have k1:¬ (l.length:Int) < (l.length:Int):=by omega
    refine ⟨fun _=>?_,fun h=>absurd (fun j h1 h2=>by omega) h⟩
    rw [a26l0_run]
    simp (maxSteps:=1000000) only [si,simprocAttr,a26b0,a26R,k1]
  | succ k ih =>
    intro i h
    have h1:i < l.length:=by omega
    have k1:(i:Int) < (l.length:Int):=by omega
    have g1:=fA_get h1
    have wi:IntKind.i64.wrap ((i:Int) + 1) = ((i + 1:Nat):Int):=i64a (by omega)
    have s1:=hl _ (List.getElem_mem h1)
    have hv:=fun H=>i_valid hE l[i].2 H (by unfold Sm at s1; omega)
    have hg:=i_sign hE l[i].2
    obtain ⟨ih1,ih2⟩:=ih (i + 1) (by omega)
    have hok:okAt l i = (decide (l[i].2.sign ≠ 0) && (decide (i = 0) || decide ((l.getD (i - 1) (0,0)).1 < l[i].1))):=by
      unfold okAt; rw [getD_get l i h1]
    have hiff:(∀ j,i ≤ j → j < l.length → okAt l j = true) ↔ okAt l i = true ∧ ∀ j,i + 1 ≤ j → j < l.length → okAt l j = true:=by
      constructor
      · exact fun hh=>⟨hh i (Nat.le_refl _) h1,fun j a b=>hh j (by omega) b⟩
      · rintro ⟨a,b⟩ j c d
        rcases Nat.eq_or_lt_of_le c with e | e
        · subst e; exact a
        · exact b j e d
    have hround:okAt l i = true → run E GP a26l0 { vars:=[.isl (l.map fA),.bool false,.u,.isl (l.map fA),.int .i64 l.length,.int .i64 (i:Nat),.u,.u,.u],heap:=[],rs:=false } = run E GP a26l0 { vars:=[.isl (l.map fA),.bool false,.u,.isl (l.map fA),.int .i64 l.length,.int .i64 ((i + 1:Nat):Int),.u,.u,.u],heap:=[],rs:=false }:=by
      intro hk
      rw [hok] at hk
      simp only [Bool.and_eq_true,decide_eq_true_eq,Bool.or_eq_true] at hk
      obtain ⟨hk1,hk2⟩:=hk
      conv=>lhs; rw [a26l0_run]
      by_cases hi0:i = 0
      · have k2:¬ (i:Int) > 0:=by omega
        simp (maxSteps:=1000000) only [si,simprocAttr,fA,a26b0,a26R,k1,g1,wi,hv,hg,hk1,k2]
      · have k2:(i:Int) > 0:=by omega
        have hp:IntKind.i64.wrap ((i:Int) - 1) = ((i - 1:Nat):Int):=by rw [i64w (by omega)]; omega
        have g0:=fA_get (l:=l) (i:=i - 1) (by omega)
        have hk3:¬ l[i - 1].1 ≥ l[i].1:=by
          have:=hk2.resolve_left hi0
          rw [← getD_get l (i - 1) (by omega)] at this; omega
        have k3:((i - 1:Nat):Int) < (l.length:Int):=by omega
        simp (maxSteps:=1000000) only [si,simprocAttr,fA,a26b0,a26R,k1,g1,wi,hv,hg,hk1,k2,hp,g0,hk3,k3]
    have hstop:okAt l i = false → run E GP a26l0 { vars:=[.isl (l.map fA),.bool false,.u,.isl (l.map fA),.int .i64 l.length,.int .i64 (i:Nat),.u,.u,.u],heap:=[],rs:=false } = some (.ret,{ vars:=[.isl (l.map fA),.bool false,.int .i64 i,.isl (l.map fA),.int .i64 l.length,.int .i64 i,.bool true,.bool true,fA l[i]],heap:=[],rs:=false }):=by
      intro hk
      rw [hok] at hk
      rw [a26l0_run]
      by_cases hz:l[i].2.sign = 0
      · simp (maxSteps:=1000000) only [si,simprocAttr,fA,a26b0,a26R,k1,g1,wi,hv,hg,hz]
      · have hk2:i ≠ 0 ∧ ¬ (l.getD (i - 1) (0,0)).1 < l[i].1:=by
          rw [show decide (l[i].2.sign ≠ 0) = true by simpa using hz,Bool.true_and,Bool.or_eq_false_iff] at hk
          exact ⟨by simpa using hk.1,by simpa using hk.2⟩
        have k2:(i:Int) > 0:=by omega
        have hp:IntKind.i64.wrap ((i:Int) - 1) = ((i - 1:Nat):Int):=by rw [i64w (by omega)]; omega
        have g0:=fA_get (l:=l) (i:=i - 1) (by omega)
        have hk3:l[i - 1].1 ≥ l[i].1:=by
          have:=hk2.2
          rw [← getD_get l (i - 1) (by omega)] at this; omega
        have k3:((i - 1:Nat):Int) < (l.length:Int):=by omega
        simp (maxSteps:=1000000) only [si,simprocAttr,fA,a26b0,a26R,k1,g1,wi,hv,hg,hz,k2,hp,g0,hk3,k3]
    rw [hiff]
    cases hc:okAt l i with
    | true =>
      rw [hround hc]
      refine ⟨fun hh=>ih1 hh.2,fun hh=>ih2 (fun a=>hh ⟨rfl,a⟩)⟩
    | false =>
      refine ⟨fun hh=>(Bool.false_ne_true hh.1).elim,fun _=>⟨i,fA l[i],hstop hc⟩⟩
theorem c_valid (l:List (Int × Int)) (hl:∀ p ∈ l,Sm p) (hs:l.length < 2147483648) (H:Heap) :
    call E GP 26 [.isl (l.map fA)] H = some (.bool (valid26 l),H,false):=by
  rw [call_fun (hE _ _ _ (by decide)) (f:=a26) rfl rfl]
  obtain ⟨h1,h2⟩:=cvalid_loop hE l hl hs l.length 0 (by omega)
  simp only [Int.ofNat_zero] at h1 h2
  by_cases c:∀ j,0 ≤ j → j < l.length → okAt l j = true
  · have hv:valid26 l = true:=by
      unfold valid26; rw [List.all_eq_true]; intro j hj; exact c j (Nat.zero_le _) (List.mem_range.1 hj)
    have hr:=h1 c
    simp (maxSteps:=1000000) only [si,simprocAttr,a26,a26R,refs_fA,hr,hv]
  · have hv:valid26 l = false:=by
      cases hh:valid26 l with
      | false=>rfl
      | true=>exact absurd (fun j _ hj=>by unfold valid26 at hh; rw [List.all_eq_true] at hh; exact hh j (List.mem_range.2 hj)) c
    obtain ⟨j,x,hr⟩:=h2 c
    simp (maxSteps:=1000000) only [si,simprocAttr,a26,a26R,refs_fA,hr,hv]
end Tor
namespace Tor
open Go
variable {E:CallF}
def kvM (l:List (Int × Int)):List (Int × AV):=l.map fun p=>(p.1,Z p.2)
def lookL (k:Int):List (Int × Int) → Int
  | []=>0
  | (j,x) :: r=>if k = j then x else lookL k r
def setL (k y:Int):List (Int × Int) → List (Int × Int)
  | []=>[(k,y)]
  | (j,x) :: r=>if k = j then (k,y) :: r else (j,x) :: setL k y r
def delL (k:Int):List (Int × Int) → List (Int × Int)
  | []=>[]
  | (j,x) :: r=>if k = j then r else (j,x) :: delL k r
theorem look_kv (k:Int):∀ l,orElse (.agg [.bool false,.isl []]) false (mfind k (kvM l)) = Z (lookL k l)
  | []=>rfl
  | (j,x) :: r=>by
    have ih:=look_kv k r
    simp only [kvM,List.map_cons,mfind,lookL]
    by_cases h:k = j
    · rw [if_pos h,if_pos h]; rfl
    · rw [if_neg h,if_neg h]; exact ih
theorem set_kv (k y:Int):∀ l,mset k (Z y) (kvM l) = kvM (setL k y l)
  | []=>rfl
  | (j,x) :: r=>by
    have ih:=set_kv k y r
    simp only [kvM,List.map_cons,mset,setL]
    by_cases h:k = j
    · rw [if_pos h,if_pos h]; rfl
    · rw [if_neg h,if_neg h]; simp only [kvM] at ih; rw [ih]; rfl
theorem del_kv (k:Int):∀ l,mdel k (kvM l) = kvM (delL k l)
  | []=>rfl
  | (j,x) :: r=>by
    have ih:=del_kv k r
    simp only [kvM,List.map_cons,mdel,delL]
    by_cases h:k = j
    · rw [if_pos h,if_pos h]
    · rw [if_neg h,if_neg h]; simp only [kvM] at ih; rw [ih]; rfl
def sadd (l:List (Int × Int)) (k c:Int):List (Int × Int):=if lookL k l + c = 0 then delL k l else setL k (lookL k l + c) l
variable (hE:Free E)
include hE
theorem c_sumadd (l:List (Int × Int)) (k c:Int) (H:Heap) (o:Nat) (hH:H[o]? = some (.map (kvM l))) (h1:(limbs (lookL k l).natAbs).length < 1073741000) (h2:(limbs c.natAbs).length < 1073741000) :
    call E GP 33 [.mp o,.int .i64 k,Z c] H = some (.tup [],H.set o (.map (kvM (sadd l k c))),false):=by
  rw [call_fun (hE _ _ _ (by decide)) (f:=a33) rfl rfl]
  have ha:=fun H=>i_add hE (lookL k l) c H (by omega) (by omega)
  have hg:=i_sign hE (lookL k l + c)
  have hlk:=look_kv k l
  have hst:=set_kv k (lookL k l + c) l
  have hdl:=del_kv k l
  have htk:∀ x:AObj,(H.set o x).take H.length = H.set o x:=fun x=>List.take_of_length_le (by simp)
  have hmode:a33.mode = .shr:=rfl
  unfold sadd
  by_cases hz:lookL k l + c = 0
  · rw [if_pos hz]
    rw [hz] at ha hg
    simp only [Int.sign_zero] at hg
    simp (maxSteps:=1000000) only [hmode,si,simprocAttr,a33,a33R,hH,lookIn,mdelIn,mupdIn,hlk,hst,hdl,ha,hg,htk]
  · rw [if_neg hz]
    have hsg:(lookL k l + c).sign ≠ 0:=fun e=>hz (Int.sign_eq_zero_iff_zero.1 e)
    simp (maxSteps:=1000000) only [hmode,si,simprocAttr,a33,a33R,hH,lookIn,mdelIn,mupdIn,hlk,hst,hdl,ha,hg,hsg,htk]
end Tor
namespace Tor
open Go
variable {E:CallF}
theorem setL_bd {N:Nat} {k y:Int} (hy:y.natAbs ≤ N):∀ l,Bd N l → Bd N (setL k y l)
  | [],_=>by intro p hp; simp [setL] at hp; subst hp; exact hy
  | (j,x) :: r,h=>by
    have hr:Bd N r:=fun p hp=>h p (.tail _ hp)
    simp only [setL]
    split
    · intro p hp
      cases hp with
      | head=>exact hy
      | tail _ hp=>exact hr p hp
    · intro p hp
      cases hp with
      | head=>exact h _ (.head _)
      | tail _ hp=>exact setL_bd hy r hr p hp
theorem delL_bd {N:Nat} {k:Int}:∀ l,Bd N l → Bd N (delL k l)
  | [],_=>by intro p hp; simp [delL] at hp
  | (j,x) :: r,h=>by
    have hr:Bd N r:=fun p hp=>h p (.tail _ hp)
    simp only [delL]
    split
    · exact hr
    · intro p hp
      cases hp with
      | head=>exact h _ (.head _)
      | tail _ hp=>exact delL_bd r hr p hp
theorem lookL_bd {N:Nat} {k:Int}:∀ l,Bd N l → (lookL k l).natAbs ≤ N
  | [],_=>by simp [lookL]
  | (j,x) :: r,h=>by
    simp only [lookL]
    split
    · exact h _ (.head _)
    · exact lookL_bd r fun p hp=>h p (.tail _ hp)
theorem sadd_bd {M N:Nat} {l:List (Int × Int)} {k c:Int} (hl:Bd M l) (hc:c.natAbs ≤ N):Bd (M + N) (sadd l k c):=by
  unfold sadd
  split
  · exact bd_mono (by omega) (delL_bd l hl)
  · have:=lookL_bd (k:=k) l hl
    exact setL_bd (by omega) l (bd_mono (by omega) hl)
theorem sm_nat {N:Nat} (hN:N < BIG) {n:Int} (h:n.natAbs ≤ N):(limbs n.natAbs).length < 1073741000:=sm_of (p:=(0,n)) hN h
def sums (l m:List (Int × Int)):List (Int × Int):=l.foldl (fun m p=>sadd m p.1 p.2) m
variable (hE:Free E)
include hE
theorem cmake_loop (l:List (Int × Int)) (N:Nat) (hl:Bd N l) (hs:l.length < 2147483647) (hN:N * (l.length + 1) < BIG):∀ (k i:Nat) (m:List (Int × Int)),l.length = i + k → Bd (N * i) m →
    run E GP a22l0 { vars:=[.isl (l.map fA),.isl [],.mp 0,.isl (l.map fA),.int .i64 l.length,.int .i64 (i:Nat),.u,.u],heap:=[.map (kvM m)],rs:=false } =
      some (.exit 0,{ vars:=[.isl (l.map fA),.isl [],.mp 0,.isl (l.map fA),.int .i64 l.length,.int .i64 l.length,.bool false,.u],heap:=[.map (kvM (sums (l.drop i) m))],rs:=false }):=by
  intro k
  induction k with
  | zero =>
    intro i m h1 h2
    have hi:i = l.length:=by omega
    subst hi
    have k1:¬ (l.length:Int) < (l.length:Int):=by omega
    rw [a22l0_run,List.drop_length]
    simp (maxSteps:=1000000) only [si,simprocAttr,a22b0,a22R,k1,sums,List.foldl_nil]
  | succ k ih =>
    intro i m h1 h2
    have hi:i < l.length:=by omega
    have k1:(i:Int) < (l.length:Int):=by omega
    have g1:=fA_get hi
    have wi:IntKind.i64.wrap ((i:Int) + 1) = ((i + 1:Nat):Int):=i64a (by omega)
    have hd:l.drop i = l[i] :: l.drop (i + 1):=List.drop_eq_getElem_cons hi
    have hb:=hl _ (List.getElem_mem hi)
    have hNi:N * i ≤ N * (l.length + 1):=Nat.mul_le_mul_left _ (by omega)
    have hN1:N * 1 ≤ N * (l.length + 1):=Nat.mul_le_mul_left _ (by omega)
    have hadd:=c_sumadd hE m l[i].1 l[i].2 [.map (kvM m)] 0 rfl (sm_nat (N:=N * i) (by omega) (lookL_bd m h2)) (sm_nat (N:=N) (by omega) hb)
    have hacc:Bd (N * (i + 1)) (sadd m l[i].1 l[i].2):=by
      rw [Nat.mul_succ]; exact sadd_bd h2 hb
    have hsum:sums (l.drop i) m = sums (l.drop (i + 1)) (sadd m l[i].1 l[i].2):=by rw [hd]; rfl
    rw [hsum,← ih (i + 1) _ (by omega) hacc]
    conv=>lhs; rw [a22l0_run]
    simp (maxSteps:=1000000) only [si,simprocAttr,a22b0,a22R,k1,g1,wi,hadd]
end Tor
namespace Tor
open Go
variable {E:CallF}
def iA (n:Int):AV:=.int .i64 n
def chainOf (ks:List Int) (m:List (Int × Int)):List (Int × Int):=ks.map fun k=>(k,lookL k m)
theorem chain_loop (m:List (Int × Int)) (ks:List Int) (hs:ks.length < 2147483647):∀ k i (out:List (Int × Int)),ks.length = i + k → out.length = i →
    run E GP a34l0 { vars:=[.mp 0,.isl [],.sl 1 i 3 0 i,.u,.isl (ks.map iA),.int .i64 ks.length,.int .i64 (i:Nat),.u],heap:=[.map (kvM m),.arr i 3 (out.map fA)],rs:=false } =
      some (.exit 0,{ vars:=[.mp 0,.isl [],.sl 1 ks.length 3 0 ks.length,.u,.isl (ks.map iA),.int .i64 ks.length,.int .i64 ks.length,.bool false],heap:=[.map (kvM m),.arr ks.length 3 ((out ++ chainOf (ks.drop i) m).map fA)],rs:=false }):=by
  intro k
  induction k with
  | zero =>
    intro i out h1 h2
    have hi:i = ks.length:=by omega
    subst hi
    have k1:¬ (ks.length:Int) < (ks.length:Int):=by omega
    have e:out ++ chainOf (ks.drop ks.length) m = out:=by simp [chainOf]
    rw [a34l0_run,e]
    simp (maxSteps:=1000000) only [si,simprocAttr,a34b0,a34R,k1]
  | succ k ih =>
    intro i out h1 h2
    have hi:i < ks.length:=by omega
    have k1:(i:Int) < (ks.length:Int):=by omega
    have g1:(ks.map iA)[i]? = some (.int .i64 ks[i]):=by simp [hi,iA]
    have wi:IntKind.i64.wrap ((i:Int) + 1) = ((i + 1:Nat):Int):=i64a (by omega)
    have hm:i + 1 ≤ 4294967296:=by omega
    have hlk:=look_kv ks[i] m
    have e:out ++ chainOf (ks.drop i) m = out ++ [(ks[i],lookL ks[i] m)] ++ chainOf (ks.drop (i + 1)) m:=by
      rw [List.drop_eq_getElem_cons hi]; simp only [chainOf,List.map_cons,List.append_assoc]; rfl
    rw [e,← ih (i + 1) (out ++ [(ks[i],lookL ks[i] m)]) (by omega) (by simp [h2])]
    have e2:List.map fA (out ++ [(ks[i],lookL ks[i] m)]) = List.map fA out ++ [.agg [.int .i64 ks[i],Z (lookL ks[i] m)]]:=by simp [fA]
    rw [e2]
    conv=>lhs; rw [a34l0_run]
    simp (maxSteps:=1000000) only [si,simprocAttr,a34b0,a34R,k1,g1,wi,hm,maxLenA,lookIn,hlk,h2]
def Srt (E:CallF) (m:List (Int × Int)) (ks:List Int):Prop:=∀ H:Heap,H[0]? = some (.map (kvM m)) → E 56 [.fn 72 [.bx 0]] H = some (.isl (ks.map iA),H,false)
theorem c_keys (hE:Free E) (H:Heap) (h0:0 < H.length):call E GP 55 [.mp 0] H = some (.fn 72 [.bx 0],H,false):=by
  rw [call_fun (hE _ _ _ (by decide)) (f:=a55) rfl rfl]
  have hmode:a55.mode = .shr:=rfl
  have hbox:doBox true H (AV.mp 0) = some (.bx 0,H,false):=rfl
  have htk:H.take H.length = H:=List.take_length
  have hfz:fz H.length H 8 (AV.fn 72 [.bx 0]) = .fn 72 [.bx 0]:=by simp [fz,h0]
  have hun:AV.under H.length (AV.fn 72 [.bx 0]) = true:=by simp [AV.under,AV.unders,h0]
  have hso:AV.solid (AV.fn 72 [.bx 0]) = true:=by simp [AV.solid,AV.solids,AV.hasRef,AV.hasRefs]
  simp (maxSteps:=1000000) only [hmode,si,simprocAttr,a55,a55R,hbox,htk,hfz,hun,hso]
theorem c_chain (hE:Free E) (m:List (Int × Int)) (ks:List Int) (hS:Srt E m ks) (hs:ks.length < 2147483647) :
    call E GP 34 [.mp 0] [.map (kvM m)] = some (.isl ((chainOf ks m).map fA),[.map (kvM m)],false):=by
  rw [call_fun (hE _ _ _ (by decide)) (f:=a34) rfl rfl]
  have hk:=c_keys hE [.map (kvM m),.arr 0 3 []] (by simp)
  have hso:=call_ext (GP:=GP) (hS [.map (kvM m),.arr 0 3 []] rfl)
  have hr:=chain_loop (E:=E) m ks hs ks.length 0 [] (by omega) rfl
  have hl:(chainOf ks m).length = ks.length:=by simp [chainOf]
  have hta:List.take ks.length ((chainOf ks m).map fA) = (chainOf ks m).map fA:=List.take_of_length_le (by simp [hl])
  simp only [List.drop_zero,List.nil_append,List.map_nil,Int.ofNat_zero] at hr
  have hmode:a34.mode = .shr:=rfl
  have hle:ks.length ≤ ((chainOf ks m).map fA).length:=by simp [hl]
  have hfz:∀ H:Heap,((chainOf ks m).map fA).map (fz 1 H 7) = (chainOf ks m).map fA:=fun H=>fz_fAs 1 H 4 _
  simp (maxSteps:=1000000) only [hmode,si,simprocAttr,a34,a34R,hk,hso,hr,hta,hle,hl,refs_fA,solids_fA,headSize_fA,hfz]
end Tor
namespace Tor
open Go
structure Cel where
  id:Int
  dim:Int
  b:List (Int × Int)
def cA (x:Cel):AV:=.agg [.int .i64 x.id,.int .i64 x.dim,.isl (x.b.map fA)]
def zC:Cel:=⟨0,0,[]⟩
theorem cA_ref (x:Cel):(cA x).hasRef = false:=by simp [cA,AV.hasRef,AV.hasRefs]
theorem refs_cA:∀ c:List Cel,AV.hasRefs (c.map cA) = false
  | []=>rfl
  | x :: r=>by simp only [List.map_cons,AV.hasRefs,cA_ref,refs_cA r,Bool.or_self]
theorem cA_solid (x:Cel):(cA x).solid = true:=by simp [cA,AV.solid,AV.solids,refs_fA,solids_fA]
theorem solids_cA:∀ c:List Cel,AV.solids (c.map cA) = true
  | []=>rfl
  | x :: r=>by simp only [List.map_cons,AV.solids,cA_solid,solids_cA r,Bool.and_self]
theorem cA_get {c:List Cel} {i:Nat} (h:i < c.length):(c.map cA)[i]? = some (.agg [.int .i64 c[i].id,.int .i64 c[i].dim,.isl (c[i].b.map fA)]):=by simp [h,cA]
theorem fz_cA (n:Nat) (H:Heap) (k:Nat) (x:Cel):fz n H (k + 6) (cA x) = cA x:=by
  unfold cA
  rw [show k + 6 = (k + 5) + 1 from rfl,fz]
  simp only [List.map_cons,List.map_nil]
  rw [show k + 5 = (k + 4) + 1 from rfl,fz,fz,fz]
  all_goals simp
theorem refs_iA:∀ l:List Int,AV.hasRefs (l.map iA) = false
  | []=>rfl
  | x :: r=>by simp only [List.map_cons,AV.hasRefs,iA,AV.hasRef,refs_iA r,Bool.or_self]
theorem solids_iA:∀ l:List Int,AV.solids (l.map iA) = true
  | []=>rfl
  | x :: r=>by simp only [List.map_cons,AV.solids,iA,AV.solid,solids_iA r,Bool.and_self]
theorem fz_iA (n:Nat) (H:Heap) (k:Nat):∀ l:List Int,(l.map iA).map (fz n H (k + 1)) = l.map iA
  | []=>rfl
  | x :: r=>by simp only [List.map_cons,fz_iA n H k r,iA,fz]
def findC (c:List Cel) (id:Int):Option Cel:=c.find? fun x=>decide (x.id = id)
variable {E:CallF} (hE:Free E)
include hE
theorem find_loop (c:List Cel) (id:Int) (hc:c.length < 2147483648):∀ (n i:Nat),c.length = i + n →
    (∀ x,(c.drop i).find? (fun x=>decide (x.id = id)) = some x → ∃ j:Nat,run E GP a31l0 { vars:=[.isl (c.map cA),.int .i64 id,.bool false,.int .i64 i,.u,.u,.agg [.int .i64 0,.int .i64 0,.nl]],heap:=[],rs:=false } =
      some (.ret,{ vars:=[.isl (c.map cA),.int .i64 id,.bool true,.int .i64 j,.bool true,.bool true,cA x],heap:=[],rs:=false })) ∧
    ((c.drop i).find? (fun x=>decide (x.id = id)) = none → run E GP a31l0 { vars:=[.isl (c.map cA),.int .i64 id,.bool false,.int .i64 i,.u,.u,.agg [.int .i64 0,.int .i64 0,.nl]],heap:=[],rs:=false } =
      some (.exit 0,{ vars:=[.isl (c.map cA),.int .i64 id,.bool false,.int .i64 c.length,.bool false,.u,.agg [.int .i64 0,.int .i64 0,.nl]],heap:=[],rs:=false })):=by
  intro n
  induction n with
  | zero =>
    intro i h
    have hi:i = c.length:=by omega
    subst hi
    have k1:¬ (c.length:Int) < (c.length:Int):=by omega
    refine ⟨fun x hx=>by simp at hx,fun _=>?_⟩
    rw [a31l0_run]
    simp (maxSteps:=1000000) only [si,simprocAttr,a31b0,a31R,k1]
  | succ n ih =>
    intro i h
    have hi:i < c.length:=by omega
    have k1:(i:Int) < (c.length:Int):=by omega
    have wi:IntKind.i64.wrap ((i:Int) + 1) = ((i + 1:Nat):Int):=i64a (by omega)
    have g1:=cA_get hi
    obtain ⟨i1,i2⟩:=ih (i + 1) (by omega)
    rw [List.drop_eq_getElem_cons hi]
    by_cases he:c[i].id = id
    · have hd:decide (c[i].id = id) = true:=decide_eq_true he
      rw [List.find?_cons_of_pos (p:=fun x:Cel=>decide (x.id = id)) hd]
      refine ⟨fun x hx=>⟨i,?_⟩,fun hx=>by cases hx⟩
      cases hx
      have hb:decide (c[i].id = id) = true:=decide_eq_true he
      rw [show cA c[i] = .agg [.int .i64 c[i].id,.int .i64 c[i].dim,.isl (c[i].b.map fA)] from rfl]
      rw [a31l0_run]
      simp (maxSteps:=1000000) only [si,simprocAttr,a31b0,a31R,k1,g1,hb]
    · have hd:¬ decide (c[i].id = id) = true:=by simpa using he
      rw [List.find?_cons_of_neg (p:=fun x:Cel=>decide (x.id = id)) hd]
      have hb:decide (c[i].id = id) = false:=decide_eq_false he
      have hst:run E GP a31l0 { vars:=[.isl (c.map cA),.int .i64 id,.bool false,.int .i64 i,.u,.u,.agg [.int .i64 0,.int .i64 0,.nl]],heap:=[],rs:=false } =
          run E GP a31l0 { vars:=[.isl (c.map cA),.int .i64 id,.bool false,.int .i64 (i + 1:Nat),.u,.u,.agg [.int .i64 0,.int .i64 0,.nl]],heap:=[],rs:=false }:=by
        conv=>lhs; rw [a31l0_run]
        simp (maxSteps:=1000000) only [si,simprocAttr,a31b0,a31R,k1,g1,hb,wi]
      rw [hst]
      exact ⟨i1,i2⟩
theorem r25_find (c:List Cel) (id:Int) (hc:c.length < 2147483648) (H:Heap) :
    call E GP 31 [.isl (c.map cA),.int .i64 id] H = some (.tup [cA ((findC c id).getD zC),.bool (findC c id).isSome],H,false):=by
  rw [call_fun (hE _ _ _ (by decide)) (f:=a31) rfl rfl]
  obtain ⟨h1,h2⟩:=find_loop hE c id hc c.length 0 (by omega)
  rw [List.drop_zero] at h1 h2
  have hrf:=refs_cA c
  simp only [Int.ofNat_zero] at h1 h2
  unfold findC
  cases hf:c.find? (fun x=>decide (x.id = id)) with
  | none =>
    have h2:=h2 hf
    rw [Option.getD_none,Option.isSome_none,show cA zC = .agg [.int .i64 0,.int .i64 0,.isl []] from rfl]
    simp (maxSteps:=1000000) only [si,simprocAttr,a31,a31R,hrf,h2]
  | some x =>
    obtain ⟨j,h1⟩:=h1 x hf
    simp only [Option.getD_some,Option.isSome_some]
    have r1:=refs_fA x.b
    have r2:=solids_fA x.b
    rw [show cA x = .agg [.int .i64 x.id,.int .i64 x.dim,.isl (x.b.map fA)] from rfl] at h1 ⊢
    simp (maxSteps:=1000000) only [si,simprocAttr,a31,a31R,hrf,h1,r1,r2]
def cellsC (c:List Cel) (k:Int):List Int:=(c.filter fun x=>decide (x.dim = k)).map (·.id)
theorem cells_loop (c:List Cel) (k:Int) (hc:c.length < 2147483648):∀ (n i:Nat) (out:List Int),c.length = i + n → out.length ≤ i →
    run E GP a36l0 { vars:=[.isl (c.map cA),.int .i64 k,.isl [],.sl 0 out.length 1 0 out.length,.int .i64 i,.u,.u],heap:=[.arr out.length 1 (out.map iA)],rs:=false } =
      some (.exit 0,{ vars:=[.isl (c.map cA),.int .i64 k,.isl [],.sl 0 (out ++ cellsC (c.drop i) k).length 1 0 (out ++ cellsC (c.drop i) k).length,.int .i64 c.length,.bool false,.u],heap:=[.arr (out ++ cellsC (c.drop i) k).length 1 ((out ++ cellsC (c.drop i) k).map iA)],rs:=false }):=by
  intro n
  induction n with
  | zero =>
    intro i out h ho
    have hi:i = c.length:=by omega
    subst hi
    have k1:¬ (c.length:Int) < (c.length:Int):=by omega
    have e:out ++ cellsC (c.drop c.length) k = out:=by simp [cellsC]
    rw [e,a36l0_run]
    simp (maxSteps:=1000000) only [si,simprocAttr,a36b0,a36R,k1]
  | succ n ih =>
    intro i out h ho
    have hi:i < c.length:=by omega
    have k1:(i:Int) < (c.length:Int):=by omega
    have wi:IntKind.i64.wrap ((i:Int) + 1) = ((i + 1:Nat):Int):=i64a (by omega)
    have g1:=cA_get hi
    have hm:out.length + 1 ≤ 4294967296:=by omega
    by_cases he:c[i].dim = k
    · have hb:decide (c[i].dim = k) = true:=decide_eq_true he
      have e:out ++ cellsC (c.drop i) k = (out ++ [c[i].id]) ++ cellsC (c.drop (i + 1)) k:=by
        rw [List.drop_eq_getElem_cons hi]; unfold cellsC; rw [List.filter_cons_of_pos (by simpa using he)]; simp
      rw [e,← ih (i + 1) (out ++ [c[i].id]) (by omega) (by simp; omega)]
      have el:(out ++ [c[i].id]).length = out.length + 1:=by simp
      have em:(out ++ [c[i].id]).map iA = out.map iA ++ [.int .i64 c[i].id]:=by simp [iA]
      rw [el,em]
      conv=>lhs; rw [a36l0_run]
      simp (maxSteps:=1000000) only [si,simprocAttr,a36b0,a36R,k1,g1,hb,wi,hm,maxLenA]
    · have hb:decide (c[i].dim = k) = false:=decide_eq_false he
      have e:out ++ cellsC (c.drop i) k = out ++ cellsC (c.drop (i + 1)) k:=by
        rw [List.drop_eq_getElem_cons hi]; unfold cellsC; rw [List.filter_cons_of_neg (by simpa using he)]
      rw [e,← ih (i + 1) out (by omega) (by omega)]
      conv=>lhs; rw [a36l0_run]
      simp (maxSteps:=1000000) only [si,simprocAttr,a36b0,a36R,k1,g1,hb,wi]
theorem r25_cells (c:List Cel) (k:Int) (hc:c.length < 2147483648) (H:Heap) :
    call E GP 36 [.isl (c.map cA),.int .i64 k] H = some (.isl ((cellsC c k).map iA),H,false):=by
  rw [call_fun (hE _ _ _ (by decide)) (f:=a36) rfl rfl]
  have h1:=cells_loop hE c k hc c.length 0 [] (by omega) (Nat.le_refl _)
  rw [List.drop_zero,List.nil_append] at h1
  have hrf:=refs_cA c
  have hs:=solids_iA (cellsC c k)
  have hr:=refs_iA (cellsC c k)
  have ht:List.take (cellsC c k).length ((cellsC c k).map iA) = (cellsC c k).map iA:=List.take_of_length_le (by simp)
  have hz:∀ n H k',((cellsC c k).map iA).map (fz n H (k' + 1)) = (cellsC c k).map iA:=fun n H k'=>fz_iA n H k' _
  have hz6:=fun n H=>hz n H 6
  simp only [Int.ofNat_zero,List.length_nil,List.map_nil] at h1
  generalize cellsC c k = l at *
  simp (maxSteps:=1000000) only [si,simprocAttr,a36,a36R,hrf,h1,hs,hr,ht,hz6]
end Tor
namespace Tor
open Go
def putL (p:Int × Int) (ids out:List Int):List Int:=List.zipWith (fun id o=>if id = p.1 then p.2 else o) ids out
theorem putL_len (p ids out) (h:out.length = ids.length):(putL p ids out).length = ids.length:=by simp [putL,h]
def rowL (x:List (Int × Int)) (ids:List Int):List Int:=x.foldl (fun out p=>putL p ids out) (List.replicate ids.length 0)
theorem iA_get {l:List Int} {i:Nat} (h:i < l.length):(l.map iA)[i]? = some (.int .i64 (l.getD i 0)):=by simp [h,iA,List.getD]
variable {E:CallF} (hE:Free E)
include hE
def rst (x:List (Int × Int)) (ids out:List Int) (i:Nat) (k c6 c7 c8:AV):St :=
  { vars:=[.isl (x.map fA),.isl (ids.map iA),.isl [],.sl 0 0 2 0 ids.length,.int .i64 i,k,c6,c7,c8],heap:=[.arr 0 2 (rowA out)],rs:=false }
theorem row_inner (x:List (Int × Int)) (ids:List Int) (hl:ids.length < 2147483648) (i:Nat) (hi:i < x.length):∀ (n k:Nat) (out:List Int),ids.length = k + n → out.length = ids.length →
    run E GP a45l1 (rst x ids out i (.int .i64 k) (.bool true) .u .u) = some (.exit 2,rst x ids (out.take k ++ putL x[i] (ids.drop k) (out.drop k)) i (.int .i64 ids.length) (.bool true) (.bool false) .u):=by
  intro n
  induction n with
  | zero =>
    intro k out h ho
    have hk:k = ids.length:=by omega
    subst hk
    have k1:¬ (ids.length:Int) < (ids.length:Int):=by omega
    have e:out.take ids.length ++ putL x[i] (ids.drop ids.length) (out.drop ids.length) = out:=by
      simp [putL,← ho]
    rw [e,a45l1_run]
    simp (maxSteps:=1000000) only [si,simprocAttr,rst,a45b1,a45R,k1]
  | succ n ih =>
    intro k out h ho
    have hk:k < ids.length:=by omega
    have k1:(k:Int) < (ids.length:Int):=by omega
    have k2:k < out.length:=by omega
    have wk:IntKind.i64.wrap ((k:Int) + 1) = ((k + 1:Nat):Int):=i64a (by omega)
    have g1:=fA_get hi
    have g2:=iA_get hk
    have g3:=rowA_get (r:=out) k2
    have hd:out.drop k = out.getD k 0 :: out.drop (k + 1):=drop_cons out k k2
    have hdi:ids.drop k = ids.getD k 0 :: ids.drop (k + 1):=drop_cons ids k hk
    rw [hd,hdi]
    by_cases he:ids.getD k 0 = x[i].1
    · have e:out.take k ++ putL x[i] (ids.getD k 0 :: ids.drop (k + 1)) (out.getD k 0 :: out.drop (k + 1)) = (out.set k x[i].2).take (k + 1) ++ putL x[i] (ids.drop (k + 1)) ((out.set k x[i].2).drop (k + 1)):=by
        have hds:(out.set k x[i].2).drop (k + 1) = out.drop (k + 1):=by simp [List.drop_set]
        rw [take_set_app _ _ _ k2,List.append_assoc,hds]; simp only [putL,List.zipWith_cons_cons,if_pos he]; rfl
      rw [e,← ih (k + 1) (out.set k x[i].2) (by omega) (by simp [ho])]
      have hset:=rowA_set out k x[i].2
      have hb:decide (ids.getD k 0 = x[i].1) = true:=decide_eq_true he
      generalize out.getD k 0 = w at *
      generalize ids.getD k 0 = v at *
      conv=>lhs; rw [a45l1_run]
      simp (maxSteps:=1000000) only [si,simprocAttr,rst,a45b1,a45R,k1,wk,g1,g2,g3,hb,hset]
    · have e:out.take k ++ putL x[i] (ids.getD k 0 :: ids.drop (k + 1)) (out.getD k 0 :: out.drop (k + 1)) = out.take (k + 1) ++ putL x[i] (ids.drop (k + 1)) (out.drop (k + 1)):=by
        have:out.take (k + 1) = out.take k ++ [out.getD k 0]:=by rw [List.take_add_one]; simp [List.getD,k2]
        rw [this,List.append_assoc]; simp only [putL,List.zipWith_cons_cons,if_neg he]; rfl
      rw [e,← ih (k + 1) out (by omega) ho]
      have hb:decide (ids.getD k 0 = x[i].1) = false:=decide_eq_false he
      generalize out.getD k 0 = w at *
      generalize ids.getD k 0 = v at *
      conv=>lhs; rw [a45l1_run]
      simp (maxSteps:=1000000) only [si,simprocAttr,rst,a45b1,a45R,k1,wk,g1,g2,g3,hb]
theorem row_outer (x:List (Int × Int)) (ids:List Int) (hl:ids.length < 2147483648) (hx:x.length < 2147483648):∀ (n i:Nat) (out:List Int),x.length = i + n → out.length = ids.length →
    run E GP a45l0 (rst x ids out i .u .u .u .u) = some (.exit 0,rst x ids ((x.drop i).foldl (fun out p=>putL p ids out) out) x.length .u (.bool false) .u .u):=by
  intro n
  induction n with
  | zero =>
    intro i out h ho
    have hi:i = x.length:=by omega
    subst hi
    have k1:¬ (x.length:Int) < (x.length:Int):=by omega
    rw [List.drop_length,List.foldl_nil,a45l0_run]
    simp (maxSteps:=1000000) only [si,simprocAttr,rst,a45b0,a45R,k1]
  | succ n ih =>
    intro i out h ho
    have hi:i < x.length:=by omega
    have k1:(i:Int) < (x.length:Int):=by omega
    have wi:IntKind.i64.wrap ((i:Int) + 1) = ((i + 1:Nat):Int):=i64a (by omega)
    have h1:=row_inner hE x ids hl i hi ids.length 0 out (by omega) ho
    rw [List.take_zero,List.nil_append,List.drop_zero,List.drop_zero] at h1
    have hn:=putL_len x[i] ids out ho
    rw [List.drop_eq_getElem_cons hi,List.foldl_cons,← ih (i + 1) _ (by omega) hn]
    simp only [rst,Int.ofNat_zero] at h1
    conv=>lhs; rw [a45l0_run]
    simp (maxSteps:=1000000) only [si,simprocAttr,rst,a45b0,a45R,k1,wi,h1]
omit hE in
theorem foldl_putL_len (ids:List Int):∀ (x:List (Int × Int)) (out:List Int),out.length = ids.length → (x.foldl (fun out p=>putL p ids out) out).length = ids.length
  | [],out,h=>h
  | p :: r,out,h=>by rw [List.foldl_cons]; exact foldl_putL_len ids r _ (putL_len p ids out h)
omit hE in
theorem rowL_len (x ids):(rowL x ids).length = ids.length:=by
  exact foldl_putL_len ids x (List.replicate ids.length 0) (by simp)
theorem r25_row (x:List (Int × Int)) (ids:List Int) (hl:ids.length < 2147483648) (hx:x.length < 2147483648) (H:Heap) :
    call E GP 45 [.isl (x.map fA),.isl (ids.map iA)] H = some (.isl (rowA (rowL x ids)),H,false):=by
  rw [call_fun (hE _ _ _ (by decide)) (f:=a45) rfl rfl]
  have h1:=row_outer hE x ids hl hx x.length 0 (List.replicate ids.length 0) (by omega) (by simp)
  rw [List.drop_zero,show (x.foldl (fun out p=>putL p ids out) (List.replicate ids.length 0)) = rowL x ids from rfl] at h1
  have hr1:=refs_fA x
  have hr2:=refs_iA ids
  have hr3:=refs_rowA (rowL x ids)
  have hs3:=solids_rowA (rowL x ids)
  have hl3:ids.length ≤ (rowA (rowL x ids)).length:=by rw [rowA_len,rowL_len]; exact Nat.le_refl _
  have ht3:List.take ids.length (rowA (rowL x ids)) = rowA (rowL x ids):=List.take_of_length_le (by rw [rowA_len,rowL_len]; exact Nat.le_refl _)
  have hz:=fun n H=>fz_rowA n H 5 (rowL x ids)
  have hc1:(ids.length:Int) ≤ 4294967296:=by omega
  have hc2:(0:Int) ≤ (ids.length:Int):=by omega
  simp only [rst,Int.ofNat_zero] at h1
  simp (maxSteps:=1000000) only [si,simprocAttr,a45,a45R,rowA_zero,hr1,hr2,h1,hr3,hs3,hl3,ht3,hz,hc1,hc2,maxLenA]
def bndC (c:List Cel) (k:Int):List (List Int):=(cellsC c k).map fun id=>rowL ((findC c id).getD zC).b (cellsC c (IntKind.i64.wrap (k - 1)))
omit hE in
theorem cellsC_len (c:List Cel) (k:Int):(cellsC c k).length ≤ c.length:=by
  unfold cellsC; rw [List.length_map]; exact List.length_filter_le ..
def bav (R C:Nat):Nat → AV
  | 0=>.agg [.int .i64 R,.int .i64 C,.nl]
  | m + 1=>.agg [.int .i64 R,.int .i64 C,.sl 1 m 1 0 (m + 1)]
def bhp (R C:Nat) (A:List (List Int)):Heap:=match A with
  | []=>[.var (bav R C 0)]
  | r :: l=>[.var (bav R C (l.length + 1)),.arr l.length 1 (rowsI (r :: l))]
theorem bnd_step (c:List Cel) (hc:c.length < 2147483648) (hb:∀ x ∈ c,x.b.length < 2147483648) (k:Int) (rows cols:List Int) (hr:rows.length < 2147483648) (hl:cols.length < 2147483648) (z:AV) (i:Nat) (hi:i < rows.length) (A:List (List Int)) (hA:A.length = i) (b:Bool) :
    ∃ b',run E GP a19l0 { vars:=[.isl (c.map cA),.int .i64 k,.isl (rows.map iA),.isl (cols.map iA),.ptr 0 0 [],.int .i64 i,.u,z,.u],heap:=bhp rows.length cols.length A,rs:=b } =
      run E GP a19l0 { vars:=[.isl (c.map cA),.int .i64 k,.isl (rows.map iA),.isl (cols.map iA),.ptr 0 0 [],.int .i64 (i + 1:Nat),.u,z,.u],heap:=bhp rows.length cols.length (A ++ [rowL ((findC c (rows.getD i 0)).getD zC).b cols]),rs:=b' }:=by
  have k1:(i:Int) < (rows.length:Int):=by omega
  have wi:IntKind.i64.wrap ((i:Int) + 1) = ((i + 1:Nat):Int):=i64a (by omega)
  have g1:=iA_get hi
  have hf:=fun H=>r25_find hE c (rows.getD i 0) hc H
  have hbl:((findC c (rows.getD i 0)).getD zC).b.length < 2147483648:=by
    cases hh:findC c (rows.getD i 0) with
    | none=>simp [zC]
    | some x=>exact hb x (List.mem_of_find?_eq_some hh)
  generalize (findC c (rows.getD i 0)).getD zC = x at *
  have hrow:=fun H=>r25_row hE x.b cols hl hbl H
  have hr1:=refs_rowA (rowL x.b cols)
  rw [show cA x = .agg [.int .i64 x.id,.int .i64 x.dim,.isl (x.b.map fA)] from rfl] at hf
  cases A with
  | nil =>
    simp only [List.length_nil] at hA
    subst hA
    refine ⟨b || true,?_⟩
    have k1:(0:Int) < (rows.length:Int):=by omega
    have wi:IntKind.i64.wrap 1 = 1:=by decide
    simp only [Nat.zero_add,show ((1:Nat):Int) = 1 from rfl,Int.ofNat_zero]
    conv=>lhs; rw [a19l0_run]
    simp (maxSteps:=1000000) only [si,simprocAttr,bhp,bav,rowsI,a19b0,a19R,k1,wi,g1,hf,hrow,hr1,AV.hasRef,Bool.or_true,maxLenA]
  | cons r l =>
    simp only [List.length_cons] at hA
    refine ⟨b || true,?_⟩
    have hm:l.length + 1 + 1 ≤ 4294967296:=by omega
    have hl2:=rowsI_len (r :: l)
    simp only [List.length_cons] at hl2
    have e1:rowsI (r :: l) ++ [.isl (rowA (rowL x.b cols))] = rowsI (r :: (l ++ [rowL x.b cols])):=by simp [rowsI]
    have e2:(l ++ [rowL x.b cols]).length = l.length + 1:=by simp
    conv=>lhs; rw [a19l0_run]
    simp (maxSteps:=1000000) only [si,simprocAttr,bhp,bav,a19b0,a19R,k1,wi,g1,hf,hrow,hr1,AV.hasRef,Bool.or_true,hm,hl2,maxLenA,e1,e2]
theorem bnd_loop (c:List Cel) (hc:c.length < 2147483648) (hb:∀ x ∈ c,x.b.length < 2147483648) (k:Int) (rows cols:List Int) (hr:rows.length < 2147483648) (hl:cols.length < 2147483648) (z:AV):∀ (n i:Nat) (A:List (List Int)) (b:Bool),rows.length = i + n → A.length = i →
    ∃ b',run E GP a19l0 { vars:=[.isl (c.map cA),.int .i64 k,.isl (rows.map iA),.isl (cols.map iA),.ptr 0 0 [],.int .i64 i,.u,z,.u],heap:=bhp rows.length cols.length A,rs:=b } =
      some (.exit 0,{ vars:=[.isl (c.map cA),.int .i64 k,.isl (rows.map iA),.isl (cols.map iA),.ptr 0 0 [],.int .i64 rows.length,.bool false,z,.u],heap:=bhp rows.length cols.length (A ++ (rows.drop i).map fun id=>rowL ((findC c id).getD zC).b cols),rs:=b' }):=by
  intro n
  induction n with
  | zero =>
    intro i A b h hA
    have hi:i = rows.length:=by omega
    subst hi
    have k1:¬ (rows.length:Int) < (rows.length:Int):=by omega
    refine ⟨b,?_⟩
    rw [List.drop_length,List.map_nil,List.append_nil,a19l0_run]
    simp (maxSteps:=1000000) only [si,simprocAttr,a19b0,a19R,k1]
  | succ n ih =>
    intro i A b h hA
    have hi:i < rows.length:=by omega
    obtain ⟨b1,h1⟩:=bnd_step hE c hc hb k rows cols hr hl z i hi A hA b
    obtain ⟨b2,h2⟩:=ih (i + 1) (A ++ [rowL ((findC c (rows.getD i 0)).getD zC).b cols]) b1 (by omega) (by simp [hA])
    refine ⟨b2,?_⟩
    rw [h1,h2,drop_cons rows i hi,List.map_cons,List.append_assoc]; rfl
theorem r25_boundary (c:List Cel) (hc:c.length < 2147483648) (hb:∀ x ∈ c,x.b.length < 2147483648) (k:Int) (H:Heap) :
    call E GP 19 [.isl (c.map cA),.int .i64 k] H = some (MI (cellsC c k).length (cellsC c (IntKind.i64.wrap (k - 1))).length (bndC c k),H,false):=by
  rw [call_fun (hE _ _ _ (by decide)) (f:=a19) rfl rfl]
  have c1:=fun H=>r25_cells hE c k hc H
  have c2:=fun H=>r25_cells hE c (IntKind.i64.wrap (k - 1)) hc H
  have l1:=cellsC_len c k
  have l2:=cellsC_len c (IntKind.i64.wrap (k - 1))
  obtain ⟨b,h1⟩:=bnd_loop hE c hc hb k (cellsC c k) (cellsC c (IntKind.i64.wrap (k - 1))) (by omega) (by omega) (.agg [.int .i64 0,.int .i64 0,.nl]) (cellsC c k).length 0 [] false (by omega) rfl
  rw [List.drop_zero,List.nil_append] at h1
  have hR:(bndC c k).length = (cellsC c k).length:=by simp [bndC]
  rw [show ((cellsC c k).map fun id=>rowL ((findC c id).getD zC).b (cellsC c (IntKind.i64.wrap (k - 1)))) = bndC c k from rfl] at h1
  have hrf:=refs_cA c
  have hrs:=refs_rowsI (bndC c k)
  have hso:=solids_rowsI (bndC c k)
  have hz:=fun H=>fz_rowsI 0 H 3 (bndC c k)
  generalize bndC c k = B at *
  cases B with
  | nil =>
    simp only [List.length_nil] at hR
    have e0:MI (cellsC c k).length (cellsC c (IntKind.i64.wrap (k - 1))).length [] = .agg [.int .i64 (cellsC c k).length,.int .i64 (cellsC c (IntKind.i64.wrap (k - 1))).length,.isl []]:=rfl
    rw [e0]
    simp only [bhp,bav,Int.ofNat_zero] at h1
    simp (maxSteps:=1000000) only [si,simprocAttr,a19,a19R,c1,c2,hrf,h1]
  | cons r l =>
    simp only [List.length_cons] at hR
    rw [← hR] at h1 ⊢
    have hl3:=rowsI_len (r :: l)
    simp only [List.length_cons] at hl3
    have hle:(cellsC c k).length ≤ l.length + 1:=by omega
    have htk:List.take (cellsC c k).length (rowsI (r :: l)) = rowsI (r :: l):=List.take_of_length_le (by omega)
    unfold MI
    simp only [bhp,bav,Int.ofNat_zero] at h1
    rw [hR] at h1 ⊢
    simp (maxSteps:=1000000) only [si,simprocAttr,a19,a19R,c1,c2,hrf,h1,hrs,hso,hl3,htk,hle,hz]
end Tor
namespace Tor
open Go
variable {E:CallF} (hE:Free E)
include hE
theorem c_make (l:List (Int × Int)) (N:Nat) (hl:Bd N l) (hs:l.length < 2147483647) (hN:N * (l.length + 1) < BIG) (ks:List Int) (hS:Srt E (sums l []) ks) (hk:ks.length < 2147483647) (H:Heap) :
    call E GP 22 [.isl (l.map fA)] H = some (.isl ((chainOf ks (sums l [])).map fA),H,false):=by
  rw [call_fun (hE _ _ _ (by decide)) (f:=a22) rfl rfl]
  have hr:=cmake_loop hE l N hl hs hN l.length 0 [] (by omega) (by intro p hp; cases hp)
  have hc:=c_chain hE (sums l []) ks hS hk
  rw [List.drop_zero] at hr
  simp only [kvM,List.map_nil,Int.ofNat_zero] at hr
  simp only [kvM] at hc
  simp (maxSteps:=1000000) only [si,simprocAttr,a22,a22R,refs_fA,hr,hc,fz_fAs7,solids_fA]
end Tor
namespace Tor
open Go
variable {E:CallF}
def sumsK (c:Int) (l m:List (Int × Int)):List (Int × Int):=l.foldl (fun m p=>sadd m p.1 (c * p.2)) m
variable (hE:Free E)
include hE
end Tor
namespace Tor
open Go
variable {E:CallF}
def pA (p:Int × Int):AV:=.agg [.int .i8 p.1,.int .i8 p.2]
def cellOf (p:Int × Int):Int × Int:=(IntKind.i64.wrap ((IntKind.u8.wrap p.1).tmod 10),IntKind.i64.wrap (p.2.tmod 4))
theorem pA_get {l:List (Int × Int)} {i:Nat} (h:i < l.length):(l.map pA)[i]? = some (.agg [.int .i8 l[i].1,.int .i8 l[i].2]):=by
  simp [h,pA]
theorem refs_pA:∀ l:List (Int × Int),AV.hasRefs (l.map pA) = false
  | []=>rfl
  | p :: r=>by simp [pA,AV.hasRefs,AV.hasRef,refs_pA r]
variable (hE:Free E)
include hE
theorem faces_round (l:List (Int × Int)) (hl:∀ p ∈ l,-128 ≤ p.2 ∧ p.2 ≤ 127) (i:Nat) (out:List (Int × Int)) (ho:out.length = i) (h1:i < l.length) (h6:i < 6) :
    run E GP a2l0 { vars:=[.isl (l.map pA),.isl [],.sl 0 i 3 0 i,.int .i64 (i:Nat),.u],heap:=[.arr i 3 (out.map fA)],rs:=false } =
    run E GP a2l0 { vars:=[.isl (l.map pA),.isl [],.sl 0 (i + 1) 3 0 (i + 1),.int .i64 ((i + 1:Nat):Int),.u],heap:=[.arr (i + 1) 3 ((out ++ [cellOf l[i]]).map fA)],rs:=false }:=by
  have k1:(i:Int) < (l.length:Int):=by omega
  have k6:(i:Int) < 6:=by omega
  have g1:=pA_get h1
  have wi:IntKind.i64.wrap ((i:Int) + 1) = ((i + 1:Nat):Int):=i64a (by omega)
  have hm:i + 1 ≤ 4294967296:=by omega
  have hof:=fun (H:Heap)=>r1_of hE (IntKind.i64.wrap (l[i].2.tmod 4)) H (by rw [IntKind.wrap_i64]; omega) (by rw [IntKind.wrap_i64]; omega)
  conv=>lhs; rw [a2l0_run]
  simp (maxSteps:=1000000) only [si,simprocAttr,a2b0,a2R,k1,k6,g1,wi,hm,maxLenA,hof,List.map_append,fA,cellOf,ho]
omit hE in
theorem faces_exit (l:List (Int × Int)) (i:Nat) (out:List (Int × Int)) (h:¬ i < l.length ∨ ¬ i < 6) :
    run E GP a2l0 { vars:=[.isl (l.map pA),.isl [],.sl 0 i 3 0 i,.int .i64 (i:Nat),.u],heap:=[.arr i 3 (out.map fA)],rs:=false } =
      some (.exit 0,{ vars:=[.isl (l.map pA),.isl [],.sl 0 i 3 0 i,.int .i64 (i:Nat),.bool false],heap:=[.arr i 3 (out.map fA)],rs:=false }):=by
  rw [a2l0_run]
  by_cases h1:i < l.length
  · have k1:(i:Int) < (l.length:Int):=by omega
    have k6:¬ (i:Int) < 6:=by omega
    simp (maxSteps:=1000000) only [si,simprocAttr,a2b0,a2R,k1,k6]
  · have k1:¬ (i:Int) < (l.length:Int):=by omega
    simp (maxSteps:=1000000) only [si,simprocAttr,a2b0,a2R,k1]
theorem faces_loop (l:List (Int × Int)) (hl:∀ p ∈ l,-128 ≤ p.2 ∧ p.2 ≤ 127):∀ (k i:Nat) (out:List (Int × Int)),min l.length 6 = i + k → out.length = i →
    ∃ out':List (Int × Int),out' = out ++ ((l.take 6).drop i).map cellOf ∧ out'.length = min l.length 6 ∧
    run E GP a2l0 { vars:=[.isl (l.map pA),.isl [],.sl 0 i 3 0 i,.int .i64 (i:Nat),.u],heap:=[.arr i 3 (out.map fA)],rs:=false } =
      some (.exit 0,{ vars:=[.isl (l.map pA),.isl [],.sl 0 out'.length 3 0 out'.length,.int .i64 (out'.length:Nat),.bool false],heap:=[.arr out'.length 3 (out'.map fA)],rs:=false }):=by
  intro k
  induction k with
  | zero =>
    intro i out h1 h2
    refine ⟨out,?_,by omega,?_⟩
    · rw [List.drop_of_length_le (by rw [List.length_take]; omega)]; simp
    · subst h2; exact faces_exit l _ out (by omega)
  | succ k ih =>
    intro i out h1 h2
    obtain ⟨out',e1,e2,e3⟩:=ih (i + 1) (out ++ [cellOf (l[i]'(by omega))]) (by omega) (by simp [h2])
    refine ⟨out',?_,e2,?_⟩
    · rw [e1,List.drop_eq_getElem_cons (i:=i) (by rw [List.length_take]; omega)]
      simp
    · rw [faces_round hE l hl i out h2 (by omega) (by omega)]; exact e3
theorem r26_faces (l:List (Int × Int)) (hl:∀ p ∈ l,-128 ≤ p.2 ∧ p.2 ≤ 127) (H:Heap) :
    call E GP 2 [.isl (l.map pA)] H = some (.isl (((l.take 6).map cellOf).map fA),H,false):=by
  rw [call_fun (hE _ _ _ (by decide)) (f:=a2) rfl rfl]
  obtain ⟨out,e1,e2,e3⟩:=faces_loop hE l hl (min l.length 6) 0 [] (by omega) rfl
  rw [List.nil_append,List.drop_zero] at e1
  rw [← e1]
  simp only [List.map_nil,Int.ofNat_zero] at e3
  simp (maxSteps:=1000000) only [si,simprocAttr,a2,a2R,refs_pA,e3,take_all,fz_fAs7,solids_fA,refs_fA,headSize_fA]
end Tor
namespace Tor
open Go
def cellOf? (c:List Cel) (id:Int):Cel:=(findC c id).getD zC
def dimGo (c:List Cel):List (Int × Int) → Bool → Int → Bool → Option (Int × Bool)
  | [],_,d,m=>some (d,m)
  | p :: r,fst,d,m=>if (findC c p.1).isSome then dimGo c r false (cellOf? c p.1).dim (m || (!fst && !decide ((cellOf? c p.1).dim = d))) else none
def dimEnd:Option (Int × Bool) → Int × Int
  | none=>(0,250)
  | some (d,true)=>(0,260)
  | some (d,false)=>(d,0)
def dim26 (c:List Cel) (x:List (Int × Int)):Int × Int:=dimEnd (dimGo c x true (-1) false)
variable {E:CallF} (hE:Free E)
include hE
def dst (c:List Cel) (x:List (Int × Int)) (d:Int) (m:Bool) (i:Nat) (c7 c8 c9 c10 c12:AV):St :=
  { vars:=[.isl (c.map cA),.isl (x.map fA),.int .i64 0,.int .i64 0,.int .i64 d,.bool m,.int .i64 i,c7,c8,c9,c10,.u,c12],heap:=[],rs:=false }
theorem dim_loop (c:List Cel) (x:List (Int × Int)) (hc:c.length < 2147483648) (hx:x.length < 2147483648):∀ (n i:Nat) (d:Int) (m:Bool),x.length = i + n →
    (∀ d' m',dimGo c (x.drop i) (decide (i = 0)) d m = some (d',m') → run E GP a5l0 (dst c x d m i .u .u .u .u .u) = some (.exit 0,dst c x d' m' x.length .u (.bool false) .u .u .u)) ∧
    (dimGo c (x.drop i) (decide (i = 0)) d m = none → ∃ v4 v5 v6 v12,run E GP a5l0 (dst c x d m i .u .u .u .u .u) =
      some (.ret,{ vars:=[.isl (c.map cA),.isl (x.map fA),.int .i64 0,.int .i64 250,v4,v5,v6,.bool false,.bool true,.bool true,.u,.u,v12],heap:=[],rs:=false })):=by
  intro n
  induction n with
  | zero =>
    intro i d m h
    have hi:i = x.length:=by omega
    subst hi
    have k1:¬ (x.length:Int) < (x.length:Int):=by omega
    rw [List.drop_length]
    refine ⟨fun d' m' e=>?_,fun e=>by cases e⟩
    cases e
    rw [a5l0_run]
    simp (maxSteps:=1000000) only [si,simprocAttr,dst,a5b0,a5R,k1]
  | succ n ih =>
    intro i d m h
    have hi:i < x.length:=by omega
    have k1:(i:Int) < (x.length:Int):=by omega
    have wi:IntKind.i64.wrap ((i:Int) + 1) = ((i + 1:Nat):Int):=i64a (by omega)
    have g1:=fA_get hi
    have hf:=fun H=>r25_find hE c x[i].1 hc H
    rw [List.drop_eq_getElem_cons hi]
    simp only [dimGo]
    by_cases hk:(findC c x[i].1).isSome = true
    · rw [if_pos hk]
      rw [hk] at hf
      rw [show (findC c x[i].1).getD zC = cellOf? c x[i].1 from rfl] at hf
      obtain ⟨i1,i2⟩:=ih (i + 1) (cellOf? c x[i].1).dim (m || (!decide (i = 0) && !decide ((cellOf? c x[i].1).dim = d))) (by omega)
      have hz:decide (i + 1 = 0) = false:=decide_eq_false (by omega)
      rw [hz] at i1 i2
      have hst:run E GP a5l0 (dst c x d m i .u .u .u .u .u) = run E GP a5l0 (dst c x (cellOf? c x[i].1).dim (m || (!decide (i = 0) && !decide ((cellOf? c x[i].1).dim = d))) (i + 1) .u .u .u .u .u):=by
        generalize cellOf? c x[i].1 = f at *
        rw [show cA f = .agg [.int .i64 f.id,.int .i64 f.dim,.isl (f.b.map fA)] from rfl] at hf
        conv=>lhs; rw [a5l0_run]
        by_cases h0:i = 0
        · have k0:¬ (i:Int) > 0:=by omega
          have k0':decide (i = 0) = true:=decide_eq_true h0
          simp (maxSteps:=1000000) only [si,simprocAttr,dst,a5b0,a5R,k1,wi,g1,hf,k0,k0']
        · have k0:(i:Int) > 0:=by omega
          have k0':decide (i = 0) = false:=decide_eq_false h0
          by_cases hd:f.dim = d
          · have hd1:decide (f.dim = d) = true:=decide_eq_true hd
            simp (maxSteps:=1000000) only [si,simprocAttr,dst,a5b0,a5R,k1,wi,g1,hf,k0,k0',hd1]
          · have hd1:decide (f.dim = d) = false:=decide_eq_false hd
            simp (maxSteps:=1000000) only [si,simprocAttr,dst,a5b0,a5R,k1,wi,g1,hf,k0,k0',hd1,Bool.or_true]
      rw [hst]
      exact ⟨i1,i2⟩
    · rw [if_neg hk]
      refine ⟨fun d' m' e=>(by cases e),fun _=>⟨.int .i64 d,.bool m,.int .i64 i,cA zC,?_⟩⟩
      have hn:findC c x[i].1 = none:=by simpa using hk
      rw [hn] at hf
      rw [Option.getD_none,Option.isSome_none,show cA zC = .agg [.int .i64 0,.int .i64 0,.isl []] from rfl] at hf
      rw [show cA zC = .agg [.int .i64 0,.int .i64 0,.isl []] from rfl,a5l0_run]
      simp (maxSteps:=1000000) only [si,simprocAttr,dst,a5b0,a5R,k1,wi,g1,hf]
theorem r26_dim (c:List Cel) (x:List (Int × Int)) (hc:c.length < 2147483648) (hx:x.length < 2147483648) (H:Heap) :
    call E GP 5 [.isl (c.map cA),.isl (x.map fA)] H = some (.tup [.int .i64 (dim26 c x).1,.int .i64 (dim26 c x).2],H,false):=by
  rw [call_fun (hE _ _ _ (by decide)) (f:=a5) rfl rfl]
  obtain ⟨h1,h2⟩:=dim_loop hE c x hc hx x.length 0 (-1) false (by omega)
  rw [List.drop_zero] at h1 h2
  simp only [decide_true] at h1 h2
  have hr1:=refs_cA c
  have hr2:=refs_fA x
  unfold dim26
  cases hd:dimGo c x true (-1) false with
  | none =>
    obtain ⟨v4,v5,v6,v12,h2⟩:=h2 hd
    simp only [dst,Int.ofNat_zero] at h2
    simp only [dimEnd]
    simp (maxSteps:=1000000) only [si,simprocAttr,a5,a5R,hr1,hr2,h2]
  | some q =>
    obtain ⟨d',m'⟩:=q
    have h1:=h1 d' m' hd
    simp only [dst,Int.ofNat_zero] at h1
    cases m' <;>
    (simp only [dimEnd]
     simp (maxSteps:=1000000) only [si,simprocAttr,a5,a5R,hr1,hr2,h1])
end Tor
namespace Tor
def Canon:Option Int → List (Int × Int) → Prop
  | _,[]=>True
  | b,(j,x) :: r=>(∀ m,b = some m → m < j) ∧ x ≠ 0 ∧ Canon (some j) r
theorem canon_weak {r:List (Int × Int)} {b b':Option Int} (h:Canon b r) (hb:∀ m,b' = some m → ∃ k,b = some k ∧ m ≤ k):Canon b' r:=by
  cases r with
  | nil=>trivial
  | cons p r =>
    obtain ⟨h1,h2,h3⟩:=h
    refine ⟨fun m hm=>?_,h2,h3⟩
    obtain ⟨k,hk,hle⟩:=hb m hm
    have:=h1 k hk
    omega
theorem look_below {r:List (Int × Int)} {m k:Int} (h:Canon (some m) r) (hk:k ≤ m):lookL k r = 0:=by
  induction r generalizing m with
  | nil=>rfl
  | cons p r ih =>
    obtain ⟨j,x⟩:=p
    obtain ⟨h1,h2,h3⟩:=h
    have:=h1 m rfl
    simp only [lookL]
    rw [if_neg (by omega)]
    exact ih h3 (by omega)
theorem canon_ext:∀ (a b:List (Int × Int)) (m n:Option Int),Canon m a → Canon n b → (∀ k,lookL k a = lookL k b) → a = b
  | [],[],_,_,_,_,_=>rfl
  | [],(j,x) :: r,_,_,_,hb,h=>by
    have:=h j
    simp only [lookL,if_true] at this
    exact absurd this.symm hb.2.1
  | (j,x) :: r,[],_,_,ha,_,h=>by
    have:=h j
    simp only [lookL,if_true] at this
    exact absurd this ha.2.1
  | (j,x) :: r,(i,y) :: s,_,_,ha,hb,h=>by
    obtain ⟨-,a2,a3⟩:=ha
    obtain ⟨-,b2,b3⟩:=hb
    have hij:i = j:=by
      rcases Int.lt_trichotomy i j with c | c | c
      · exfalso
        have:=h i
        simp only [lookL,if_true] at this
        rw [if_neg (by omega),look_below a3 (by omega)] at this
        exact b2 this.symm
      · exact c
      · exfalso
        have:=h j
        simp only [lookL,if_true] at this
        rw [if_neg (by omega),look_below b3 (by omega)] at this
        exact a2 this
    subst hij
    have hxy:x = y:=by have:=h i; simpa only [lookL,if_true] using this
    subst hxy
    congr 1
    refine canon_ext r s _ _ a3 b3 fun k=>?_
    by_cases c:k = i
    · subst c; rw [look_below a3 (by omega),look_below b3 (by omega)]
    · have:=h k
      simpa only [lookL,if_neg c] using this
theorem insR_true (f:Int × Int):∀ l,insR f true l = l
  | []=>rfl
  | x :: r=>by
    rw [insR,if_neg (by simp),if_neg (by simp),insR_true f r]
theorem insR_look (f:Int × Int) (k:Int):∀ (l:List (Int × Int)) (b:Option Int),Canon b l → lookL k (insR f false l) = lookL k l + (if k = f.1 then f.2 else 0)
  | [],_,_=>by
    obtain ⟨i,c⟩:=f
    simp only [insR,lookL,Bool.false_eq_true,if_false]
    split <;> simp
  | (j,x) :: r,b,h=>by
    obtain ⟨i,c⟩:=f
    obtain ⟨h1,h2,h3⟩:=h
    have ih:=insR_look (i,c) k r _ h3
    simp only [insR,insR_true,true_and]
    by_cases c1:j > i
    · rw [if_pos c1]
      simp only [lookL]
      by_cases e:k = i
      · subst e; rw [if_pos rfl,if_pos rfl,if_neg (by omega),look_below h3 (by omega)]; omega
      · rw [if_neg e,if_neg e]; omega
    · rw [if_neg c1]
      by_cases c2:j = i
      · subst c2
        rw [if_pos rfl]
        by_cases hz:x + c ≠ 0
        · rw [if_pos hz]
          simp only [lookL]
          split <;> omega
        · rw [if_neg hz]
          simp only [lookL]
          by_cases e:k = j
          · subst e; rw [if_pos rfl,if_pos rfl,look_below h3 (by omega)]; omega
          · rw [if_neg e,if_neg e]; omega
      · rw [if_neg c2]
        simp only [lookL]
        by_cases e:k = j
        · subst e; rw [if_pos rfl,if_pos rfl,if_neg (by omega)]; omega
        · rw [if_neg e,if_neg e,ih]
end Tor
namespace Tor
theorem insR_canon (f:Int × Int) (hf:f.2 ≠ 0):∀ (l:List (Int × Int)) (b:Option Int),(∀ m,b = some m → m < f.1) → Canon b l → Canon b (insR f false l)
  | [],b,hb,_=>by
    obtain ⟨i,c⟩:=f
    simp only [insR,Bool.false_eq_true,if_false]
    exact ⟨hb,hf,trivial⟩
  | (j,x) :: r,b,hb,h=>by
    obtain ⟨i,c⟩:=f
    obtain ⟨h1,h2,h3⟩:=h
    simp only [insR,insR_true,true_and]
    by_cases c1:j > i
    · rw [if_pos c1]
      exact ⟨hb,hf,fun m hm=>by cases hm; exact c1,h2,h3⟩
    · rw [if_neg c1]
      by_cases c2:j = i
      · subst c2
        rw [if_pos rfl]
        by_cases hz:x + c ≠ 0
        · rw [if_pos hz]; exact ⟨h1,hz,h3⟩
        · rw [if_neg hz]
          cases b with
          | none=>exact canon_weak h3 (fun m hm=>by cases hm)
          | some m=>exact canon_weak h3 (fun m' hm=>⟨j,rfl,by cases hm; have:=h1 m rfl; omega⟩)
      · rw [if_neg c2]
        exact ⟨h1,h2,insR_canon (i,c) hf r _ (fun m hm=>by cases hm; simp only; omega) h3⟩
theorem insert_canon (l:List (Int × Int)) (f:Int × Int) (h:Canon none l):Canon none (insert26 l f):=by
  unfold insert26
  by_cases hz:f.2 = 0
  · rw [show decide (f.2 = 0) = true by simpa using hz,insR_true]; exact h
  · rw [show decide (f.2 = 0) = false by simpa using hz]; exact insR_canon f hz l _ (fun m hm=>by cases hm) h
theorem insert_look (l:List (Int × Int)) (f:Int × Int) (k:Int) (h:Canon none l):lookL k (insert26 l f) = lookL k l + (if k = f.1 then f.2 else 0):=by
  unfold insert26
  by_cases hz:f.2 = 0
  · rw [show decide (f.2 = 0) = true by simpa using hz,insR_true,hz]; split <;> omega
  · rw [show decide (f.2 = 0) = false by simpa using hz]; exact insR_look f k l _ h
def tot (k:Int):List (Int × Int) → Int
  | []=>0
  | (j,x) :: r=>(if k = j then x else 0) + tot k r
theorem make_law:∀ (l a:List (Int × Int)),Canon none a → Canon none (l.foldl insert26 a) ∧ ∀ k,lookL k (l.foldl insert26 a) = lookL k a + tot k l
  | [],a,h=>⟨h,fun k=>by simp [tot]⟩
  | (j,x) :: r,a,h=>by
    obtain ⟨h1,h2⟩:=make_law r (insert26 a (j,x)) (insert_canon a _ h)
    refine ⟨h1,fun k=>?_⟩
    rw [List.foldl_cons,h2 k,insert_look a _ k h]
    simp only [tot]; omega
theorem add_law (c:Int):∀ (l a:List (Int × Int)),Canon none a → Canon none (add26 a l c) ∧ ∀ k,lookL k (add26 a l c) = lookL k a + c * tot k l
  | [],a,h=>⟨h,fun k=>by simp [tot,add26]⟩
  | (j,x) :: r,a,h=>by
    obtain ⟨h1,h2⟩:=add_law c r (insert26 a (j,c * x)) (insert_canon a _ h)
    have e:add26 a ((j,x) :: r) c = add26 (insert26 a (j,c * x)) r c:=rfl
    rw [e]
    refine ⟨h1,fun k=>?_⟩
    rw [h2 k,insert_look a _ k h]
    simp only [tot,Int.mul_add]
    by_cases e:k = j
    · rw [if_pos e,if_pos e]; omega
    · rw [if_neg e,if_neg e,Int.mul_zero]; omega
def Once (l:List (Int × Int)):Prop:=(l.map (·.1)).Nodup
theorem look_set (k y i:Int):∀ l,lookL i (setL k y l) = if i = k then y else lookL i l
  | []=>by simp only [setL,lookL]
  | (j,x) :: r=>by
    have ih:=look_set k y i r
    simp only [setL]
    by_cases c:k = j
    · subst c; rw [if_pos rfl]; simp only [lookL]; split <;> rfl
    · rw [if_neg c]; simp only [lookL]
      by_cases e:i = j
      · subst e; rw [if_pos rfl,if_pos rfl,if_neg (fun h=>c h.symm)]
      · rw [if_neg e,if_neg e,ih]
theorem look_out {i:Int}:∀ {l:List (Int × Int)},i ∉ l.map (·.1) → lookL i l = 0
  | [],_=>rfl
  | (j,x) :: r,h=>by
    simp only [List.map_cons,List.mem_cons,not_or] at h
    simp only [lookL]; rw [if_neg h.1]; exact look_out h.2
theorem look_del (k i:Int):∀ l,Once l → lookL i (delL k l) = if i = k then 0 else lookL i l
  | [],_=>by simp [delL,lookL]
  | (j,x) :: r,h=>by
    simp only [Once,List.map_cons,List.nodup_cons] at h
    have ih:=look_del k i r h.2
    simp only [delL]
    by_cases c:k = j
    · subst c; rw [if_pos rfl]; simp only [lookL]
      by_cases e:i = k
      · subst e; rw [if_pos rfl,look_out h.1]
      · rw [if_neg e,if_neg e]
    · rw [if_neg c]; simp only [lookL]
      by_cases e:i = j
      · subst e; rw [if_pos rfl,if_pos rfl,if_neg (fun h=>c h.symm)]
      · rw [if_neg e,if_neg e,ih]
theorem sadd_look (k c i:Int) (l:List (Int × Int)) (h:Once l):lookL i (sadd l k c) = lookL i l + (if i = k then c else 0):=by
  unfold sadd
  split
  · rename_i hz
    rw [look_del k i l h]
    by_cases e:i = k
    · subst e; rw [if_pos rfl,if_pos rfl]; omega
    · rw [if_neg e,if_neg e]; omega
  · rw [look_set]
    by_cases e:i = k
    · subst e; rw [if_pos rfl,if_pos rfl]
    · rw [if_neg e,if_neg e]; omega
end Tor
namespace Tor
theorem mem_setL {k y:Int} {p:Int × Int}:∀ {l:List (Int × Int)},p ∈ setL k y l → p = (k,y) ∨ p ∈ l
  | [],h=>by simp [setL] at h; exact Or.inl h
  | (j,x) :: r,h=>by
    simp only [setL] at h
    split at h
    · cases h with
      | head=>exact Or.inl rfl
      | tail _ h=>exact Or.inr (.tail _ h)
    · cases h with
      | head=>exact Or.inr (.head _)
      | tail _ h => rcases mem_setL h with h | h
                    · exact Or.inl h
                    · exact Or.inr (.tail _ h)
theorem mem_delL {k:Int} {p:Int × Int}:∀ {l:List (Int × Int)},p ∈ delL k l → p ∈ l
  | [],h=>by simp [delL] at h
  | (j,x) :: r,h=>by
    simp only [delL] at h
    split at h
    · exact .tail _ h
    · cases h with
      | head=>exact .head _
      | tail _ h=>exact .tail _ (mem_delL h)
theorem once_setL (k y:Int):∀ l:List (Int × Int),Once l → Once (setL k y l)
  | [],_=>by simp [setL,Once]
  | (j,x) :: r,h=>by
    simp only [Once,List.map_cons,List.nodup_cons] at h
    simp only [setL]
    split
    · rename_i c; subst c
      simp only [Once,List.map_cons,List.nodup_cons]; exact h
    · rename_i c
      simp only [Once,List.map_cons,List.nodup_cons]
      refine ⟨fun hm=>?_,once_setL k y r h.2⟩
      obtain ⟨p,hp,e⟩:=List.mem_map.1 hm
      rcases mem_setL hp with e2 | hp
      · subst e2; exact c e
      · exact h.1 (List.mem_map.2 ⟨p,hp,e⟩)
theorem once_delL (k:Int):∀ l:List (Int × Int),Once l → Once (delL k l)
  | [],_=>by simp [delL,Once]
  | (j,x) :: r,h=>by
    simp only [Once,List.map_cons,List.nodup_cons] at h
    simp only [delL]
    split
    · exact h.2
    · simp only [Once,List.map_cons,List.nodup_cons]
      refine ⟨fun hm=>?_,once_delL k r h.2⟩
      obtain ⟨p,hp,e⟩:=List.mem_map.1 hm
      exact h.1 (List.mem_map.2 ⟨p,mem_delL hp,e⟩)
def Sums (m:List (Int × Int)):Prop:=Once m ∧ ∀ p ∈ m,p.2 ≠ 0
theorem sadd_sums (m:List (Int × Int)) (k c:Int) (h:Sums m):Sums (sadd m k c):=by
  unfold sadd
  split
  · exact ⟨once_delL k m h.1,fun p hp=>h.2 p (mem_delL hp)⟩
  · rename_i hz
    refine ⟨once_setL k _ m h.1,fun p hp=>?_⟩
    rcases mem_setL hp with e | hp
    · subst e; exact hz
    · exact h.2 p hp
theorem sums_law:∀ (l m:List (Int × Int)),Sums m → Sums (sums l m) ∧ ∀ k,lookL k (sums l m) = lookL k m + tot k l
  | [],m,h=>⟨h,fun k=>by simp [tot,sums]⟩
  | (j,x) :: r,m,h=>by
    obtain ⟨h1,h2⟩:=sums_law r (sadd m j x) (sadd_sums m j x h)
    have e:sums ((j,x) :: r) m = sums r (sadd m j x):=rfl
    rw [e]
    refine ⟨h1,fun k=>?_⟩
    rw [h2 k,sadd_look _ _ _ _ h.1]
    simp only [tot]; omega
theorem sumsK_law (c:Int):∀ (l m:List (Int × Int)),Sums m → Sums (sumsK c l m) ∧ ∀ k,lookL k (sumsK c l m) = lookL k m + c * tot k l
  | [],m,h=>⟨h,fun k=>by simp [tot,sumsK]⟩
  | (j,x) :: r,m,h=>by
    obtain ⟨h1,h2⟩:=sumsK_law c r (sadd m j (c * x)) (sadd_sums m j (c * x) h)
    have e:sumsK c ((j,x) :: r) m = sumsK c r (sadd m j (c * x)):=rfl
    rw [e]
    refine ⟨h1,fun k=>?_⟩
    rw [h2 k,sadd_look _ _ _ _ h.1]
    simp only [tot,Int.mul_add]
    by_cases e:k = j
    · rw [if_pos e,if_pos e]; omega
    · rw [if_neg e,if_neg e,Int.mul_zero]; omega
theorem look_in {k:Int}:∀ {m:List (Int × Int)},(∀ p ∈ m,p.2 ≠ 0) → k ∈ m.map (·.1) → lookL k m ≠ 0
  | [],_,h=>by simp at h
  | (j,x) :: r,hn,h=>by
    simp only [lookL]
    split
    · exact hn _ (.head _)
    · rename_i c
      simp only [List.map_cons,List.mem_cons] at h
      exact look_in (fun p hp=>hn p (.tail _ hp)) (h.resolve_left c)
theorem chainOf_canon (m:List (Int × Int)):∀ (ks:List Int) (b:Option Int),ks.Pairwise (· < ·) → (∀ n,b = some n → ∀ k ∈ ks,n < k) → (∀ k ∈ ks,lookL k m ≠ 0) → Canon b (chainOf ks m)
  | [],_,_,_,_=>trivial
  | k :: r,b,hp,hb,hz=>by
    rw [List.pairwise_cons] at hp
    exact ⟨fun n hn=>hb n hn k (.head _),hz k (.head _),chainOf_canon m r (some k) hp.2 (fun n hn j hj=>by cases hn; exact hp.1 j hj) (fun j hj=>hz j (.tail _ hj))⟩
theorem chainOf_look (m:List (Int × Int)) (i:Int):∀ ks:List Int,lookL i (chainOf ks m) = if i ∈ ks then lookL i m else 0
  | []=>by simp [chainOf,lookL]
  | k :: r=>by
    have ih:=chainOf_look m i r
    have e:chainOf (k :: r) m = (k,lookL k m) :: chainOf r m:=rfl
    rw [e]; simp only [lookL]
    by_cases c:i = k
    · subst c; simp
    · rw [if_neg c,ih]; simp [c]
theorem chain_law (m:List (Int × Int)) (h:Sums m) (ks:List Int) (hp:ks.Pairwise (· < ·)) (hk:∀ k,k ∈ ks ↔ k ∈ m.map (·.1)) :
    Canon none (chainOf ks m) ∧ ∀ k,lookL k (chainOf ks m) = lookL k m:=by
  refine ⟨chainOf_canon m ks none hp (fun n hn=>by cases hn) (fun k hk'=>look_in h.2 ((hk k).1 hk')),fun k=>?_⟩
  rw [chainOf_look]
  by_cases c:k ∈ ks
  · rw [if_pos c]
  · rw [if_neg c,look_out (fun hh=>c ((hk k).2 hh))]
end Tor
namespace Tor
theorem tot_below {k:Int}:∀ {r:List (Int × Int)} {m:Int},Canon (some m) r → k ≤ m → tot k r = 0
  | [],_,_,_=>rfl
  | (j,x) :: r,m,h,hk=>by
    have:=h.1 m rfl
    simp only [tot]
    rw [if_neg (by omega),tot_below h.2.2 (by omega)]; rfl
theorem tot_canon (k:Int):∀ (l:List (Int × Int)) (b:Option Int),Canon b l → tot k l = lookL k l
  | [],_,_=>rfl
  | (j,x) :: r,b,h=>by
    simp only [tot,lookL]
    by_cases c:k = j
    · subst c; rw [if_pos rfl,if_pos rfl,tot_below h.2.2 (by omega)]; omega
    · rw [if_neg c,if_neg c,tot_canon k r _ h.2.2]; omega
theorem sums_nil:Sums []:=⟨by simp [Once],fun p hp=>by cases hp⟩
theorem make_eq (l:List (Int × Int)) (ks:List Int) (hp:ks.Pairwise (· < ·)) (hk:∀ k,k ∈ ks ↔ k ∈ (sums l []).map (·.1)) :
    chainOf ks (sums l []) = l.foldl insert26 []:=by
  obtain ⟨s1,s2⟩:=sums_law l [] sums_nil
  obtain ⟨c1,c2⟩:=chain_law _ s1 ks hp hk
  obtain ⟨m1,m2⟩:=make_law l [] trivial
  exact canon_ext _ _ none none c1 m1 fun k=>by rw [c2,s2,m2]
end Tor
namespace Tor
theorem canon_all:∀ (l:List (Int × Int)) (b:Option Int),Canon b l → (∀ p ∈ l,p.2 ≠ 0) ∧ l.Pairwise (fun p q=>p.1 < q.1) ∧ ∀ m,b = some m → ∀ p ∈ l,m < p.1
  | [],_,_=>⟨fun p hp=>by (cases hp),.nil,fun m hm p hp=>by (cases hp)⟩
  | (j,x) :: r,b,h=>by
    obtain ⟨i1,i2,i3⟩:=canon_all r _ h.2.2
    refine ⟨fun p hp=>?_,?_,fun m hm p hp=>?_⟩
    · cases hp with
      | head=>exact h.2.1
      | tail _ hp=>exact i1 p hp
    · exact List.pairwise_cons.2 ⟨fun q hq=>i3 j rfl q hq,i2⟩
    · have h0:=h.1 m hm
      cases hp with
      | head=>exact h0
      | tail _ hp=>have:=i3 j rfl p hp; omega
theorem canon_valid (l:List (Int × Int)) (h:Canon none l):valid26 l = true:=by
  obtain ⟨h1,h2,-⟩:=canon_all l _ h
  unfold valid26
  rw [List.all_eq_true]
  intro i hi
  have hi:=List.mem_range.1 hi
  unfold okAt
  rw [← getD_get l i hi]
  have hz:=h1 _ (List.getElem_mem hi)
  have hs:(l[i].2).sign ≠ 0:=fun e=>hz (Int.sign_eq_zero_iff_zero.1 e)
  rw [show decide (l[i].2.sign ≠ 0) = true by simpa using hs,Bool.true_and]
  by_cases c:i = 0
  · simp [c]
  · have:=List.pairwise_iff_getElem.1 h2 (i - 1) i (by omega) hi (by omega)
    rw [← getD_get l (i - 1) (by omega)]
    simp [this]
end Tor
namespace Tor
open Go
def insI (k:Int):List Int → List Int
  | []=>[k]
  | j :: r=>if k ≤ j then k :: j :: r else j :: insI k r
def sortI:List Int → List Int
  | []=>[]
  | k :: r=>insI k (sortI r)
theorem mem_insI (k x:Int):∀ l,x ∈ insI k l ↔ x = k ∨ x ∈ l
  | []=>by simp [insI]
  | j :: r=>by
    simp only [insI]
    split
    · simp
    · simp only [List.mem_cons,mem_insI k x r]
      constructor
      · rintro (h | h | h)
        · exact Or.inr (Or.inl h)
        · exact Or.inl h
        · exact Or.inr (Or.inr h)
      · rintro (h | h | h)
        · exact Or.inr (Or.inl h)
        · exact Or.inl h
        · exact Or.inr (Or.inr h)
theorem mem_sortI (x:Int):∀ l,x ∈ sortI l ↔ x ∈ l
  | []=>by simp [sortI]
  | k :: r=>by simp only [sortI,mem_insI,mem_sortI x r,List.mem_cons]
theorem insI_lt (k:Int):∀ l:List Int,l.Pairwise (· < ·) → k ∉ l → (insI k l).Pairwise (· < ·)
  | [],_,_=>by simp [insI]
  | j :: r,h,hk=>by
    rw [List.pairwise_cons] at h
    simp only [List.mem_cons,not_or] at hk
    simp only [insI]
    split
    · refine List.pairwise_cons.2 ⟨fun q hq=>?_,List.pairwise_cons.2 h⟩
      cases hq with
      | head=>omega
      | tail _ hq=>have:=h.1 q hq; omega
    · refine List.pairwise_cons.2 ⟨fun q hq=>?_,insI_lt k r h.2 hk.2⟩
      rcases (mem_insI k q r).1 hq with e | e
      · omega
      · exact h.1 q e
theorem sortI_lt:∀ l:List Int,l.Nodup → (sortI l).Pairwise (· < ·)
  | [],_=>.nil
  | k :: r,h=>by
    rw [List.nodup_cons] at h
    exact insI_lt k _ (sortI_lt r h.2) (fun hm=>h.1 ((mem_sortI k r).1 hm))
def in64 (n:Int):Bool:=decide (-9223372036854775808 ≤ n ∧ n ≤ 9223372036854775807)
def sortedKeys (H:Heap):Option AObj → Option (AV × Heap × Bool)
  | some (.map kvs)=>if kvs.length ≤ 1000000 ∧ (kvs.all fun p=>in64 p.1) = true then some (.isl ((sortI (kvs.map (·.1))).map iA),H,false) else none
  | _=>none
def sortArgs (H:Heap):List AV → Option (AV × Heap × Bool)
  | [.fn 72 [.bx o]]=>sortedKeys H H[o]?
  | _=>none
def E1:CallF:=fun g a H=>if g = 56 then sortArgs H a else none
theorem free1:Free E1:=fun g a H h=>if_neg h
theorem keys_kv (m:List (Int × Int)):(kvM m).map (·.1) = m.map (·.1):=by simp [kvM,Function.comp_def]
theorem srt1 (m:List (Int × Int)) (hl:m.length ≤ 1000000) (hk:∀ p ∈ m,in64 p.1 = true):Srt E1 m (sortI (m.map (·.1))):=by
  intro H hH
  have h1:E1 56 [.fn 72 [.bx 0]] H = sortedKeys H H[0]?:=rfl
  rw [h1,hH]
  simp only [sortedKeys]
  rw [if_pos,keys_kv]
  refine ⟨by simpa [kvM] using hl,?_⟩
  rw [List.all_eq_true]
  intro p hp
  obtain ⟨q,hq,rfl⟩:=List.mem_map.1 hp
  exact hk q hq
end Tor
namespace Tor
open Go
theorem setL_len (k y:Int):∀ l:List (Int × Int),(setL k y l).length ≤ l.length + 1
  | []=>by simp [setL]
  | (j,x) :: r=>by
    have:=setL_len k y r
    simp only [setL]; split <;> simp <;> omega
theorem delL_len (k:Int):∀ l:List (Int × Int),(delL k l).length ≤ l.length
  | []=>by simp [delL]
  | (j,x) :: r=>by
    have:=delL_len k r
    simp only [delL]; split <;> simp <;> omega
theorem sadd_len (m:List (Int × Int)) (k c:Int):(sadd m k c).length ≤ m.length + 1:=by
  have h1:=delL_len k m
  have h2:=setL_len k (lookL k m + c) m
  unfold sadd; split <;> omega
theorem sadd_keys {P:Int → Prop} (m:List (Int × Int)) (k c:Int) (hk:P k) (h:∀ p ∈ m,P p.1):∀ p ∈ sadd m k c,P p.1:=by
  unfold sadd
  split
  · exact fun p hp=>h p (mem_delL hp)
  · intro p hp
    rcases mem_setL hp with e | hp
    · subst e; exact hk
    · exact h p hp
theorem sums_keys {P:Int → Prop}:∀ (l m:List (Int × Int)),(∀ p ∈ l,P p.1) → (∀ p ∈ m,P p.1) → (∀ p ∈ sums l m,P p.1) ∧ (sums l m).length ≤ m.length + l.length
  | [],m,_,h=>⟨h,by simp [sums]⟩
  | (j,x) :: r,m,hl,h=>by
    obtain ⟨h1,h2⟩:=sums_keys r (sadd m j x) (fun p hp=>hl p (.tail _ hp)) (sadd_keys m j x (hl _ (.head _)) h)
    have:=sadd_len m j x
    have e:sums ((j,x) :: r) m = sums r (sadd m j x):=rfl
    rw [e,List.length_cons]; exact ⟨h1,by omega⟩
theorem sumsK_keys {P:Int → Prop} (c:Int):∀ (l m:List (Int × Int)),(∀ p ∈ l,P p.1) → (∀ p ∈ m,P p.1) → (∀ p ∈ sumsK c l m,P p.1) ∧ (sumsK c l m).length ≤ m.length + l.length
  | [],m,_,h=>⟨h,by simp [sumsK]⟩
  | (j,x) :: r,m,hl,h=>by
    obtain ⟨h1,h2⟩:=sumsK_keys c r (sadd m j (c * x)) (fun p hp=>hl p (.tail _ hp)) (sadd_keys m j (c * x) (hl _ (.head _)) h)
    have:=sadd_len m j (c * x)
    have e:sumsK c ((j,x) :: r) m = sumsK c r (sadd m j (c * x)):=rfl
    rw [e,List.length_cons]; exact ⟨h1,by omega⟩
end Tor
namespace Tor
open Go
def ksOf (m:List (Int × Int)):List Int:=sortI (m.map (·.1))
theorem ksOf_lt (m:List (Int × Int)) (h:Sums m):(ksOf m).Pairwise (· < ·):=sortI_lt _ h.1
theorem ksOf_mem (m:List (Int × Int)):∀ k,k ∈ ksOf m ↔ k ∈ m.map (·.1):=fun k=>mem_sortI k _
theorem insI_len (k:Int):∀ l:List Int,(insI k l).length = l.length + 1
  | []=>rfl
  | j :: r=>by simp only [insI]; split <;> simp [insI_len k r]
theorem sortI_len:∀ l:List Int,(sortI l).length = l.length
  | []=>rfl
  | k :: r=>by simp [sortI,insI_len,sortI_len r]
theorem add_bd {N:Nat} (c:Int):∀ (l a:List (Int × Int)) (M:Nat),(∀ p ∈ l,(c * p.2).natAbs ≤ N) → Bd M a → Bd (M + N * l.length) (add26 a l c) ∧ (add26 a l c).length ≤ a.length + l.length
  | [],a,M,_,h=>⟨by simpa [add26] using h,by simp [add26]⟩
  | p :: r,a,M,hl,h=>by
    have hp:=hl p (.head _)
    have e:add26 a (p :: r) c = add26 (insert26 a (p.1,c * p.2)) r c:=rfl
    obtain ⟨h1,h2⟩:=add_bd c r (insert26 a (p.1,c * p.2)) (M + N) (fun q hq=>hl q (.tail _ hq)) (insR_bd hp a _ h)
    have:=insR_len (p.1,c * p.2) a (decide (c * p.2 = 0))
    rw [e,List.length_cons]
    refine ⟨?_,?_⟩
    · rw [Nat.mul_succ]; exact bd_mono (by omega) h1
    · have h3:(insert26 a (p.1,c * p.2)).length ≤ a.length + 1:=this
      omega
end Tor
namespace Tor
open Go
structure Ch (N L:Nat) (a:List (Int × Int)):Prop where
  can:Canon none a
  bd:Bd N a
  len:a.length ≤ L
  key:∀ p ∈ a,in64 p.1 = true
theorem ch_sm {N L:Nat} {a:List (Int × Int)} (h:Ch N L a) (hN:N < BIG):∀ p ∈ a,Sm p:=fun p hp=>sm_of hN (h.bd p hp)
end Tor
namespace Tor
open Go
def bndF (c:List Cel) (out:List (Int × Int)) (p:Int × Int):List (Int × Int):=add26 out (cellOf? c p.1).b p.2
def bnd26 (c:List Cel) (x:List (Int × Int)):List (Int × Int):=x.foldl (bndF c) []
structure BndOk (c:List Cel) (x:List (Int × Int)) (N L:Nat):Prop where
  cl:c.length < 2147483648
  xl:x.length < 1073741824
  ll:∀ p ∈ x,(cellOf? c p.1).b.length ≤ L
  lb:L < 1073741824
  sx:∀ p ∈ x,Sm p
  sb:∀ p ∈ x,∀ q ∈ (cellOf? c p.1).b,Sm q
  pr:∀ p ∈ x,∀ q ∈ (cellOf? c p.1).b,(p.2 * q.2).natAbs ≤ N
  big:N * (L + 1) * (x.length + 1) < BIG
  len:L * x.length < 1073741824
theorem bnd_bd {c:List Cel} {x:List (Int × Int)} {N L:Nat} (h:BndOk c x N L):∀ (n i:Nat) (out:List (Int × Int)),x.length = i + n → Bd (N * L * i) out → out.length ≤ L * i →
    Bd (N * L * x.length) ((x.drop i).foldl (bndF c) out) ∧ ((x.drop i).foldl (bndF c) out).length ≤ L * x.length
  | 0,i,out,hi,h1,h2=>by
    have e:i = x.length:=by omega
    subst e
    rw [List.drop_length]; exact ⟨h1,h2⟩
  | n + 1,i,out,hi,h1,h2=>by
    have hlt:i < x.length:=by omega
    rw [List.drop_eq_getElem_cons hlt,List.foldl_cons]
    have hm:x[i] ∈ x:=List.getElem_mem hlt
    obtain ⟨b1,b2⟩:=add_bd x[i].2 (cellOf? c x[i].1).b out (N * L * i) (h.pr _ hm) h1
    have hl:=h.ll _ hm
    refine bnd_bd h n (i + 1) _ (by omega) (bd_mono ?_ b1) ?_
    · have:N * (cellOf? c x[i].1).b.length ≤ N * L:=Nat.mul_le_mul_left _ hl
      rw [Nat.mul_succ]; omega
    · unfold bndF; rw [Nat.mul_succ]; omega
variable {E:CallF} (hE:Free E)
include hE
theorem bnd26_loop (c:List Cel) (x:List (Int × Int)) (N L:Nat) (h:BndOk c x N L):∀ (n i:Nat) (out:List (Int × Int)),x.length = i + n → Bd (N * L * i) out → out.length ≤ L * i →
    run E GP a7l0 { vars:=[.isl (c.map cA),.isl (x.map fA),.isl [],.int .i64 0,.int .i64 0,.isl (out.map fA),.int .i64 i,.bool false,.u,.u],heap:=[],rs:=false } =
      some (.exit 0,{ vars:=[.isl (c.map cA),.isl (x.map fA),.isl [],.int .i64 0,.int .i64 0,.isl (((x.drop i).foldl (bndF c) out).map fA),.int .i64 x.length,.bool false,.bool false,.u],heap:=[],rs:=false }):=by
  have hxl:=h.xl
  intro n
  induction n with
  | zero =>
    intro i out hi h1 h2
    have e:i = x.length:=by omega
    subst e
    have k1:¬ (x.length:Int) < (x.length:Int):=by omega
    rw [List.drop_length,List.foldl_nil,a7l0_run]
    simp (maxSteps:=1000000) only [si,simprocAttr,a7b0,a7R,k1]
  | succ n ih =>
    intro i out hi h1 h2
    have hlt:i < x.length:=by omega
    have k1:(i:Int) < (x.length:Int):=by omega
    have wi:IntKind.i64.wrap ((i:Int) + 1) = ((i + 1:Nat):Int):=i64a (by omega)
    have g1:=fA_get hlt
    have hf:=fun H=>r25_find hE c x[i].1 h.cl H
    have hm:x[i] ∈ x:=List.getElem_mem hlt
    have hl:=h.ll _ hm
    have hlb:=h.lb
    have hbig:=h.big
    have e1:N * L * i + N * ((cellOf? c x[i].1).b.length + 1) ≤ N * (L + 1) * (x.length + 1):=by
      have a1:N * ((cellOf? c x[i].1).b.length + 1) ≤ N * (L + 1):=Nat.mul_le_mul_left _ (by omega)
      have a2:N * L * i ≤ N * (L + 1) * x.length:=Nat.mul_le_mul (Nat.mul_le_mul_left _ (by omega)) (by omega)
      have a3:N * (L + 1) * (x.length + 1) = N * (L + 1) * x.length + N * (L + 1):=Nat.mul_succ _ _
      omega
    have e2:L * i ≤ L * x.length:=Nat.mul_le_mul_left _ (by omega)
    have hlen:=h.len
    have hadd:=fun H=>r26_add hE out (cellOf? c x[i].1).b x[i].2 (N * L * i) N h1 (show Sm x[i] from h.sx _ hm) (h.sb _ hm) (h.pr _ hm) (by omega) (by omega) (by omega) H
    obtain ⟨b1,b2⟩:=add_bd x[i].2 (cellOf? c x[i].1).b out (N * L * i) (h.pr _ hm) h1
    rw [List.drop_eq_getElem_cons hlt,List.foldl_cons,← ih (i + 1) (bndF c out x[i]) (by omega) (bd_mono (by
      have:N * (cellOf? c x[i].1).b.length ≤ N * L:=Nat.mul_le_mul_left _ hl
      rw [Nat.mul_succ]; omega) b1) (by unfold bndF; rw [Nat.mul_succ]; omega)]
    rw [show add26 out (cellOf? c x[i].1).b x[i].2 = bndF c out x[i] from rfl] at hadd
    rw [show (findC c x[i].1).getD zC = cellOf? c x[i].1 from rfl] at hf
    generalize bndF c out x[i] = out' at *
    generalize cellOf? c x[i].1 = f at *
    rw [show cA f = .agg [.int .i64 f.id,.int .i64 f.dim,.isl (f.b.map fA)] from rfl] at hf
    conv=>lhs; rw [a7l0_run]
    simp (maxSteps:=1000000) only [si,simprocAttr,a7b0,a7R,k1,wi,g1,hf,hadd]
theorem r26_boundary (c:List Cel) (x:List (Int × Int)) (N L:Nat) (hc:c.length < 2147483648) (hx:x.length < 1073741824) (h:(dim26 c x).2 = 0 → BndOk c x N L) (H:Heap) :
    call E GP 7 [.isl (c.map cA),.isl (x.map fA)] H = some (.tup [.isl ((if (dim26 c x).2 = 0 then bnd26 c x else []).map fA),.int .i64 (dim26 c x).2],H,false):=by
  rw [call_fun (hE _ _ _ (by decide)) (f:=a7) rfl rfl]
  have hd:=fun H=>r26_dim hE c x hc (by omega) H
  have hr1:=refs_cA c
  have hr2:=refs_fA x
  by_cases h0:(dim26 c x).2 = 0
  · have hl:=bnd26_loop hE c x N L (h h0) x.length 0 [] (by omega) (by intro p hp; cases hp) (Nat.zero_le _)
    rw [List.drop_zero,show x.foldl (bndF c) [] = bnd26 c x from rfl] at hl
    rw [if_pos h0]
    have hr3:=refs_fA (bnd26 c x)
    have hs3:=solids_fA (bnd26 c x)
    simp only [List.map_nil,Int.ofNat_zero] at hl
    rw [h0] at hd ⊢
    simp (maxSteps:=1000000) only [si,simprocAttr,a7,a7R,hr1,hr2,hd,hl,hr3,hs3,ne_eq,not_true_eq_false]
  · rw [if_neg h0]
    have hn:¬ ((dim26 c x).2 = 0):=h0
    simp (maxSteps:=1000000) only [si,simprocAttr,a7,a7R,hr1,hr2,hd,hn,ne_eq,not_false_eq_true]
end Tor
namespace Tor
open Go
def lastF (id:Int) (v:Int) (p:Int × Int):Int:=if p.1 = id then p.2 else v
def lastL (id:Int) (x:List (Int × Int)):Int:=x.foldl (lastF id) 0
def vecV (c:List Cel) (k:Int) (x:List (Int × Int)):List Int:=(cellsC c k).map fun id=>lastL id x
def vec26 (c:List Cel) (k:Int) (x:List (Int × Int)):List Int × Int :=
  if (dim26 c x).2 ≠ 0 then ([],(dim26 c x).2) else if x ≠ [] ∧ (dim26 c x).1 ≠ k then ([],260) else (vecV c k x,0)
variable {E:CallF} (hE:Free E)
include hE
end Tor
namespace Tor
open Go
def chR (ids r:List Int):List (Int × Int):=(ids.zip r).foldl insert26 []
def chain26 (c:List Cel) (k:Int) (r:List Int):List (Int × Int) × Int :=
  if r.length ≠ (cellsC c k).length then ([],50) else (chR (cellsC c k) r,0)
variable {E:CallF} (hE:Free E)
include hE
theorem chain26_loop (C:AV) (hC:C.under 0 = true) (k:Int) (ids r:List Int) (N:Nat) (hl:ids.length = r.length) (hs:r.length < 2147483647) (hb:∀ y ∈ r,y.natAbs ≤ N) (hN:N * (r.length + 1) < BIG):∀ (n i:Nat) (acc:List (Int × Int)),r.length = i + n → Bd (N * i) acc → acc.length ≤ i →
    run E GP a58l0 { vars:=[C,.int .i64 k,.isl (rowA r),.isl [],.int .i64 0,.isl (ids.map iA),.isl (acc.map fA),.int .i64 (i:Nat),.bool false,.u],heap:=[],rs:=false } =
      some (.exit 0,{ vars:=[C,.int .i64 k,.isl (rowA r),.isl [],.int .i64 0,.isl (ids.map iA),.isl ((((ids.zip r).drop i).foldl insert26 acc).map fA),.int .i64 r.length,.bool false,.bool false],heap:=[],rs:=false }):=by
  intro n
  induction n with
  | zero =>
    intro i acc h1 h2 h3
    have hi:i = r.length:=by omega
    subst hi
    have k1:¬ (r.length:Int) < (r.length:Int):=by omega
    have k2:=rowA_len r
    rw [a58l0_run,List.drop_of_length_le (by simp; omega),List.foldl_nil]
    simp (maxSteps:=1000000) only [si,simprocAttr,a58b0,a58R,k2,k1]
  | succ n ih =>
    intro i acc h1 h2 h3
    have hi:i < r.length:=by omega
    have hi2:i < ids.length:=by omega
    have k1:(i:Int) < (r.length:Int):=by omega
    have k2:=rowA_len r
    have g1:=iA_get hi2
    have g2:=rowA_get hi
    have wi:IntKind.i64.wrap ((i:Int) + 1) = ((i + 1:Nat):Int):=i64a (by omega)
    have hd:(ids.zip r).drop i = (ids.getD i 0,r.getD i 0) :: (ids.zip r).drop (i + 1):=by
      rw [List.drop_eq_getElem_cons (by simp; omega)]
      simp [List.getElem_zip,List.getD,hi,hi2]
    have hbi:(r.getD i 0).natAbs ≤ N:=hb _ (by simp [List.getD,hi])
    have hNi:N * i ≤ N * (r.length + 1):=Nat.mul_le_mul_left _ (by omega)
    have hN1:N * 1 ≤ N * (r.length + 1):=Nat.mul_le_mul_left _ (by omega)
    have hins:=fun H=>r26_insert hE acc (ids.getD i 0,r.getD i 0) (sm_of (N:=N) (by omega) hbi) (fun p hp=>sm_of (N:=N * i) (by omega) (h2 p hp)) (by omega) H
    have hacc:Bd (N * (i + 1)) (insert26 acc (ids.getD i 0,r.getD i 0)):=by
      rw [Nat.mul_succ]; exact insR_bd (f:=(ids.getD i 0,r.getD i 0)) hbi acc _ h2
    have hlen:=insR_len (ids.getD i 0,r.getD i 0) acc (decide (r.getD i 0 = 0))
    rw [hd,List.foldl_cons,← ih (i + 1) (insert26 acc (ids.getD i 0,r.getD i 0)) (by omega) hacc (by unfold insert26; simp only; omega)]
    generalize insert26 acc (ids.getD i 0,r.getD i 0) = acc' at *
    rw [show fA (ids.getD i 0,r.getD i 0) = .agg [.int .i64 (ids.getD i 0),Z (r.getD i 0)] from rfl] at hins
    conv=>lhs; rw [a58l0_run]
    simp (maxSteps:=1000000) only [si,simprocAttr,a58b0,a58R,k1,k2,g1,g2,wi,hins,hC]
theorem r26_chain (c:List Cel) (k:Int) (r:List Int) (N:Nat) (hc:c.length < 2147483647) (hs:r.length < 2147483647) (hb:∀ y ∈ r,y.natAbs ≤ N) (hN:N * (r.length + 1) < BIG) (H:Heap) :
    call E GP 58 [.isl (c.map cA),.int .i64 k,.isl (rowA r)] H = some (.tup [.isl ((chain26 c k r).1.map fA),.int .i64 (chain26 c k r).2],H,false):=by
  rw [call_fun (hE _ _ _ (by decide)) (f:=a58) rfl rfl]
  have hcells:=fun H=>r25_cells hE c k (by omega) H
  have hlc:=cellsC_len c k
  have hr1:=refs_cA c
  have hr2:=refs_rowA r
  have k2:=rowA_len r
  unfold chain26
  by_cases h0:r.length = (cellsC c k).length
  · rw [if_neg (by simpa using h0)]
    have hl:=chain26_loop hE (.isl (c.map cA)) (by simp [AV.under,refs_cA]) k (cellsC c k) r N h0.symm hs hb hN r.length 0 [] (by omega) (by intro p hp; cases hp) (Nat.zero_le _)
    rw [List.drop_zero,show ((cellsC c k).zip r).foldl insert26 [] = chR (cellsC c k) r from rfl] at hl
    simp only [List.map_nil,Int.ofNat_zero] at hl
    have hr3:=refs_fA (chR (cellsC c k) r)
    have hs3:=solids_fA (chR (cellsC c k) r)
    generalize cellsC c k = ids at *
    have hz:¬ ((r.length:Int) ≠ (ids.length:Int)):=by omega
    have hz2:(r.length:Int) = (ids.length:Int):=by omega
    simp (maxSteps:=1000000) only [si,simprocAttr,a58,a58R,hr1,hr2,k2,hcells,hl,hr3,hs3,hz2,fz_fAs7,ne_eq,not_true_eq_false]
  · rw [if_pos h0]
    have hz:¬ (r.length:Int) = ((cellsC c k).length:Int):=by omega
    simp (maxSteps:=1000000) only [si,simprocAttr,a58,a58R,hr1,hr2,k2,hcells,hz,ne_eq,not_false_eq_true]
theorem r26_of (c:List Cel) (k:Int) (r:List Int) (N:Nat) (hc:c.length < 2147483647) (hs:r.length < 2147483647) (hb:∀ y ∈ r,y.natAbs ≤ N) (hN:N * (r.length + 1) < BIG) (H:Heap) :
    call E GP 40 [.isl (c.map cA),.int .i64 k,.isl (rowA r)] H = some (.isl ((chain26 c k r).1.map fA),H,false):=by
  rw [call_fun (hE _ _ _ (by decide)) (f:=a40) rfl rfl]
  have hv:=fun H=>r26_chain hE c k r N hc hs hb hN H
  have hr1:=refs_cA c
  have hr2:=refs_rowA r
  have hr3:=refs_fA (chain26 c k r).1
  have hs3:=solids_fA (chain26 c k r).1
  generalize chain26 c k r = o at *
  simp (maxSteps:=1000000) only [si,simprocAttr,a40,a40R,hr1,hr2,hv,hr3,hs3,fz_fAs7]
end Tor
namespace Tor
open Go
def bA (n:Int):AV:=.int .i8 n
variable {E:CallF} (hE:Free E)
include hE
end Tor
