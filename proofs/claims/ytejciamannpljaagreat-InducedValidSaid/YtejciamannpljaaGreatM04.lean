/-
  A part of the proof: an abstract machine for the program, its soundness, and what the functions compute (Int5, Int6, Div1, Div2, Div3, Div4, Mat1, Mat2, Mat3, Mat4).
  Conditions: none.
-/
import Derived.Test.YtejciamannpljaaGreatM03
set_option linter.unusedSectionVars false
set_option linter.unusedVariables false
set_option linter.unusedSimpArgs false
set_option linter.defProp false
namespace Tor
open Go
def xst (za zb:AV) (out:List Nat) (i k c:Nat):St :=
  { vars:=[za,zb,.sl 0 0 1 0 out.length,.int .i64 i,.int .u64 c,.int .i64 k,.bool true,.u,.u,za,zb,.agg [.bool false,.isl []]],heap:=[.arr 0 1 (out.map limbA)],rs:=false }
variable {E:CallF}
theorem set_limb (out:List Nat) (j d:Nat):(out.map limbA).set j (limbA d) = (out.set j d).map limbA:=by rw [List.map_set]
theorem mul_round (sa sb:Bool) (a b:List Nat) (ha:∀ d ∈ a,d < B32) (hb:∀ d ∈ b,d < B32) (out:List Nat) (ho:∀ d ∈ out,d < B32) (la:a.length < 1073741824) (lb:b.length < 1073741824) (i k c:Nat) (hi:i < a.length) (hik:i + k < out.length) (hol:out.length < 2147483648)
    (hc:c < B32) (h:k < b.length ∨ 0 < c) :
    run E GP a41l1 (xst (.agg [.bool sa,.isl (a.map limbA)]) (.agg [.bool sb,.isl (b.map limbA)]) out i k c) =
      run E GP a41l1 (xst (.agg [.bool sa,.isl (a.map limbA)]) (.agg [.bool sb,.isl (b.map limbA)]) (out.set (i + k) ((c + out.getD (i + k) 0 + dig a i * dig b k) % B32)) i (k + 1) ((c + out.getD (i + k) 0 + dig a i * dig b k) / B32)):=by
  have da:=dig_lt ha i
  have db:=dig_lt hb k
  have dd:=dig_lt ho (i + k)
  have ed:dig out (i + k) = out.getD (i + k) 0:=by unfold dig; rw [if_pos hik]
  rw [ed] at dd
  have hmul:dig a i * dig b k ≤ 4294967295 * 4294967295:=Nat.mul_le_mul (by simp only [B32] at da; omega) (by simp only [B32] at db; omega)
  simp only [B32] at da db dd hc
  have wk:IntKind.i64.wrap ((k:Int) + 1) = ((k + 1:Nat):Int):=i64a (by omega)
  have wik:IntKind.i64.wrap ((i:Int) + (k:Int)) = ((i + k:Nat):Int):=by rw [i64w (by omega)]; omega
  have g1:=limb_get hi
  have e1:dig a i = a.getD i 0:=by unfold dig; rw [if_pos hi]
  rw [← e1] at g1
  have g3:=limb_get hik
  have wo:=u64n (n:=out.getD (i + k) 0) (by omega)
  have w1:=u64a (x:=c) (y:=out.getD (i + k) 0) (by omega)
  have hlen:((i + k:Nat):Int) < ((out.length:Nat):Int):=by omega
  have wq:=u64q (n:=c + out.getD (i + k) 0 + dig a i * dig b k) (by omega)
  have wr:=u32n (c + out.getD (i + k) 0 + dig a i * dig b k)
  conv=>lhs; rw [a41l1_run]
  by_cases h2:k < b.length
  · have g2:=limb_get h2
    have e2:dig b k = b.getD k 0:=by unfold dig; rw [if_pos h2]
    rw [← e2] at g2
    have k2:(k:Int) < (b.length:Int):=by omega
    have wa:=u64n (n:=dig a i) (by omega)
    have wb:=u64n (n:=dig b k) (by omega)
    have wm:IntKind.u64.wrap ((dig a i:Int) * (dig b k:Int)) = ((dig a i * dig b k:Nat):Int):=by
      rw [← Int.natCast_mul]; exact u64n (by omega)
    have ws:=u64a (x:=c + out.getD (i + k) 0) (y:=dig a i * dig b k) (by omega)
    simp (maxSteps:=1000000) only [si,simprocAttr,xst,a41b1,a41R,k2,wk,wik,g1,g2,g3,limbA,wo,w1,hlen,wa,wb,wm,ws,wq,wr,List.map_set,List.length_set]
  · have e2:dig b k = 0:=by unfold dig; rw [if_neg h2]
    have k2:¬ (k:Int) < (b.length:Int):=by omega
    have k3:(c:Int) > 0:=by omega
    rw [e2,Nat.mul_zero,Nat.add_zero] at wq wr
    rw [e2,Nat.mul_zero,Nat.add_zero]
    simp (maxSteps:=1000000) only [si,simprocAttr,xst,a41b1,a41R,k2,k3,wk,wik,g3,limbA,wo,w1,hlen,wq,wr,List.map_set,List.length_set]
def xend (za zb:AV) (out:List Nat) (i k:Nat):St :=
  { vars:=[za,zb,.sl 0 0 1 0 out.length,.int .i64 i,.int .u64 0,.int .i64 k,.bool true,.bool false,.u,za,zb,.agg [.bool false,.isl []]],heap:=[.arr 0 1 (out.map limbA)],rs:=false }
theorem mul_exit (sa sb:Bool) (a b out:List Nat) (i k:Nat) (h:¬ k < b.length) :
    run E GP a41l1 (xst (.agg [.bool sa,.isl (a.map limbA)]) (.agg [.bool sb,.isl (b.map limbA)]) out i k 0) = some (.exit 2,xend (.agg [.bool sa,.isl (a.map limbA)]) (.agg [.bool sb,.isl (b.map limbA)]) out i k):=by
  have k2:¬ (k:Int) < (b.length:Int):=by omega
  rw [a41l1_run]
  simp (maxSteps:=1000000) only [si,simprocAttr,xst,xend,a41b1,a41R,k2,Int.ofNat_zero]
theorem val_set:∀ (l:List Nat) (j x:Nat),j < l.length → val (l.set j x) + B32 ^ j * l.getD j 0 = val l + B32 ^ j * x
  | [],j,x,h=>by simp at h
  | d :: r,0,x,h=>by simp only [List.set_cons_zero,val,Nat.pow_zero,Nat.one_mul,List.getD_cons_zero]; omega
  | d :: r,j + 1,x,h=>by
    have ih:=val_set r j x (by simpa using h)
    simp only [List.set_cons_succ,val,List.getD_cons_succ,Nat.pow_succ]
    have e1:B32 ^ j * B32 * r.getD j 0 = B32 * (B32 ^ j * r.getD j 0):=by rw [Nat.mul_comm (B32 ^ j),Nat.mul_assoc]
    have e2:B32 ^ j * B32 * x = B32 * (B32 ^ j * x):=by rw [Nat.mul_comm (B32 ^ j),Nat.mul_assoc]
    rw [e1,e2]
    have:B32 * (val (r.set j x) + B32 ^ j * r.getD j 0) = B32 * (val r + B32 ^ j * x):=by rw [ih]
    rw [Nat.mul_add,Nat.mul_add] at this
    omega
theorem mul_row (sa sb:Bool) (a b:List Nat) (ha:∀ d ∈ a,d < B32) (hb:∀ d ∈ b,d < B32) (la:a.length < 1073741824) (lb:b.length < 1073741824) (i:Nat) (hi:i < a.length) (out0:List Nat)
    (h0:val out0 = val (a.take i) * val b):∀ (n k c:Nat) (out:List Nat),b.length + 1 ≤ k + n → k ≤ b.length + 1 → out.length = a.length + b.length + 1 → (∀ d ∈ out,d < B32) → c < B32 → (k = b.length + 1 → c = 0) →
    val out + B32 ^ (i + k) * c = val out0 + B32 ^ i * (dig a i * val (b.take k)) →
    ∃ out' k',run E GP a41l1 (xst (.agg [.bool sa,.isl (a.map limbA)]) (.agg [.bool sb,.isl (b.map limbA)]) out i k c) = some (.exit 2,xend (.agg [.bool sa,.isl (a.map limbA)]) (.agg [.bool sb,.isl (b.map limbA)]) out' i k') ∧
      out'.length = a.length + b.length + 1 ∧ (∀ d ∈ out',d < B32) ∧ val out' = val (a.take (i + 1)) * val b:=by
  have hfin:val out0 + B32 ^ i * (dig a i * val b) = val (a.take (i + 1)) * val b:=by
    rw [take_dig,h0,Nat.add_mul,Nat.mul_assoc]
  intro n
  induction n with
  | zero =>
    intro k c out h1 h2 h3 h4 h5 h6 h7
    have hk:k = b.length + 1:=by omega
    have hc:=h6 hk
    subst hc
    rw [List.take_of_length_le (by omega),Nat.mul_zero,Nat.add_zero] at h7
    exact ⟨out,k,mul_exit sa sb a b out i k (by omega),h3,h4,h7.trans hfin⟩
  | succ n ih =>
    intro k c out h1 h2 h3 h4 h5 h6 h7
    by_cases hgo:k < b.length ∨ 0 < c
    · have hk:k ≤ b.length:=by
        by_cases hk:k = b.length + 1
        · have:=h6 hk; omega
        · omega
      have hik:i + k < out.length:=by omega
      have da:=dig_lt ha i
      have db:=dig_lt hb k
      have dd:=dig_lt h4 (i + k)
      have ed:dig out (i + k) = out.getD (i + k) 0:=by unfold dig; rw [if_pos hik]
      rw [ed] at dd
      have hmul:dig a i * dig b k ≤ 4294967295 * 4294967295:=Nat.mul_le_mul (by simp only [B32] at da; omega) (by simp only [B32] at db; omega)
      rw [mul_round sa sb a b ha hb out h4 la lb i k c hi hik (by omega) h5 hgo]
      have hs:=val_set out (i + k) ((c + out.getD (i + k) 0 + dig a i * dig b k) % B32) hik
      have hdm:=Nat.div_add_mod (c + out.getD (i + k) 0 + dig a i * dig b k) B32
      have hq:(c + out.getD (i + k) 0 + dig a i * dig b k) / B32 < B32:=by simp only [B32] at *; omega
      have hm:(c + out.getD (i + k) 0 + dig a i * dig b k) % B32 < B32:=Nat.mod_lt _ (by decide)
      generalize (c + out.getD (i + k) 0 + dig a i * dig b k) / B32 = q at *
      generalize (c + out.getD (i + k) 0 + dig a i * dig b k) % B32 = m at *
      have hnew:val (out.set (i + k) m) + B32 ^ (i + (k + 1)) * q = val out0 + B32 ^ i * (dig a i * val (b.take (k + 1))):=by
        rw [take_dig,Nat.mul_add,Nat.mul_add,← Nat.add_assoc (val out0),← h7]
        have e1:B32 ^ i * (dig a i * (B32 ^ k * dig b k)) = B32 ^ (i + k) * (dig a i * dig b k):=by
          rw [Nat.pow_add,Nat.mul_left_comm (dig a i),Nat.mul_assoc]
        have e2:B32 ^ (i + (k + 1)) * q + B32 ^ (i + k) * m = B32 ^ (i + k) * c + B32 ^ (i + k) * out.getD (i + k) 0 + B32 ^ (i + k) * (dig a i * dig b k):=by
          rw [← Nat.add_assoc,Nat.pow_succ,Nat.mul_assoc,← Nat.mul_add,hdm,Nat.mul_add,Nat.mul_add]
        rw [e1]
        omega
      refine ih (k + 1) q (out.set (i + k) m) (by omega) (by omega) (by simp [h3]) (fun d hd=>?_) hq (fun e=>?_) hnew
      · rcases List.mem_or_eq_of_mem_set hd with hd | rfl
        · exact h4 d hd
        · exact hm
      · have hkb:k = b.length:=by omega
        subst hkb
        rw [List.take_of_length_le (by omega)] at hnew
        have hb1:=take_val_lt a ha (i + 1)
        have hb2:=take_val_lt b hb b.length
        rw [List.take_length] at hb2
        have hlt:val (a.take (i + 1)) * val b < B32 ^ (i + 1) * B32 ^ b.length:=by
          rcases Nat.eq_zero_or_pos (val b) with h0 | h0
          · rw [h0,Nat.mul_zero]; exact Nat.mul_pos (Nat.pow_pos (by decide)) (Nat.pow_pos (by decide))
          · calc val (a.take (i + 1)) * val b < B32 ^ (i + 1) * val b:=Nat.mul_lt_mul_of_pos_right hb1 h0
              _ ≤ B32 ^ (i + 1) * B32 ^ b.length:=Nat.mul_le_mul_left _ (by omega)
        rw [hfin] at hnew
        rw [← Nat.pow_add,show i + 1 + b.length = i + (b.length + 1) by omega] at hlt
        rcases Nat.eq_zero_or_pos q with h | h
        · exact h
        · have:B32 ^ (i + (b.length + 1)) * 1 ≤ B32 ^ (i + (b.length + 1)) * q:=Nat.mul_le_mul_left _ h
          omega
    · have hc:c = 0:=by omega
      subst hc
      rw [List.take_of_length_le (by omega),Nat.mul_zero,Nat.add_zero] at h7
      exact ⟨out,k,mul_exit sa sb a b out i k (by omega),h3,h4,h7.trans hfin⟩
def yst (za zb:AV) (out:List Nat) (i:Nat):St :=
  { vars:=[za,zb,.sl 0 0 1 0 out.length,.int .i64 i,.u,.u,.u,.u,.u,za,zb,.agg [.bool false,.isl []]],heap:=[.arr 0 1 (out.map limbA)],rs:=false }
theorem mul_rows (sa sb:Bool) (a b:List Nat) (ha:∀ d ∈ a,d < B32) (hb:∀ d ∈ b,d < B32) (la:a.length < 1073741824) (lb:b.length < 1073741824):∀ (n i:Nat) (out:List Nat),a.length = i + n → out.length = a.length + b.length + 1 → (∀ d ∈ out,d < B32) →
    val out = val (a.take i) * val b →
    ∃ out',run E GP a41l0 (yst (.agg [.bool sa,.isl (a.map limbA)]) (.agg [.bool sb,.isl (b.map limbA)]) out i) = some (.exit 0,{ vars:=[.agg [.bool sa,.isl (a.map limbA)],.agg [.bool sb,.isl (b.map limbA)],.sl 0 0 1 0 out'.length,.int .i64 a.length,.u,.u,.bool false,.u,.u,.agg [.bool sa,.isl (a.map limbA)],.agg [.bool sb,.isl (b.map limbA)],.agg [.bool false,.isl []]],heap:=[.arr 0 1 (out'.map limbA)],rs:=false }) ∧
      out'.length = a.length + b.length + 1 ∧ (∀ d ∈ out',d < B32) ∧ val out' = val a * val b:=by
  intro n
  induction n with
  | zero =>
    intro i out h1 h2 h3 h4
    have hi:i = a.length:=by omega
    subst hi
    rw [List.take_length] at h4
    refine ⟨out,?_,h2,h3,h4⟩
    have k1:¬ (a.length:Int) < (a.length:Int):=by omega
    rw [a41l0_run]
    simp (maxSteps:=1000000) only [si,simprocAttr,yst,a41b0,a41R,k1]
  | succ n ih =>
    intro i out h1 h2 h3 h4
    obtain ⟨out1,k1,e1,e2,e3,e4⟩:=mul_row (E:=E) sa sb a b ha hb la lb i (by omega) out h4 (b.length + 1) 0 0 out (by omega) (by omega) h2 h3 (by decide) (by omega) (by simp [val])
    obtain ⟨out',f1,f2,f3,f4⟩:=ih (i + 1) out1 (by omega) e2 e3 e4
    refine ⟨out',?_,f2,f3,f4⟩
    rw [← f1]
    have hlt:(i:Int) < (a.length:Int):=by omega
    have wi:IntKind.i64.wrap ((i:Int) + 1) = ((i + 1:Nat):Int):=i64a (by omega)
    conv=>lhs; rw [a41l0_run]
    simp only [xst,xend,Int.ofNat_zero] at e1
    simp (maxSteps:=1000000) only [si,simprocAttr,yst,a41b0,a41R,hlt,e1,wi]
end Tor
namespace Tor
open Go
variable {E:CallF} (hE:Free E)
include hE
theorem r1_made_sl (l:List Nat) (neg:Bool) (H:Heap) (o g sz st n:Nat) (he:elems H (.sl o g sz st n) = some (l.map limbA)) (hl:∀ d ∈ l,d < B32) (hlen:l.length < 2147483648):call E GP 38 [.sl o g sz st n,.bool neg] H = some (Z (ofL neg l),H.set o .dead,false):=by
  rw [call_fun (hE _ _ _ (by decide)) (f:=a38) rfl rfl]
  have hloop:=made_loop (E:=E) l (.bool neg) (.agg [.bool false,.isl []]) (by simp [AV.under,AV.unders]) (by simp [AV.under]) l.length (Nat.le_refl _) hlen
  have hs:=stripN_le l l.length
  rw [Z_ofL neg l hl]
  have hs2:((stripN l l.length:Nat):Int) ≤ (l.length:Int):=by omega
  have hs3:decide (((stripN l l.length:Nat):Int) > 0) = decide (0 < stripN l l.length):=by simp
  have hm:(l.take (stripN l l.length)).length ≤ 4294967296:=by simp; omega
  have hmode:a38.mode = .con:=rfl
  cases neg <;>
  simp (maxSteps:=1000000) only [he,hmode,si,simprocAttr,a38,a38R,hloop,hs2,hs3,maxLenA,List.drop_zero,← List.map_take,hm]
omit hE in
theorem val_zeros:∀ k,val (List.replicate k 0) = 0
  | 0=>rfl
  | k + 1=>by rw [List.replicate_succ,val,val_zeros k]; rfl
omit hE in
theorem ofL_mul (m n:Int) (out:List Nat) (h:val out = m.natAbs * n.natAbs):ofL (decide (m < 0) != decide (n < 0)) out = m * n:=by
  unfold ofL; rw [h]
  have hm:(m.natAbs:Int) = if m < 0 then -m else m:=by split <;> omega
  have hn:(n.natAbs:Int) = if n < 0 then -n else n:=by split <;> omega
  rw [Int.natCast_mul,hm,hn]
  by_cases hm0:m < 0 <;> by_cases hn0:n < 0 <;> simp only [hm0,hn0,if_true,if_false,decide_true,decide_false] <;> simp [Int.neg_mul,Int.mul_neg]
theorem r1_mul (m n:Int) (H:Heap) (hm:(limbs m.natAbs).length < 1073741824) (hn:(limbs n.natAbs).length < 1073741824) (hsum:(limbs m.natAbs).length + (limbs n.natAbs).length < 2147483646):call E GP 41 [Z m,Z n] H = some (Z (m * n),H,false):=by
  rw [call_fun (hE _ _ _ (by decide)) (f:=a41) rfl rfl]
  have Lm:=limbs_lt m.natAbs
  have Ln:=limbs_lt n.natAbs
  have Vm:=val_limbs m.natAbs
  have Vn:=val_limbs n.natAbs
  obtain ⟨out,f1,f2,f3,f4⟩:=mul_rows (E:=E) (decide (m < 0)) (decide (n < 0)) _ _ Lm Ln hm hn (limbs m.natAbs).length 0 (List.replicate ((limbs m.natAbs).length + (limbs n.natAbs).length + 1) 0) (by omega) (by simp) (fun d hd=>by rw [List.eq_of_mem_replicate hd]; decide) (by rw [val_zeros]; simp [val])
  have hmade:=r1_made_sl hE out (decide (m < 0) != decide (n < 0)) [.arr 0 1 (out.map limbA)] 0 0 1 0 out.length (by simp [sil,sim,List.take_of_length_le]) f3 (by omega)
  rw [ofL_mul m n out (by rw [f4,Vm,Vn])] at hmade
  have w1:IntKind.i64.wrap (((limbs m.natAbs).length:Int) + ((limbs n.natAbs).length:Int)) = (((limbs m.natAbs).length + (limbs n.natAbs).length:Nat):Int):=by rw [i64w (by omega)]; omega
  have w2:IntKind.i64.wrap ((((limbs m.natAbs).length + (limbs n.natAbs).length:Nat):Int) + 1) = (((limbs m.natAbs).length + (limbs n.natAbs).length + 1:Nat):Int):=i64a (by omega)
  have w3:(((limbs m.natAbs).length + (limbs n.natAbs).length + 1:Nat):Int) ≤ maxLenA:=by unfold maxLenA; omega
  have w4:((((limbs m.natAbs).length + (limbs n.natAbs).length + 1:Nat):Int)).toNat = (limbs m.natAbs).length + (limbs n.natAbs).length + 1:=by omega
  have w5:(0:Int) ≤ (((limbs m.natAbs).length + (limbs n.natAbs).length + 1:Nat):Int):=by omega
  rw [show Z m = .agg [.bool (decide (m < 0)),.isl ((limbs m.natAbs).map limbA)] from rfl,show Z n = .agg [.bool (decide (n < 0)),.isl ((limbs n.natAbs).map limbA)] from rfl]
  simp only [yst,List.length_replicate,Int.ofNat_zero,List.map_replicate,limbA] at f1
  generalize (limbs m.natAbs).length + (limbs n.natAbs).length + 1 = K at *
  simp (maxSteps:=1000000) only [si,simprocAttr,a41,a41R,w1,w2,w3,w4,w5]
  simp (maxSteps:=1000000) only [si,simprocAttr,f1,hmade,a41R]
end Tor
namespace Tor
open Go
theorem u32w {n:Nat} (h:n < 4294967296):IntKind.u32.wrap (n:Int) = (n:Int):=by rw [IntKind.wrap_u32]; omega
theorem u64m {x y:Nat} (h:x * y < 18446744073709551616):IntKind.u64.wrap ((x:Int) * (y:Int)) = ((x * y:Nat):Int):=by
  rw [← Int.natCast_mul]; exact u64n h
theorem u64d {x y:Nat} (h:x < 18446744073709551616):IntKind.u64.wrap ((x:Int).tdiv (y:Int)) = ((x / y:Nat):Int):=by
  rw [show (x:Int).tdiv (y:Int) = ((x / y:Nat):Int) from rfl]
  exact u64n (Nat.lt_of_le_of_lt (Nat.div_le_self _ _) h)
theorem tmodn (x y:Nat):(x:Int).tmod (y:Int) = ((x % y:Nat):Int):=rfl
variable {E:CallF} (hE:Free E)
include hE
theorem r1_neg (m:Int) (H:Heap) (hm:(limbs m.natAbs).length < 2147483647):call E GP 88 [Z m] H = some (Z (-m),H,false):=by
  rw [call_fun (hE _ _ _ (by decide)) (f:=a88) rfl rfl]
  have hmade:=fun H=>r1_made hE (limbs m.natAbs) (!decide (m < 0)) H (limbs_lt _) (by omega)
  have he:ofL (!decide (m < 0)) (limbs m.natAbs) = -m:=by
    unfold ofL; rw [val_limbs]
    by_cases h:m < 0 <;> simp only [h,decide_true,decide_false,Bool.not_true,Bool.not_false,if_true,if_false,Bool.false_eq_true] <;> omega
  rw [he] at hmade
  rw [show Z m = .agg [.bool (decide (m < 0)),.isl ((limbs m.natAbs).map limbA)] from rfl]
  simp (maxSteps:=1000000) only [si,simprocAttr,a88,a88R,hmade]
theorem r1_sub (m n:Int) (H:Heap) (hm:(limbs m.natAbs).length < 2147483647) (hn:(limbs n.natAbs).length < 2147483647):call E GP 111 [Z m,Z n] H = some (Z (m - n),H,false):=by
  rw [call_fun (hE _ _ _ (by decide)) (f:=a111) rfl rfl]
  have h1:=fun H=>r1_neg hE n H hn
  have h2:=fun H=>r1_add hE m (-n) H hm (by rw [Int.natAbs_neg]; exact hn)
  rw [← Int.sub_eq_add_neg] at h2
  simp (maxSteps:=1000000) only [si,simprocAttr,a111,a111R,h1,h2]
def sst (a out:List Nat) (d:Nat) (rest:Nat) (i:Int) (c:AV):St :=
  { vars:=[.isl (a.map limbA),.int .u32 d,.isl [],.int .u32 0,.sl 0 0 1 0 a.length,.int .u64 rest,.int .i64 i,c],heap:=[.arr 0 1 (out.map limbA)],rs:=false }
omit hE in
theorem drop_val (l:List Nat) (n:Nat) (h:n < l.length):val (l.drop n) = l.getD n 0 + B32 * val (l.drop (n + 1)):=by
  rw [List.drop_eq_getElem_cons h,val]; simp [List.getD,h]
omit hE in
theorem set_drop (l:List Nat) (n x:Nat) (h:n < l.length):(l.set n x).drop n = x :: l.drop (n + 1):=by
  rw [List.drop_eq_getElem_cons (by simpa using h)]
  simp [List.drop_set]
theorem short_loop (a:List Nat) (ha:∀ d ∈ a,d < B32) (la:a.length < 2147483648) (d:Nat) (hd0:0 < d) (hd:d < B32):∀ (n:Nat) (out:List Nat) (rest:Nat),n ≤ a.length → out.length = a.length → (∀ x ∈ out,x < B32) → rest < d →
    val (a.drop n) = val (out.drop n) * d + rest →
    ∃ out' rest',run E GP a118l0 (sst a out d rest ((n:Int) - 1) .u) = some (.exit 0,sst a out' d rest' (-1) (.bool false)) ∧ out'.length = a.length ∧ (∀ x ∈ out',x < B32) ∧ rest' < d ∧ val a = val out' * d + rest':=by
  intro n
  induction n with
  | zero =>
    intro out rest h1 h2 h3 h4 h5
    refine ⟨out,rest,?_,h2,h3,h4,by simpa using h5⟩
    rw [a118l0_run]
    have e:((0:Nat):Int) - 1 = -1:=rfl
    rw [e]
    simp (maxSteps:=1000000) only [si,simprocAttr,sst,a118b0,a118R]
  | succ n ih =>
    intro out rest h1 h2 h3 h4 h5
    have hn:n < a.length:=by omega
    have e0:((n + 1:Nat):Int) - 1 = (n:Int):=by omega
    have wn:IntKind.i64.wrap ((n:Int) - 1) = (n:Int) - 1:=i64w (by omega)
    have k0:(n:Int) ≥ 0:=by omega
    have k1:(n:Int) < (a.length:Int):=by omega
    have g1:=limb_get hn
    have da:=ha (a.getD n 0) (by simp [List.getD,hn])
    have hr:rest * 4294967296 + a.getD n 0 < 18446744073709551616:=by simp only [B32] at da hd; omega
    have w1:IntKind.u64.wrap ((rest:Int) * 4294967296) = ((rest * 4294967296:Nat):Int):=by rw [IntKind.wrap_u64]; omega
    have w2:=u64n (n:=a.getD n 0) (by omega)
    have w3:=u64a (x:=rest * 4294967296) (y:=a.getD n 0) (by omega)
    have w4:=u64n (n:=d) (by simp only [B32] at hd; omega)
    have w5:=u64d (x:=rest * 4294967296 + a.getD n 0) (y:=d) (by omega)
    have hq:(rest * 4294967296 + a.getD n 0) / d < B32:=by
      rw [Nat.div_lt_iff_lt_mul hd0]
      have:rest * 4294967296 + 4294967296 ≤ d * 4294967296:=by omega
      simp only [B32] at da ⊢; omega
    have w6:=u32w (n:=(rest * 4294967296 + a.getD n 0) / d) (by simpa only [B32] using hq)
    have hd0':((d:Nat):Int) ≠ 0:=by omega
    have tm:=tmodn (rest * 4294967296 + a.getD n 0) d
    have hm:(rest * 4294967296 + a.getD n 0) % d < d:=Nat.mod_lt _ hd0
    have hdm:=Nat.div_add_mod (rest * 4294967296 + a.getD n 0) d
    generalize hQ:(rest * 4294967296 + a.getD n 0) / d = Q at *
    generalize hR:(rest * 4294967296 + a.getD n 0) % d = R at *
    have hlo:n < out.length:=by omega
    have hnew:val (a.drop n) = val ((out.set n Q).drop n) * d + R:=by
      rw [drop_val a n hn,h5,set_drop out n Q hlo,val]
      simp only [B32]
      have:(Q + 4294967296 * val (out.drop (n + 1))) * d = d * Q + 4294967296 * (val (out.drop (n + 1)) * d):=by rw [Nat.add_mul,Nat.mul_comm Q,Nat.mul_assoc]
      rw [this]; omega
    obtain ⟨out',rest',e1,e2,e3,e4,e5⟩:=ih (out.set n Q) R (by omega) (by simp [h2]) (fun x hx=>by
      rcases List.mem_or_eq_of_mem_set hx with hx | rfl
      · exact h3 x hx
      · exact hq) hm hnew
    refine ⟨out',rest',?_,e2,e3,e4,e5⟩
    rw [e0,← e1]
    conv=>lhs; rw [a118l0_run]
    have g2:=limb_get hlo
    have hlt2:(n:Int) < ((a.length:Nat):Int):=by omega
    have hmap:(out.set n Q).map limbA = (out.map limbA).set n (.int .u32 Q):=by rw [List.map_set]; rfl
    simp (maxSteps:=1000000) only [si,simprocAttr,sst,a118b0,a118R,wn,k0,k1,g1,g2,limbA,w1,w2,w3,w4,w5,w6,hd0',tm,hmap]
theorem r1_short (a:List Nat) (ha:∀ d ∈ a,d < B32) (la:a.length < 2147483648) (d:Nat) (hd0:0 < d) (hd:d < B32):∃ q r,val a = val q * d + r ∧ r < d ∧ (∀ x ∈ q,x < B32) ∧ q.length = a.length ∧
    ∀ H,call E GP 118 [.isl (a.map limbA),.int .u32 d] H = some (.tup [.isl (q.map limbA),.int .u32 r],H,false):=by
  obtain ⟨q,r,e1,e2,e3,e4,e5⟩:=short_loop hE a ha la d hd0 hd a.length (List.replicate a.length 0) 0 (Nat.le_refl _) (by simp) (fun x hx=>by rw [List.eq_of_mem_replicate hx]; decide) hd0 (by simp [val])
  refine ⟨q,r,e5,e4,e3,e2,fun H=>?_⟩
  rw [call_fun (hE _ _ _ (by decide)) (f:=a118) rfl rfl]
  have wl:IntKind.i64.wrap ((a.length:Int) - 1) = (a.length:Int) - 1:=i64w (by omega)
  have wr:=u32w (n:=r) (by simp only [B32] at hd; omega)
  have w3:(a.length:Int) ≤ maxLenA:=by unfold maxLenA; omega
  have w5:(0:Int) ≤ (a.length:Int):=by omega
  have htk:List.take a.length (q.map limbA) = q.map limbA:=List.take_of_length_le (by simp [e2])
  have hle:a.length ≤ q.length:=by omega
  have hrf:=refs_limbs q
  simp only [sst,List.map_replicate,limbA,Int.ofNat_zero] at e1
  simp (maxSteps:=1000000) only [si,simprocAttr,a118,a118R,wl,w3,w5,e1,wr,htk,hle,hrf]
end Tor
namespace Tor
open Go
theorem val_top (l:List Nat) (h:0 < l.length):val l = val (l.take (l.length - 1)) + B32 ^ (l.length - 1) * l.getD (l.length - 1) 0:=by
  have:=take_succ_val l (l.length - 1) (by omega)
  rw [show l.length - 1 + 1 = l.length by omega,List.take_length] at this
  exact this
theorem val_lt_top (l:List Nat) (hl:∀ d ∈ l,d < B32) (h:0 < l.length):val l < B32 ^ (l.length - 1) * (l.getD (l.length - 1) 0 + 1):=by
  rw [val_top l h,Nat.mul_add,Nat.mul_one]
  have:=take_val_lt l hl (l.length - 1)
  omega
theorem top_le_val (l:List Nat) (h:0 < l.length):B32 ^ (l.length - 1) * l.getD (l.length - 1) 0 ≤ val l:=by
  rw [val_top l h]; omega
def estN (r d:List Nat):Nat :=
  if r.length = d.length then max 1 (r.getD (r.length - 1) 0 / (d.getD (d.length - 1) 0 + 1))
  else B32 ^ (r.length - d.length - 1) * ((r.getD (r.length - 1) 0 * 4294967296 + r.getD (r.length - 2) 0) / (d.getD (d.length - 1) 0 + 1))
theorem est_ok (r d:List Nat) (hr:∀ x ∈ r,x < B32) (hd:∀ x ∈ d,x < B32) (hdl:0 < d.length) (hlen:d.length ≤ r.length) (htop:0 < r.getD (r.length - 1) 0) (hle:val d ≤ val r):1 ≤ estN r d ∧ estN r d * val d ≤ val r:=by
  have hd1:=val_lt_top d hd hdl
  have hr1:=top_le_val r (by omega)
  have hB:0 < B32:=by decide
  have dtop:d.getD (d.length - 1) 0 < B32:=hd _ (by simp [List.getD,show d.length - 1 < d.length by omega])
  unfold estN
  split
  · rename_i he
    rw [he] at hr1 ⊢
    generalize r.getD (d.length - 1) 0 = x at *
    generalize d.getD (d.length - 1) 0 = y at *
    generalize B32 ^ (d.length - 1) = P at *
    refine ⟨Nat.le_max_left _ _,?_⟩
    rcases Nat.le_total 1 (x / (y + 1)) with h | h
    · rw [Nat.max_eq_right h]
      calc x / (y + 1) * val d ≤ x / (y + 1) * (P * (y + 1)):=Nat.mul_le_mul_left _ (by omega)
        _ = P * (x / (y + 1) * (y + 1)):=by rw [Nat.mul_left_comm]
        _ ≤ P * x:=Nat.mul_le_mul_left _ (Nat.div_mul_le_self _ _)
        _ ≤ val r:=hr1
    · rw [Nat.max_eq_left h]; omega
  · rename_i he
    have hgt:d.length < r.length:=by omega
    have hr2:B32 ^ (r.length - 2) * (r.getD (r.length - 1) 0 * 4294967296 + r.getD (r.length - 2) 0) ≤ val r:=by
      rw [val_top r (by omega)]
      have h2:=take_succ_val r (r.length - 2) (by omega)
      rw [show r.length - 2 + 1 = r.length - 1 by omega] at h2
      rw [h2,Nat.mul_add,show r.length - 1 = r.length - 2 + 1 by omega,Nat.pow_succ]
      rw [show r.length - 2 + 1 = r.length - 1 by omega]
      have:B32 ^ (r.length - 2) * (r.getD (r.length - 1) 0 * 4294967296) = B32 ^ (r.length - 2) * B32 * r.getD (r.length - 1) 0:=by
        rw [Nat.mul_assoc]; congr 1; rw [Nat.mul_comm]; rfl
      rw [this]; omega
    have hX:4294967296 ≤ r.getD (r.length - 1) 0 * 4294967296 + r.getD (r.length - 2) 0:=by omega
    generalize r.getD (r.length - 1) 0 * 4294967296 + r.getD (r.length - 2) 0 = X at *
    simp only [B32] at dtop
    have he1:1 ≤ X / (d.getD (d.length - 1) 0 + 1):=by
      rw [Nat.le_div_iff_mul_le (by omega)]; omega
    generalize d.getD (d.length - 1) 0 = y at *
    have hp:1 ≤ B32 ^ (r.length - d.length - 1):=Nat.pow_pos hB
    refine ⟨Nat.mul_le_mul hp he1,?_⟩
    have hex:B32 ^ (r.length - d.length - 1) * B32 ^ (d.length - 1) = B32 ^ (r.length - 2):=by
      rw [← Nat.pow_add]; congr 1; omega
    generalize B32 ^ (r.length - d.length - 1) = P at *
    generalize B32 ^ (d.length - 1) = Q at *
    generalize B32 ^ (r.length - 2) = R at *
    calc P * (X / (y + 1)) * val d ≤ P * (X / (y + 1)) * (Q * (y + 1)):=Nat.mul_le_mul_left _ (by omega)
      _ = (P * Q) * (X / (y + 1) * (y + 1)):=by rw [Nat.mul_mul_mul_comm]
      _ = R * (X / (y + 1) * (y + 1)):=by rw [hex]
      _ ≤ R * X:=Nat.mul_le_mul_left _ (Nat.div_mul_le_self _ _)
      _ ≤ val r:=hr2
variable {E:CallF} (hE:Free E)
include hE
omit hE in
theorem val_shift (k x y:Nat):val (List.replicate k 0 ++ [x,y]) = B32 ^ k * (x + B32 * y):=by
  rw [val_append,val_zeros,List.length_replicate]; simp [val]
theorem r1_estimate (r d:List Nat) (hr:∀ x ∈ r,x < B32) (hd:∀ x ∈ d,x < B32) (hdl:0 < d.length) (hlen:d.length ≤ r.length) (hbig:2147483648 ≤ d.getD (d.length - 1) 0) (hrl:r.length < 2147483648) (H:Heap) :
    call E GP 119 [.isl (r.map limbA),.isl (d.map limbA)] H = some (Z (estN r d),H,false):=by
  rw [call_fun (hE _ _ _ (by decide)) (f:=a119) rfl rfl]
  have gd:=limb_get (l:=d) (n:=d.length - 1) (by omega)
  have gr:=limb_get (l:=r) (n:=r.length - 1) (by omega)
  have dtop:d.getD (d.length - 1) 0 < B32:=hd _ (by simp [List.getD,show d.length - 1 < d.length by omega])
  have rtop:r.getD (r.length - 1) 0 < B32:=hr _ (by simp [List.getD,show r.length - 1 < r.length by omega])
  have w1:IntKind.i64.wrap ((d.length:Int) - 1) = ((d.length - 1:Nat):Int):=by rw [i64w (by omega)]; omega
  have w2:IntKind.i64.wrap ((r.length:Int) - 1) = ((r.length - 1:Nat):Int):=by rw [i64w (by omega)]; omega
  have w3:IntKind.i64.wrap ((r.length:Int) - (d.length:Int)) = ((r.length - d.length:Nat):Int):=by rw [i64w (by omega)]; omega
  simp only [B32] at dtop rtop
  unfold estN
  generalize hy:d.getD (d.length - 1) 0 = y at *
  generalize hx:r.getD (r.length - 1) 0 = x at *
  have u1:=u64n (n:=y) (by omega)
  have u2:=u64n (n:=x) (by omega)
  have u3:IntKind.u64.wrap ((y:Int) + 1) = ((y + 1:Nat):Int):=by rw [IntKind.wrap_u64]; omega
  have ny:((y + 1:Nat):Int) ≠ 0:=by omega
  by_cases he:r.length = d.length
  · rw [if_pos he]
    have k1:((r.length - d.length:Nat):Int) = 0:=by omega
    have u4:=u64d (x:=x) (y:=y + 1) (by omega)
    have hle:=Nat.div_le_self x (y + 1)
    have hm:(if ((x / (y + 1):Nat):Int) > 1 then ((x / (y + 1):Nat):Int) else 1) = ((max 1 (x / (y + 1)):Nat):Int):=by
      split <;> omega
    have u5:IntKind.i64.wrap ((max 1 (x / (y + 1)):Nat):Int) = ((max 1 (x / (y + 1)):Nat):Int):=i64w (by omega)
    have h14:=fun H=>r1_of hE ((max 1 (x / (y + 1)):Nat):Int) H (by omega) (by omega)
    simp (maxSteps:=1000000) only [si,simprocAttr,a119,a119R,foldMM,gd,gr,limbA,w1,w2,w3,u1,u2,u3,k1,u4,ny,hm,u5,h14]
  · rw [if_neg he]
    have hgt:d.length < r.length:=by omega
    have k1:((r.length - d.length:Nat):Int) ≠ 0:=by omega
    have gz:=limb_get (l:=r) (n:=r.length - 2) (by omega)
    have rz:r.getD (r.length - 2) 0 < B32:=hr _ (by simp [List.getD,show r.length - 2 < r.length by omega])
    simp only [B32] at rz
    have w4:IntKind.i64.wrap ((r.length:Int) - 2) = ((r.length - 2:Nat):Int):=by rw [i64w (by omega)]; omega
    generalize hz:r.getD (r.length - 2) 0 = z at *
    have u4:IntKind.u64.wrap ((x:Int) * 4294967296) = ((x * 4294967296:Nat):Int):=by rw [IntKind.wrap_u64]; omega
    have u5:=u64n (n:=z) (by omega)
    have u6:=u64a (x:=x * 4294967296) (y:=z) (by omega)
    have u7:=u64d (x:=x * 4294967296 + z) (y:=y + 1) (by omega)
    have hq:(x * 4294967296 + z) / (y + 1) < 18446744073709551616:=Nat.lt_of_le_of_lt (Nat.div_le_self _ _) (by omega)
    have w5:IntKind.i64.wrap (((r.length - d.length:Nat):Int) - 1) = ((r.length - d.length - 1:Nat):Int):=by rw [i64w (by omega)]; omega
    generalize hQ:(x * 4294967296 + z) / (y + 1) = Q at *
    have u8:=u32n Q
    have u9:=u32n (Q / B32)
    have hsh:(Q:Int).fdiv (2 ^ Nat.min 32 IntKind.u64.bits) = ((Q / B32:Nat):Int):=by
      rw [Int.fdiv_eq_ediv_of_nonneg _ (by decide)]; rfl
    have hmk:(((r.length - d.length - 1:Nat):Int)) ≤ 4294967296:=by omega
    have hmk2:(0:Int) ≤ (((r.length - d.length - 1:Nat):Int)):=by omega
    generalize hK:r.length - d.length - 1 = K at *
    have hl1:K + 2 ≤ 4294967296:=by omega
    have hmade:=r1_made_sl hE (List.replicate K 0 ++ [Q % B32,Q / B32 % B32]) false [.arr 1 1 ((List.replicate K 0 ++ [Q % B32,Q / B32 % B32]).map limbA)] 0 1 1 0 (K + 2) (by simp [sil,sim,List.take_of_length_le]) (fun t ht=>by
      rw [List.mem_append] at ht
      rcases ht with ht | ht
      · rw [List.eq_of_mem_replicate ht]; decide
      · simp only [List.mem_cons,List.not_mem_nil,or_false] at ht
        rcases ht with rfl | rfl <;> exact Nat.mod_lt _ (by decide)) (by simp; omega)
    have hv:ofL false (List.replicate K 0 ++ [Q % B32,Q / B32 % B32]) = ((B32 ^ K * Q:Nat):Int):=by
      unfold ofL
      rw [val_shift]
      have:Q % B32 + B32 * (Q / B32 % B32) = Q:=by simp only [B32]; omega
      rw [this]; rfl
    rw [hv] at hmade
    simp only [List.map_append,List.map_replicate,List.map_cons,List.map_nil,limbA,Int.ofNat_zero] at hmade
    simp (maxSteps:=1000000) only [si,simprocAttr,a119,a119R,gd,gr,gz,limbA,w1,w2,w3,w4,w5,u1,u2,u3,k1,u4,u5,u6,u7,u8,u9,hsh,ny,hmk,hmk2,maxLenA,hl1,List.length_replicate,hmade]
end Tor
namespace Tor
open Go
theorem limbs_len_lt {n k:Nat} (h:n < B32 ^ k):(limbs n).length ≤ k:=by
  rcases Nat.lt_or_ge k (limbs n).length with hk | hk
  · exfalso
    have hne:limbs n ≠ []:=by intro e; rw [e] at hk; simp at hk
    have h1:=top_le_val (limbs n) (by omega)
    rw [val_limbs] at h1
    have h2:(limbs n).getD ((limbs n).length - 1) 0 ≠ 0:=by
      have:=limbs_last n hne
      rw [List.getLast_eq_getElem] at this
      simpa [List.getD,show (limbs n).length - 1 < (limbs n).length by omega] using this
    have h3:B32 ^ k ≤ B32 ^ ((limbs n).length - 1):=Nat.pow_le_pow_right (by decide) (by omega)
    have h4:B32 ^ ((limbs n).length - 1) * 1 ≤ B32 ^ ((limbs n).length - 1) * (limbs n).getD ((limbs n).length - 1) 0:=Nat.mul_le_mul_left _ (by omega)
    omega
  · exact hk
theorem lt_limbs (n:Nat):n < B32 ^ (limbs n).length:=by
  have:=val_lt (limbs n) (limbs_lt n)
  rwa [val_limbs] at this
theorem limbs_mul (m n:Nat):(limbs (m * n)).length ≤ (limbs m).length + (limbs n).length:=by
  apply limbs_len_lt
  rw [Nat.pow_add]
  have h1:=lt_limbs m
  have h2:=lt_limbs n
  rcases Nat.eq_zero_or_pos n with h | h
  · subst h; rw [Nat.mul_zero]; exact Nat.mul_pos (Nat.pow_pos (by decide)) (Nat.pow_pos (by decide))
  · calc m * n < B32 ^ (limbs m).length * n:=Nat.mul_lt_mul_of_pos_right h1 h
      _ ≤ B32 ^ (limbs m).length * B32 ^ (limbs n).length:=Nat.mul_le_mul_left _ (by omega)
theorem Z_plain (n:Int):(Z n).plain = true:=rfl
theorem Z_nat (n:Nat):Z (n:Int) = .agg [.bool false,.isl ((limbs n).map limbA)]:=by
  unfold Z
  rw [Int.natAbs_natCast,decide_eq_false (by omega)]
variable {E:CallF} (hE:Free E)
include hE
def vst (a b:List Nat) (s:Nat) (c:AV):St :=
  { vars:=[.isl (a.map limbA),.isl (b.map limbA),.u,.u,.int .u32 s,.u,.bool false,c,.u,.agg [.bool false,.isl []],.agg [.bool false,.isl []],.u,.u,.u,.u,.u],heap:=[],rs:=false }
theorem scale_loop (a b:List Nat) (hb:∀ d ∈ b,d < B32) (lb:b.length < 2147483648) (hbl:0 < b.length):∀ (n j:Nat),j + n = 31 → 2147483648 ≤ b.getD (b.length - 1) 0 * 2 ^ 31 → b.getD (b.length - 1) 0 * 2 ^ j < 4294967296 →
    ∃ j',j' ≤ 31 ∧ 2147483648 ≤ b.getD (b.length - 1) 0 * 2 ^ j' ∧ b.getD (b.length - 1) 0 * 2 ^ j' < 4294967296 ∧
      run E GP a110l0 (vst a b (2 ^ j) .u) = some (.exit 0,vst a b (2 ^ j') (.bool false)):=by
  have gb:=limb_get (l:=b) (n:=b.length - 1) (by omega)
  have btop:b.getD (b.length - 1) 0 < B32:=hb _ (by simp [List.getD,show b.length - 1 < b.length by omega])
  simp only [B32] at btop
  generalize b.getD (b.length - 1) 0 = y at *
  have w1:IntKind.i64.wrap ((b.length:Int) - 1) = ((b.length - 1:Nat):Int):=by rw [i64w (by omega)]; omega
  have u1:=u64n (n:=y) (by omega)
  intro n
  induction n with
  | zero =>
    intro j hj h1 h2
    have e:j = 31:=by omega
    subst e
    refine ⟨31,Nat.le_refl _,h1,h2,?_⟩
    have u2:=u64n (n:=2 ^ 31) (by decide)
    have u3:=u64m (x:=y) (y:=2 ^ 31) (by omega)
    have k1:¬ ((y * 2 ^ 31:Nat):Int) < 2147483648:=by omega
    simp only [Nat.reducePow,Int.cast_ofNat_Int] at u2 u3 k1
    rw [a110l0_run]
    simp (maxSteps:=1000000) only [si,simprocAttr,vst,a110b0,a110R,gb,limbA,w1,u1,u2,u3,k1]
  | succ n ih =>
    intro j hj h1 h2
    have hp:(2:Nat) ^ j ≤ 2 ^ 31:=Nat.pow_le_pow_right (by decide) (by omega)
    have u2:=u64n (n:=2 ^ j) (by omega)
    have u3:=u64m (x:=y) (y:=2 ^ j) (by omega)
    by_cases hge:2147483648 ≤ y * 2 ^ j
    · refine ⟨j,by omega,hge,h2,?_⟩
      have k1:¬ ((y * 2 ^ j:Nat):Int) < 2147483648:=by omega
      generalize 2 ^ j = s at *
      rw [a110l0_run]
      simp (maxSteps:=1000000) only [si,simprocAttr,vst,a110b0,a110R,gb,limbA,w1,u1,u2,u3,k1]
    · have e2:(2:Nat) ^ (j + 1) = 2 * 2 ^ j:=by rw [Nat.pow_succ,Nat.mul_comm]
      have hlt:y * 2 ^ (j + 1) < 4294967296:=by rw [e2,Nat.mul_left_comm]; omega
      obtain ⟨j',i1,i2,i3,i4⟩:=ih (j + 1) (by omega) h1 hlt
      refine ⟨j',i1,i2,i3,?_⟩
      rw [← i4,e2]
      have k1:((y * 2 ^ j:Nat):Int) < 2147483648:=by omega
      have hp2:2 * 2 ^ j ≤ 2 ^ 31:=by rw [← e2]; exact Nat.pow_le_pow_right (by decide) (by omega)
      have u4:IntKind.u32.wrap (2 * ((2 ^ j:Nat):Int)) = ((2 * 2 ^ j:Nat):Int):=by rw [IntKind.wrap_u32]; omega
      generalize 2 ^ j = s at *
      conv=>lhs; rw [a110l0_run]
      simp (maxSteps:=1000000) only [si,simprocAttr,vst,a110b0,a110R,gb,limbA,w1,u1,u2,u3,u4,k1]
def qst (a b:List Nat) (s:Nat) (r d q:Nat) (c:AV):St :=
  { vars:=[.isl (a.map limbA),.isl (b.map limbA),.u,.u,.int .u32 s,.u,.bool false,.bool false,c,.agg [.bool false,.isl []],.agg [.bool false,.isl []],.agg [.bool false,.isl ((limbs s).map limbA)],
      .agg [.bool false,.isl ((limbs r).map limbA)],.agg [.bool false,.isl ((limbs d).map limbA)],.agg [.bool false,.isl ((limbs q).map limbA)],.u],heap:=[],rs:=false }
theorem quot_loop (a b:List Nat) (s d:Nat) (hd:0 < d) (fd:(limbs d).length < 1073741000) (hbig:2147483648 ≤ (limbs d).getD ((limbs d).length - 1) 0):∀ (r q:Nat),(limbs (q * d + r)).length < 1073741000 →
    ∃ r' q',q' * d + r' = q * d + r ∧ r' < d ∧ run E GP a110l1 (qst a b s r d q .u) = some (.exit 2,qst a b s r' d q' (.bool false)):=by
  have hdl:0 < (limbs d).length:=by
    cases h:limbs d with
    | nil=>rw [limbs_nil] at h; omega
    | cons x l=>simp
  intro r
  induction r using Nat.strongRecOn with
  | _ r ih =>
    intro q hfit
    have fr:(limbs r).length < 1073741000:=Nat.lt_of_le_of_lt (limbs_len_le (by omega)) hfit
    have hqd:q ≤ q * d:=Nat.le_mul_of_pos_right _ hd
    have fq:(limbs q).length < 1073741000:=Nat.lt_of_le_of_lt (limbs_len_le (by omega)) hfit
    by_cases hlt:r < d
    · refine ⟨r,q,rfl,hlt,?_⟩
      have hless:=fun H=>r1_less hE r d H (by omega) (by omega)
      have hd2:decide (r < d) = true:=decide_eq_true hlt
      rw [a110l1_run]
      simp (maxSteps:=1000000) only [si,simprocAttr,qst,a110b1,a110R,hless,hd2]
    · have hless:=fun H=>r1_less hE r d H (by omega) (by omega)
      have rtop:0 < (limbs r).getD ((limbs r).length - 1) 0:=by
        have hne:limbs r ≠ []:=by rw [Ne,limbs_nil]; omega
        have:=limbs_last r hne
        rw [List.getLast_eq_getElem] at this
        have hl:(limbs r).length - 1 < (limbs r).length:=by
          have:0 < (limbs r).length:=List.length_pos_iff.2 hne
          omega
        have h2:(limbs r).getD ((limbs r).length - 1) 0 ≠ 0:=by simpa [List.getD,hl] using this
        omega
      obtain ⟨e1,e2⟩:=est_ok (limbs r) (limbs d) (limbs_lt r) (limbs_lt d) hdl (limbs_len_le (by omega)) rtop (by rw [val_limbs,val_limbs]; omega)
      rw [val_limbs,val_limbs] at e2
      have hest:=fun H=>r1_estimate hE (limbs r) (limbs d) (limbs_lt r) (limbs_lt d) hdl (limbs_len_le (by omega)) hbig (by omega) H
      generalize estN (limbs r) (limbs d) = t at *
      have htd:t ≤ t * d:=Nat.le_mul_of_pos_right _ hd
      have hdt:d ≤ t * d:=Nat.le_mul_of_pos_left _ (by omega)
      have ft:(limbs t).length < 1073741000:=Nat.lt_of_le_of_lt (limbs_len_le (by omega)) fr
      have ftd:(limbs (t * d)).length < 1073741000:=Nat.lt_of_le_of_lt (limbs_len_le (by omega)) fr
      have hmul:=fun H=>r1_mul hE (t:Int) (d:Int) H (by rw [Int.natAbs_natCast]; omega) (by rw [Int.natAbs_natCast]; omega) (by rw [Int.natAbs_natCast,Int.natAbs_natCast]; omega)
      have hadd:=fun H=>r1_add hE (q:Int) (t:Int) H (by rw [Int.natAbs_natCast]; omega) (by rw [Int.natAbs_natCast]; omega)
      have hsub:=fun H=>r1_sub hE (r:Int) ((t * d:Nat):Int) H (by rw [Int.natAbs_natCast]; omega) (by rw [Int.natAbs_natCast]; omega)
      rw [← Int.natCast_mul] at hmul
      rw [← Int.natCast_add] at hadd
      rw [← Int.natCast_sub e2] at hsub
      have hsum:(q + t) * d + (r - t * d) = q * d + r:=by rw [Nat.add_mul]; omega
      obtain ⟨r',q',i1,i2,i3⟩:=ih (r - t * d) (by omega) (q + t) (by rw [hsum]; exact hfit)
      refine ⟨r',q',i1.trans hsum,i2,?_⟩
      rw [← i3]
      simp only [Z_nat] at hmul hadd hsub hest
      have hd2:decide (r < d) = false:=decide_eq_false hlt
      conv=>lhs; rw [a110l1_run]
      simp (maxSteps:=1000000) only [si,simprocAttr,qst,a110b1,a110R,hless,hd2,hest,hmul,hadd,hsub]
omit hE in
theorem pow_split {y j:Nat} (hj:j ≤ 31) (h:y * 2 ^ j < 4294967296):(y + 1) * 2 ^ j ≤ 4294967296:=by
  have e:(4294967296:Nat) = 2 ^ (32 - j) * 2 ^ j:=by
    rw [← Nat.pow_add,show 32 - j + j = 32 by omega]
  rw [e] at h ⊢
  have:=Nat.lt_of_mul_lt_mul_right h
  exact Nat.mul_le_mul_right _ this
omit hE in
theorem scaled_top (b j:Nat) (hb:0 < b) (hj:j ≤ 31) (h1:2147483648 ≤ (limbs b).getD ((limbs b).length - 1) 0 * 2 ^ j) (h2:(limbs b).getD ((limbs b).length - 1) 0 * 2 ^ j < 4294967296) :
    2147483648 ≤ (limbs (b * 2 ^ j)).getD ((limbs (b * 2 ^ j)).length - 1) 0:=by
  have hbl:0 < (limbs b).length:=by
    cases h:limbs b with
    | nil=>rw [limbs_nil] at h; omega
    | cons x l=>simp
  have t1:=top_le_val (limbs b) hbl
  have t2:=val_lt_top (limbs b) (limbs_lt b) hbl
  rw [val_limbs] at t1 t2
  have h3:=pow_split hj h2
  have hpow:B32 ^ (limbs b).length = B32 ^ ((limbs b).length - 1) * 4294967296:=by
    rw [show (4294967296:Nat) = B32 from rfl,← Nat.pow_succ,show ((limbs b).length - 1).succ = (limbs b).length by omega]
  generalize (limbs b).getD ((limbs b).length - 1) 0 = y at *
  have up:b * 2 ^ j < B32 ^ (limbs b).length:=by
    have hp:0 < 2 ^ j:=Nat.pow_pos (by decide)
    calc b * 2 ^ j < B32 ^ ((limbs b).length - 1) * (y + 1) * 2 ^ j:=Nat.mul_lt_mul_of_pos_right t2 hp
      _ = B32 ^ ((limbs b).length - 1) * ((y + 1) * 2 ^ j):=Nat.mul_assoc _ _ _
      _ ≤ B32 ^ ((limbs b).length - 1) * 4294967296:=Nat.mul_le_mul_left _ h3
      _ = _:=hpow.symm
  have lo:B32 ^ ((limbs b).length - 1) * 2147483648 ≤ b * 2 ^ j:=by
    calc B32 ^ ((limbs b).length - 1) * 2147483648 ≤ B32 ^ ((limbs b).length - 1) * (y * 2 ^ j):=Nat.mul_le_mul_left _ h1
      _ = B32 ^ ((limbs b).length - 1) * y * 2 ^ j:=(Nat.mul_assoc _ _ _).symm
      _ ≤ b * 2 ^ j:=Nat.mul_le_mul_right _ t1
  have hl1:=limbs_len_lt up
  have hP:0 < B32 ^ ((limbs b).length - 1):=Nat.pow_pos (by decide)
  have hl2:(limbs b).length ≤ (limbs (b * 2 ^ j)).length:=by
    rcases Nat.lt_or_ge (limbs (b * 2 ^ j)).length (limbs b).length with h | h
    · have h4:=lt_limbs (b * 2 ^ j)
      have h5:B32 ^ (limbs (b * 2 ^ j)).length ≤ B32 ^ ((limbs b).length - 1):=Nat.pow_le_pow_right (by decide) (by omega)
      omega
    · exact h
  have hl3:(limbs (b * 2 ^ j)).length = (limbs b).length:=by omega
  have t3:=val_lt_top (limbs (b * 2 ^ j)) (limbs_lt _) (by omega)
  rw [val_limbs,hl3] at t3
  rw [hl3]
  generalize (limbs (b * 2 ^ j)).getD ((limbs b).length - 1) 0 = z at *
  have:=Nat.lt_of_mul_lt_mul_left (Nat.lt_of_le_of_lt lo t3)
  omega
theorem r1_divide (a b:Nat) (hb:0 < b) (fa:(limbs a).length < 1073740000) (fb:(limbs b).length < 1073740000) (H:Heap) :
    call E GP 110 [.isl ((limbs a).map limbA),.isl ((limbs b).map limbA)] H = some (.tup [Z (a / b:Nat),Z (a % b:Nat)],H,false):=by
  rw [call_fun (hE _ _ _ (by decide)) (f:=a110) rfl rfl]
  have hbl:0 < (limbs b).length:=by
    cases h:limbs b with
    | nil=>rw [limbs_nil] at h; omega
    | cons x l=>simp
  by_cases h1:(limbs b).length = 1
  · have g0:=limb_get hbl
    have v1:(limbs b).getD 0 0 = b:=by
      have:=val_limbs b
      generalize limbs b = l at *
      match l,h1 with
      | [x],_=>simpa [val] using this
    have blt:b < B32:=by
      have:=lt_limbs b; rwa [h1,Nat.pow_one] at this
    rw [v1] at g0
    obtain ⟨q,r,e1,e2,e3,e4,e5⟩:=r1_short hE (limbs a) (limbs_lt a) (by omega) b hb blt
    rw [val_limbs] at e1
    have hq:a / b = val q:=by
      rw [e1]
      rw [Nat.add_comm,Nat.add_mul_div_right _ _ hb,Nat.div_eq_of_lt e2,Nat.zero_add]
    have hr:a % b = r:=by
      rw [e1,Nat.add_comm,Nat.add_mul_mod_self_right,Nat.mod_eq_of_lt e2]
    have m1:=fun H=>r1_made hE q false H e3 (by omega)
    have m2:=fun H=>r1_made hE [r] false H (fun d hd=>by simp at hd; subst hd; simp only [B32] at blt ⊢; omega) (by simp)
    have o1:ofL false q = ((a / b:Nat):Int):=by rw [hq]; rfl
    have o2:ofL false [r] = ((a % b:Nat):Int):=by rw [hr]; simp [ofL,val]
    rw [o1] at m1
    rw [o2] at m2
    simp only [List.map_cons,List.map_nil,limbA] at m2
    have k1:((limbs b).length:Int) = 1:=by omega
    have k2:((limbs b).map limbA)[0]? = some (limbA b):=g0
    simp (maxSteps:=1000000) only [si,simprocAttr,a110,a110R,k1,k2,g0,limbA,e5,m1,m2,Z_plain]
  · have btop:0 < (limbs b).getD ((limbs b).length - 1) 0:=by
      have hne:limbs b ≠ []:=by rw [Ne,limbs_nil]; omega
      have:=limbs_last b hne
      rw [List.getLast_eq_getElem] at this
      have h2:(limbs b).getD ((limbs b).length - 1) 0 ≠ 0:=by simpa [List.getD,show (limbs b).length - 1 < (limbs b).length by omega] using this
      omega
    have btl:(limbs b).getD ((limbs b).length - 1) 0 < B32:=limbs_lt b _ (by simp [List.getD,show (limbs b).length - 1 < (limbs b).length by omega])
    obtain ⟨j,j1,j2,j3,j4⟩:=scale_loop hE (limbs a) (limbs b) (limbs_lt b) (by omega) hbl 31 0 rfl (by omega) (by simp only [B32] at btl; omega)
    have hs0:0 < 2 ^ j:=Nat.pow_pos (by decide)
    have hs1:(2:Nat) ^ j < 4294967296:=Nat.lt_of_le_of_lt (Nat.pow_le_pow_right (by decide) j1) (by decide)
    have hbig:=scaled_top b j hb j1 j2 j3
    simp only [vst,Nat.pow_zero,show ((1:Nat):Int) = 1 from rfl] at j4
    generalize 2 ^ j = s at *
    have fs:(limbs s).length ≤ 1:=limbs_len_lt (by simp only [B32]; omega)
    have fas:=limbs_mul a s
    have fbs:=limbs_mul b s
    have m1:=fun H=>r1_made hE [s] false H (fun d hd=>by simp at hd; subst hd; simp only [B32]; omega) (by simp)
    have o1:ofL false [s] = (s:Int):=by simp [ofL,val]
    rw [o1] at m1
    have m2:=fun H=>r1_made hE (limbs a) false H (limbs_lt a) (by omega)
    have o2:ofL false (limbs a) = (a:Int):=by simp [ofL,val_limbs]
    rw [o2] at m2
    have m3:=fun H=>r1_made hE (limbs b) false H (limbs_lt b) (by omega)
    have o3:ofL false (limbs b) = (b:Int):=by simp [ofL,val_limbs]
    rw [o3] at m3
    have p1:=fun H=>r1_mul hE (a:Int) (s:Int) H (by rw [Int.natAbs_natCast]; omega) (by rw [Int.natAbs_natCast]; omega) (by rw [Int.natAbs_natCast,Int.natAbs_natCast]; omega)
    have p2:=fun H=>r1_mul hE (b:Int) (s:Int) H (by rw [Int.natAbs_natCast]; omega) (by rw [Int.natAbs_natCast]; omega) (by rw [Int.natAbs_natCast,Int.natAbs_natCast]; omega)
    rw [← Int.natCast_mul] at p1 p2
    have hds:0 < b * s:=Nat.mul_pos hb hs0
    obtain ⟨r,q,q1,q2,q3⟩:=quot_loop hE (limbs a) (limbs b) s (b * s) hds (by omega) hbig (a * s) 0 (by rw [Nat.zero_mul,Nat.zero_add]; omega)
    rw [Nat.zero_mul,Nat.zero_add] at q1
    have hqb:q * b ≤ a:=by
      have:(q * b) * s ≤ a * s:=by rw [Nat.mul_assoc]; omega
      exact Nat.le_of_mul_le_mul_right this hs0
    have hrs:r = (a - q * b) * s:=by
      rw [Nat.sub_mul,Nat.mul_assoc]; omega
    have hlt:a - q * b < b:=by
      rw [hrs] at q2
      exact Nat.lt_of_mul_lt_mul_right q2
    have hdiv:a / b = q:=by
      rw [Nat.div_eq_iff hb]
      constructor <;> omega
    have hmod:a % b = a - q * b:=by
      have:=Nat.div_add_mod a b
      rw [hdiv,Nat.mul_comm] at this; omega
    have fr:(limbs r).length < 1073741000:=Nat.lt_of_le_of_lt (limbs_len_le (by omega:r ≤ a * s)) (by omega)
    obtain ⟨q',r',e1,e2,e3,e4,e5⟩:=r1_short hE (limbs r) (limbs_lt r) (by omega) s hs0 (by simp only [B32]; omega)
    rw [val_limbs] at e1
    have hv:val q' = a % b:=by
      have h5:r / s = val q':=by
        rw [e1,Nat.add_comm,Nat.add_mul_div_right _ _ hs0,Nat.div_eq_of_lt e2,Nat.zero_add]
      rw [← h5,hrs,Nat.mul_div_cancel _ hs0,hmod]
    have m4:=fun H=>r1_made hE q' false H e3 (by omega)
    have o4:ofL false q' = ((a % b:Nat):Int):=by simp [ofL,hv]
    rw [o4] at m4
    rw [hdiv]
    simp only [Z_nat,List.map_cons,List.map_nil,limbA] at m1 m2 m3 p1 p2 m4
    simp only [Z_nat]
    simp only [qst,limbs_zero,List.map_nil] at q3
    have k1:((limbs b).length:Int) ≠ 1:=by omega
    simp (maxSteps:=1000000) only [si,simprocAttr,a110,a110R,k1,j4,m1,m2,m3,p1,p2,q3,e5,m4,Z_plain]
end Tor
namespace Tor
open Go
theorem div_unique {a b q r:Int} (hb:b ≠ 0) (h:a = b * q + r) (h0:0 ≤ r) (h1:r < b.natAbs):a / b = q ∧ a % b = r:=by
  rcases Int.lt_or_gt_of_ne hb with hn | hp
  · have:=(Int.ediv_emod_unique (a:=a) (b:=-b) (q:=-q) (r:=r) (by omega)).2 ⟨by rw [Int.neg_mul_neg,h]; omega,h0,by omega⟩
    rw [Int.ediv_neg,Int.emod_neg] at this
    omega
  · exact (Int.ediv_emod_unique hp).2 ⟨by rw [h]; omega,h0,by omega⟩
theorem ofL_self (a:Int):ofL (decide (a < 0)) (limbs a.natAbs) = a:=by
  unfold ofL; rw [val_limbs]
  by_cases h:a < 0
  · rw [if_pos (by simpa using h)]; omega
  · rw [if_neg (by simpa using h)]; omega
theorem euclid {a b:Int} {Q R:Nat} (hb:b ≠ 0) (h:b.natAbs * Q + R = a.natAbs) (hR:R < b.natAbs) :
    a / b = (if (decide (a < 0) != decide (b < 0)) = true then -(if a < 0 ∧ R ≠ 0 then (Q:Int) + 1 else Q) else (if a < 0 ∧ R ≠ 0 then (Q:Int) + 1 else Q)) ∧
    a % b = (if a < 0 ∧ R ≠ 0 then (b.natAbs:Int) - R else R):=by
  have habs:(b.natAbs:Int) = if b < 0 then -b else b:=by split <;> omega
  have haas:(a.natAbs:Int) = if a < 0 then -a else a:=by split <;> omega
  have hdm2:(b.natAbs:Int) * (Q:Int) + (R:Int) = (a.natAbs:Int):=by rw [← Int.natCast_mul]; omega
  have e1:∀ x:Int,b * -x = -(b * x):=fun x=>Int.mul_neg b x
  have e2:b * ((Q:Int) + 1) = b * Q + b:=by rw [Int.mul_add,Int.mul_one]
  have e3:-b * (Q:Int) = -(b * Q):=Int.neg_mul b Q
  by_cases ha0:a < 0 <;> by_cases hb0:b < 0 <;> by_cases hR0:R = 0 <;>
    (simp only [ha0,hb0,if_true,if_false] at habs haas
     rw [habs,haas] at hdm2
     simp only [ha0,hb0,hR0,decide_true,decide_false,bne_self_eq_false,Bool.bne_true,Bool.bne_false,Bool.not_true,Bool.not_false,Bool.false_eq_true,if_true,if_false,true_and,false_and,ne_eq,not_true_eq_false,not_false_eq_true,and_true,and_false] at hdm2 ⊢
     refine div_unique hb ?_ (by omega) (by omega)
     try simp only [e1,e2,e3] at hdm2 ⊢
     omega)
variable {E:CallF} (hE:Free E)
include hE
theorem r1_divmod (a b:Int) (hb:b ≠ 0) (fa:(limbs a.natAbs).length < 1073740000) (fb:(limbs b.natAbs).length < 1073740000) (H:Heap) :
    call E GP 87 [Z a,Z b] H = some (.tup [Z (a / b),Z (a % b),.int .i64 0],H,false):=by
  rw [call_fun (hE _ _ _ (by decide)) (f:=a87) rfl rfl]
  have hB:0 < b.natAbs:=by omega
  have m1:=fun H=>r1_made hE (limbs a.natAbs) (decide (a < 0)) H (limbs_lt _) (by omega)
  have m2:=fun H=>r1_made hE (limbs b.natAbs) (decide (b < 0)) H (limbs_lt _) (by omega)
  rw [ofL_self] at m1 m2
  have m3:=fun H=>r1_made hE (limbs b.natAbs) false H (limbs_lt _) (by omega)
  have o3:ofL false (limbs b.natAbs) = (b.natAbs:Int):=by simp [ofL,val_limbs]
  rw [o3] at m3
  have hd:=fun H=>r1_divide hE a.natAbs b.natAbs hB fa fb H
  have hdm:=Nat.div_add_mod a.natAbs b.natAbs
  have hlt:=Nat.mod_lt a.natAbs hB
  have hs:=fun H=>r1_sign hE b H
  have hsb:b.sign ≠ 0:=by rw [Ne,Int.sign_eq_zero_iff_zero]; exact hb
  have hqle:=Nat.div_le_self a.natAbs b.natAbs
  generalize hQ:a.natAbs / b.natAbs = Q at *
  generalize hR:a.natAbs % b.natAbs = R at *
  have fQ:(limbs Q).length < 1073740000:=Nat.lt_of_le_of_lt (limbs_len_le hqle) fa
  have fR:(limbs R).length < 1073740000:=Nat.lt_of_le_of_lt (limbs_len_le (by omega:R ≤ b.natAbs)) fb
  have hsr:=fun H=>r1_sign hE (R:Int) H
  have o1:=fun H=>r1_of hE 1 H (by omega) (by omega)
  have ad:=fun H=>r1_add hE (Q:Int) 1 H (by rw [Int.natAbs_natCast]; omega) (by decide)
  have sb:=fun H=>r1_sub hE (b.natAbs:Int) (R:Int) H (by rw [Int.natAbs_natCast]; omega) (by rw [Int.natAbs_natCast]; omega)
  have f1:(limbs (Q + 1)).length < 1073741000:=by
    have:Q + 1 < B32 ^ ((limbs Q).length + 1):=by
      have h1:=lt_limbs Q
      rw [Nat.pow_succ]
      have h2:0 < B32 ^ (limbs Q).length:=Nat.pow_pos (by decide)
      generalize B32 ^ (limbs Q).length = P at *
      simp only [B32]; omega
    have:=limbs_len_lt this
    omega
  have n1:=fun H=>r1_neg hE (Q:Int) H (by rw [Int.natAbs_natCast]; omega)
  have n2:=fun H=>r1_neg hE ((Q:Int) + 1) H (by rw [show ((Q:Int) + 1).natAbs = Q + 1 by omega]; omega)
  have hz:Z b = .agg [.bool (decide (b < 0)),.isl ((limbs b.natAbs).map limbA)]:=rfl
  have hza:Z a = .agg [.bool (decide (a < 0)),.isl ((limbs a.natAbs).map limbA)]:=rfl
  obtain ⟨e1,e2⟩:=euclid hb hdm hlt
  rw [e1,e2]
  have hRs:((R:Int)).sign = if R = 0 then 0 else 1:=by
    rcases Nat.eq_zero_or_pos R with h | h
    · rw [h]; rfl
    · rw [if_neg (by omega)]; exact Int.sign_eq_one_of_pos (by omega)
  rw [hRs] at hsr
  simp only [Z_nat b.natAbs] at m3 sb
  have z0:=fun H=>r1_sign hE 0 H
  rw [Int.sign_zero] at z0
  by_cases ha0:a < 0 <;> by_cases hb0:b < 0 <;> by_cases hR0:R = 0
  all_goals
    simp only [ha0,hb0,hR0,decide_true,decide_false,bne_self_eq_false,Bool.bne_true,Bool.bne_false,Bool.not_true,Bool.not_false,Bool.false_eq_true,if_true,if_false,true_and,false_and,ne_eq,not_true_eq_false,not_false_eq_true,and_true,and_false] at m1 m2 hz hza hd hsr sb ⊢
    simp only [hz] at hs
    simp only [hz,hza] at m1 m2
    simp (maxSteps:=1000000) only [si,simprocAttr,a87,a87R,hz,hza,m1,m2,m3,hd,hs,hsb,hsr,o1,ad,sb,n1,n2,Z_plain,z0,bne_self_eq_false,Bool.bne_true,Bool.bne_false,Int.ofNat_zero,Int.sign_zero]
end Tor
namespace Tor
open Go
def rowA (r:List Int):List AV:=r.map Z
theorem rowA_len (r:List Int):(rowA r).length = r.length:=List.length_map ..
theorem refs_rowA:∀ r:List Int,AV.hasRefs (rowA r) = false
  | []=>rfl
  | x :: r=>by
    have:=refs_rowA r
    simp only [rowA,List.map_cons,AV.hasRefs,Z_ref,Bool.false_or] at this ⊢; exact this
theorem rowA_get {r:List Int} {i:Nat} (h:i < r.length):(rowA r)[i]? = some (Z (r.getD i 0)):=by
  simp [rowA,h,List.getD]
theorem rowA_set (r:List Int) (i:Nat) (x:Int):(rowA r).set i (Z x) = rowA (r.set i x):=by simp [rowA,List.map_set]
theorem Z_zero:Z 0 = .agg [.bool false,.isl []]:=rfl
theorem rowA_zero (n:Nat):List.replicate n (AV.agg [.bool false,.isl []]) = rowA (List.replicate n 0):=by
  simp [rowA,List.map_replicate,Z_zero]
def tops (C:Nat) (rs:List Nat):List AV:=rs.map fun r=>.sl r 0 2 0 C
theorem tops_len (C rs):(tops C rs).length = rs.length:=List.length_map ..
theorem tops_get {C:Nat} {rs:List Nat} {i:Nat} (h:i < rs.length):(tops C rs)[i]? = some (.sl (rs.getD i 0) 0 2 0 C):=by
  simp [tops,h,List.getD]
structure HMat (H:Heap) (o g C:Nat) (rs:List Nat) (A:List (List Int)):Prop where
  top:H[o]? = some (.arr g 1 (tops C rs))
  row:∀ i,i < rs.length → H[rs.getD i 0]? = some (.arr 0 2 (rowA (A.getD i [])))
  len:A.length = rs.length
  wid:∀ i,i < rs.length → (A.getD i []).length = C
  nod:rs.Nodup
  off:o ∉ rs
theorem getD_mem {rs:List Nat} {i:Nat} (h:i < rs.length):rs.getD i 0 ∈ rs:=by
  simp [List.getD,h]
theorem getD_inj {rs:List Nat} (hn:rs.Nodup) {i j:Nat} (hi:i < rs.length) (hj:j < rs.length) (h:rs.getD i 0 = rs.getD j 0):i = j:=by
  simp only [List.getD,List.getElem?_eq_getElem hi,List.getElem?_eq_getElem hj,Option.getD_some] at h
  have hp:=List.pairwise_iff_getElem.1 hn
  rcases Nat.lt_trichotomy i j with h1 | h1 | h1
  · exact absurd h (hp i j hi hj h1)
  · exact h1
  · exact absurd h.symm (hp j i hj hi h1)
theorem gets_self {α:Type} (l:List α) (i:Nat) (x d:α) (h:i < l.length):(l.set i x).getD i d = x:=by
  simp [List.getD,h]
theorem gets_ne {α:Type} (l:List α) (i j:Nat) (x d:α) (h:i ≠ j):(l.set i x).getD j d = l.getD j d:=by
  simp [List.getD,List.getElem?_set_ne h]
theorem HMat.other {H o g C rs A} (h:HMat H o g C rs A) {x:Nat} {ob:AObj} (hx:x ≠ o) (hr:x ∉ rs):HMat (H.set x ob) o g C rs A :=
  ⟨by rw [List.getElem?_set_ne hx]; exact h.top,fun i hi=>by
    rw [List.getElem?_set_ne (fun e=>hr (by rw [e]; exact getD_mem hi))]; exact h.row i hi,h.len,h.wid,h.nod,h.off⟩
theorem HMat.setRow {H o g C rs A} (h:HMat H o g C rs A) {i:Nat} (hi:i < rs.length) {r:List Int} (hr:r.length = C) :
    HMat (H.set (rs.getD i 0) (.arr 0 2 (rowA r))) o g C rs (A.set i r):=by
  have hne:rs.getD i 0 ≠ o:=fun e=>h.off (by rw [← e]; exact getD_mem hi)
  refine ⟨by rw [List.getElem?_set_ne hne]; exact h.top,fun j hj=>?_,by rw [List.length_set]; exact h.len,fun j hj=>?_,h.nod,h.off⟩
  · by_cases hij:i = j
    · subst hij
      have hlt:rs.getD i 0 < H.length:=by
        have:=h.row i hi
        exact (List.getElem?_eq_some_iff.1 this).1
      rw [List.getElem?_set_self hlt,gets_self _ _ _ _ (by rw [h.len]; exact hi)]
    · rw [List.getElem?_set_ne (fun e=>hij (getD_inj h.nod hi hj e)),gets_ne _ _ _ _ _ hij]; exact h.row j hj
  · by_cases hij:i = j
    · subst hij; rw [gets_self _ _ _ _ (by rw [h.len]; exact hi)]; exact hr
    · rw [gets_ne _ _ _ _ _ hij]; exact h.wid j hj
theorem HMat.app {H o g C rs A} (h:HMat H o g C rs A) (X:Heap):HMat (H ++ X) o g C rs A:=by
  have aux:∀ n ob,H[n]? = some ob → (H ++ X)[n]? = some ob:=fun n ob e=>by
    rw [List.getElem?_append_left (List.getElem?_eq_some_iff.1 e).1]; exact e
  exact ⟨aux _ _ h.top,fun i hi=>aux _ _ (h.row i hi),h.len,h.wid,h.nod,h.off⟩
def HV (o g R C:Nat):AV:=.agg [.int .i64 R,.int .i64 C,.sl o g 1 0 R]
def news (n R:Nat):List Nat:=(List.range R).map (fun i=>n + 1 + 2 * i)
theorem news_len (n R):(news n R).length = R:=by simp [news]
theorem news_get {n R i:Nat} (h:i < R):(news n R).getD i 0 = n + 1 + 2 * i:=by simp [news,List.getD,h]
theorem mem_news {n R x:Nat} (h:x ∈ news n R):n < x ∧ x < n + 1 + 2 * R:=by
  simp only [news,List.mem_map,List.mem_range] at h
  obtain ⟨i,hi,rfl⟩:=h
  omega
theorem news_nodup (n R):(news n R).Nodup:=by
  unfold news
  rw [List.Nodup,List.pairwise_map]
  exact List.nodup_range.imp fun h e=>h (by omega)
def rowsH (n C:Nat):Nat → Heap
  | 0=>[]
  | R + 1=>rowsH n C R ++ [.arr 0 2 (rowA (List.replicate C 0)),.arr 0 1 [.sl (n + 1 + 2 * R) 0 2 0 C]]
theorem rowsH_len (n C R):(rowsH n C R).length = 2 * R:=by
  induction R with
  | zero=>rfl
  | succ R ih=>simp [rowsH,ih]; omega
theorem rowsH_get (n C:Nat):∀ (R i:Nat),i < R → (rowsH n C R)[2 * i]? = some (.arr 0 2 (rowA (List.replicate C 0)))
  | 0,i,h=>by omega
  | R + 1,i,h=>by
    rw [rowsH]
    by_cases hi:i < R
    · rw [List.getElem?_append_left (by rw [rowsH_len]; omega)]; exact rowsH_get n C R i hi
    · have:i = R:=by omega
      subst this
      rw [List.getElem?_append_right (by rw [rowsH_len]; omega),rowsH_len]; simp
def newH (n R C:Nat):Heap:=.arr R 1 (tops C (news n R)) :: rowsH n C R
theorem newH_len (n R C):(newH n R C).length = 1 + 2 * R:=by simp [newH,rowsH_len]; omega
theorem newH_mat (H:Heap) (R C:Nat):HMat (H ++ newH H.length R C) H.length R C (news H.length R) (List.replicate R (List.replicate C 0)) where
  top:=by simp [newH]
  row:=fun i hi=>by
    rw [news_len] at hi
    rw [news_get hi,List.getElem?_append_right (by omega)]
    rw [newH,show H.length + 1 + 2 * i - H.length = 2 * i + 1 by omega,List.getElem?_cons_succ,rowsH_get _ _ _ _ hi]
    simp [List.getD,hi]
  len:=by simp [news_len]
  wid:=fun i hi=>by rw [news_len] at hi; simp [List.getD,hi]
  nod:=news_nodup _ _
  off:=fun h=>by have:=mem_news h; omega
variable {E:CallF} (hE:Free E)
include hE
theorem new_loop (R C:Nat) (hR:R < 2147483648) (hC:C < 2147483648) (H:Heap):∀ (k i:Nat) (b:Bool),R = i + k →
    ∃ b',run E GP a61l0 { vars:=[.int .i64 R,.int .i64 C,.sl H.length i 1 0 i,.int .i64 i,.u,.agg [.int .i64 0,.int .i64 0,.nl]],heap:=H ++ newH H.length i C,rs:=b } =
      some (.exit 0,{ vars:=[.int .i64 R,.int .i64 C,.sl H.length R 1 0 R,.int .i64 R,.bool false,.agg [.int .i64 0,.int .i64 0,.nl]],heap:=H ++ newH H.length R C,rs:=b' }):=by
  intro k
  induction k with
  | zero =>
    intro i b h
    have hi:i = R:=by omega
    subst hi
    have k1:¬ (i:Int) < (i:Int):=by omega
    refine ⟨b,?_⟩
    rw [a61l0_run]
    simp (maxSteps:=1000000) only [si,simprocAttr,a61b0,a61R,k1]
  | succ k ih =>
    intro i b h
    obtain ⟨b',hb⟩:=ih (i + 1) (b || true) (by omega)
    refine ⟨b',?_⟩
    rw [← hb]
    have k1:(i:Int) < (R:Int):=by omega
    have wi:IntKind.i64.wrap ((i:Int) + 1) = ((i + 1:Nat):Int):=i64a (by omega)
    have hc1:(C:Int) ≤ 4294967296:=by omega
    have hc2:(0:Int) ≤ (C:Int):=by omega
    have hl:(H ++ newH H.length i C).length = H.length + 1 + 2 * i:=by rw [List.length_append,newH_len]; omega
    have hm:i + 1 ≤ 4294967296:=by omega
    have hl2:((H ++ newH H.length i C) ++ [AObj.arr 0 2 (rowA (List.replicate C 0))]).length = H.length + 1 + 2 * i + 1:=by rw [List.length_append,hl]; rfl
    have g3:(((H ++ newH H.length i C) ++ [AObj.arr 0 2 (rowA (List.replicate C 0))]) ++ [AObj.arr 0 1 [.sl (H.length + 1 + 2 * i) 0 2 0 C]])[H.length]? = some (.arr i 1 (tops C (news H.length i))):=by
      rw [List.getElem?_append_left (by rw [hl2]; omega),List.getElem?_append_left (by rw [hl]; omega)]; simp [newH]
    have g4:(((H ++ newH H.length i C) ++ [AObj.arr 0 2 (rowA (List.replicate C 0))]) ++ [AObj.arr 0 1 [.sl (H.length + 1 + 2 * i) 0 2 0 C]])[H.length + 1 + 2 * i + 1]? = some (.arr 0 1 [.sl (H.length + 1 + 2 * i) 0 2 0 C]):=by
      rw [List.getElem?_append_right (by rw [hl2]; omega),hl2,Nat.sub_self]; rfl
    have tl:(tops C (news H.length i)).length = i:=by rw [tops_len,news_len]
    have hnew:(((H ++ newH H.length i C) ++ [AObj.arr 0 2 (rowA (List.replicate C 0))]) ++ [AObj.arr 0 1 [.sl (H.length + 1 + 2 * i) 0 2 0 C]]).set H.length (.arr (i + 1) 1 (tops C (news H.length i) ++ [AV.sl (H.length + 1 + 2 * i) 0 2 0 C])) = H ++ newH H.length (i + 1) C:=by
      rw [List.append_assoc,List.append_assoc,List.set_append_right _ _ (Nat.le_refl _),Nat.sub_self]
      congr 1
      simp only [newH,List.cons_append,List.set_cons_zero,List.cons.injEq,AObj.arr.injEq,true_and]
      refine ⟨?_,by simp [rowsH]⟩
      simp [tops,news,List.range_succ]
    conv=>lhs; rw [a61l0_run]
    simp (maxSteps:=1000000) only [si,simprocAttr,a61b0,a61R,k1,wi,hc1,hc2,maxLenA,rowA_zero,hl,hl2,g3,g4,tl,hm,hnew]
theorem r5_new (R C:Nat) (hR:R < 2147483648) (hC:C < 2147483648) (H:Heap):∃ b,call E GP 61 [.int .i64 R,.int .i64 C] H = some (HV H.length R R C,H ++ newH H.length R C,b):=by
  rw [call_fun (hE _ _ _ (by decide)) (f:=a61) rfl rfl]
  obtain ⟨b,hb⟩:=new_loop hE R C hR hC H R 0 false (by omega)
  refine ⟨b,?_⟩
  have h0:newH H.length 0 C = [.arr 0 1 []]:=rfl
  rw [h0] at hb
  simp only [Int.ofNat_zero] at hb
  have hmode:a61.mode = .keep:=rfl
  unfold HV
  simp (maxSteps:=1000000) only [hmode,si,simprocAttr,a61,a61R,hb]
end Tor
namespace Tor
open Go
def rowsI (A:List (List Int)):List AV:=A.map fun r=>.isl (rowA r)
def MI (R C:Nat) (A:List (List Int)):AV:=.agg [.int .i64 R,.int .i64 C,.isl (rowsI A)]
theorem rowsI_get {A:List (List Int)} {i:Nat} (h:i < A.length):(rowsI A)[i]? = some (.isl (rowA (A.getD i []))):=by
  simp [rowsI,h,List.getD]
theorem rowsI_len (A:List (List Int)):(rowsI A).length = A.length:=List.length_map ..
def Fr (rs:List Nat) (H H':Heap):Prop:=H'.length = H.length ∧ ∀ y,y ∉ rs → H'[y]? = H[y]?
theorem Fr.refl (rs H):Fr rs H H:=⟨rfl,fun _ _=>rfl⟩
theorem Fr.trans {rs H H' H''} (h:Fr rs H H') (k:Fr rs H' H''):Fr rs H H'':=⟨k.1.trans h.1,fun y hy=>(k.2 y hy).trans (h.2 y hy)⟩
theorem Fr.set {rs:List Nat} {H:Heap} {x:Nat} (hx:x ∈ rs) (ob:AObj):Fr rs H (H.set x ob) :=
  ⟨by simp,fun y hy=>List.getElem?_set_ne (fun e=>hy (by rw [← e]; exact hx))⟩
theorem HMat.frame {H H' o g C rs A L} (h:HMat H o g C rs A) (hf:Fr L H H') (ho:o ∉ L) (hr:∀ r ∈ rs,r ∉ L):HMat H' o g C rs A :=
  ⟨by rw [hf.2 o ho]; exact h.top,fun i hi=>by rw [hf.2 _ (hr _ (getD_mem hi))]; exact h.row i hi,h.len,h.wid,h.nod,h.off⟩
def Fit (n:Int):Prop:=(limbs n.natAbs).length < 536870000
theorem take_set_app {α:Type} (l:List α) (j:Nat) (x:α) (h:j < l.length):(l.set j x).take (j + 1) = l.take j ++ [x]:=by
  rw [List.take_add_one,List.take_set_of_le (Nat.le_refl j)]; simp [h]
variable {E:CallF} (hE:Free E)
include hE
theorem scale_inner (R C:Nat) (hC:C < 2147483648) (A:List (List Int)) (k:Int) (hk:Fit k) (o:Nat) (rs:List Nat) (i:Nat) (hi:i < R) (hA:A.length = R) (x:List Int) (hx:A.getD i [] = x) (lx:x.length = C) (hfit:∀ y ∈ x,Fit y) (hrs:rs.length = R) :
    ∀ (n j:Nat) (H:Heap) (B:List (List Int)) (b:Bool),C = j + n → HMat H o R C rs B →
    ∃ H',run E GP a117l1 { vars:=[MI R C A,Z k,.int .i64 i,.int .i64 j,.bool true,.u,MI R C A,Z k,.agg [.int .i64 0,.int .i64 0,.nl],HV o R R C],heap:=H,rs:=b } =
      some (.exit 2,{ vars:=[MI R C A,Z k,.int .i64 i,.int .i64 C,.bool true,.bool false,MI R C A,Z k,.agg [.int .i64 0,.int .i64 0,.nl],HV o R R C],heap:=H',rs:=b }) ∧
      HMat H' o R C rs (B.set i ((B.getD i []).take j ++ (x.drop j).map (· * k))) ∧ Fr rs H H':=by
  intro n
  induction n with
  | zero =>
    intro j H B b h hm
    have hj:j = C:=by omega
    subst hj
    have k1:¬ (j:Int) < (j:Int):=by omega
    refine ⟨H,?_,?_,Fr.refl _ _⟩
    · unfold MI HV
      rw [a117l1_run]
      simp (maxSteps:=1000000) only [si,simprocAttr,a117b1,a117R,k1]
    · have hw:=hm.wid i (by omega)
      rw [List.drop_of_length_le (by omega),List.map_nil,List.append_nil,List.take_of_length_le (by omega)]
      have:B.set i (B.getD i []) = B:=by
        have hlt:i < B.length:=by rw [hm.len]; omega
        simp [List.getD,hlt]
      rw [this]; exact hm
  | succ n ih =>
    intro j H B b h hm
    have hw:=hm.wid i (by omega)
    have hjC:j < C:=by omega
    have k1:(j:Int) < (C:Int):=by omega
    have wj:IntKind.i64.wrap ((j:Int) + 1) = ((j + 1:Nat):Int):=i64a (by omega)
    have hiR:(i:Int) < (R:Int):=by omega
    have g1:=rowsI_get (A:=A) (i:=i) (by omega)
    rw [hx] at g1
    have g2:=rowA_get (r:=x) (i:=j) (by omega)
    have hxj:Fit (x.getD j 0):=hfit _ (by simp [List.getD,show j < x.length by omega])
    have hmul:=fun H=>r1_mul hE (x.getD j 0) k H (by unfold Fit at hxj; omega) (by unfold Fit at hk; omega) (by unfold Fit at hxj hk; omega)
    have g3:=hm.top
    have g4:=tops_get (C:=C) (rs:=rs) (i:=i) (by omega)
    have g5:=hm.row i (by omega)
    have g6:=rowA_get (r:=B.getD i []) (i:=j) (by omega)
    have hset:=rowA_set (B.getD i []) j (x.getD j 0 * k)
    have hrow:=hm.setRow (i:=i) (by omega) (r:=(B.getD i []).set j (x.getD j 0 * k)) (by simpa using hw)
    obtain ⟨H',e1,e2,e3⟩:=ih (j + 1) _ _ b (by omega) hrow
    have hlt:i < B.length:=by rw [hm.len]; omega
    refine ⟨H',?_,?_,(Fr.set (getD_mem (by omega)) _).trans e3⟩
    · rw [← e1]
      unfold MI HV
      generalize x.getD j 0 = y at *
      conv=>lhs; rw [a117l1_run]
      simp (maxSteps:=1000000) only [si,simprocAttr,a117b1,a117R,k1,wj,hiR,g1,g2,g3,g4,g5,g6,hmul,hset]
    · rw [gets_self _ _ _ _ hlt,List.set_set,take_set_app _ _ _ (by omega)] at e2
      rw [List.append_assoc] at e2
      have:x.drop j = x.getD j 0 :: x.drop (j + 1):=by
        rw [List.drop_eq_getElem_cons (by omega)]; simp [List.getD,show j < x.length by omega]
      rw [this,List.map_cons]
      exact e2
theorem scale_outer (R C:Nat) (hR:R < 2147483648) (hC:C < 2147483648) (A:List (List Int)) (k:Int) (hk:Fit k) (o:Nat) (rs:List Nat) (hA:A.length = R) (hw:∀ i,i < R → (A.getD i []).length = C) (hfit:∀ i,i < R → ∀ y ∈ A.getD i [],Fit y) (hrs:rs.length = R) :
    ∀ (n i:Nat) (H:Heap) (B:List (List Int)) (b:Bool),R = i + n → HMat H o R C rs B →
    ∃ H',run E GP a117l0 { vars:=[MI R C A,Z k,.int .i64 i,.u,.u,.u,MI R C A,Z k,.agg [.int .i64 0,.int .i64 0,.nl],HV o R R C],heap:=H,rs:=b } =
      some (.exit 0,{ vars:=[MI R C A,Z k,.int .i64 R,.u,.bool false,.u,MI R C A,Z k,.agg [.int .i64 0,.int .i64 0,.nl],HV o R R C],heap:=H',rs:=b }) ∧
      HMat H' o R C rs (B.take i ++ (A.drop i).map (fun r=>r.map (· * k))) ∧ Fr rs H H':=by
  intro n
  induction n with
  | zero =>
    intro i H B b h hm
    have hi:i = R:=by omega
    subst hi
    have k1:¬ (i:Int) < (i:Int):=by omega
    refine ⟨H,?_,?_,Fr.refl _ _⟩
    · unfold MI HV
      rw [a117l0_run]
      simp (maxSteps:=1000000) only [si,simprocAttr,a117b0,a117R,k1]
    · rw [List.drop_of_length_le (by omega),List.map_nil,List.append_nil,List.take_of_length_le (by rw [hm.len]; omega)]; exact hm
  | succ n ih =>
    intro i H B b h hm
    have hiR:i < R:=by omega
    have k1:(i:Int) < (R:Int):=by omega
    have wi:IntKind.i64.wrap ((i:Int) + 1) = ((i + 1:Nat):Int):=i64a (by omega)
    obtain ⟨H1,d1,d2,d3⟩:=scale_inner hE R C hC A k hk o rs i hiR hA (A.getD i []) rfl (hw i hiR) (hfit i hiR) hrs C 0 H B false (by omega) hm
    rw [List.take_zero,List.nil_append,List.drop_zero] at d2
    obtain ⟨H',e1,e2,e3⟩:=ih (i + 1) H1 _ b (by omega) d2
    refine ⟨H',?_,?_,d3.trans e3⟩
    · rw [← e1]
      unfold MI HV at d1 ⊢
      simp only [Int.ofNat_zero] at d1
      conv=>lhs; rw [a117l0_run]
      simp (maxSteps:=1000000) only [si,simprocAttr,a117b0,a117R,k1,wi,d1]
    · rw [take_set_app _ _ _ (by rw [hm.len]; omega),List.append_assoc] at e2
      have:A.drop i = A.getD i [] :: A.drop (i + 1):=by
        rw [List.drop_eq_getElem_cons (by omega)]; simp [List.getD,show i < A.length by omega]
      rw [this,List.map_cons]
      exact e2
theorem r5_scale (R C:Nat) (hR:R < 2147483648) (hC:C < 2147483648) (A:List (List Int)) (k:Int) (hk:Fit k) (hA:A.length = R) (hw:∀ i,i < R → (A.getD i []).length = C) (hfit:∀ i,i < R → ∀ y ∈ A.getD i [],Fit y) (H:Heap) :
    ∃ H' b,call E GP 117 [MI R C A,Z k] H = some (HV H.length R R C,H',b) ∧ HMat H' H.length R C (news H.length R) (A.map fun r=>r.map (· * k)) ∧ H'.length = H.length + (1 + 2 * R) ∧ ∀ y,y < H.length → H'[y]? = H[y]?:=by
  rw [call_fun (hE _ _ _ (by decide)) (f:=a117) rfl rfl]
  obtain ⟨b,hb⟩:=r5_new hE R C hR hC H
  obtain ⟨H',e1,e2,e3⟩:=scale_outer hE R C hR hC A k hk H.length (news H.length R) hA hw hfit (news_len _ _) R 0 _ _ (false || b) (by omega) (newH_mat H R C)
  rw [List.take_zero,List.nil_append,List.drop_zero] at e2
  refine ⟨H',false || b,?_,e2,by rw [e3.1,List.length_append,newH_len],fun y hy=>?_⟩
  · have hmode:a117.mode = .keep:=rfl
    unfold MI HV at *
    simp only [Int.ofNat_zero] at e1
    simp (maxSteps:=1000000) only [hmode,si,simprocAttr,a117,a117R,hb]
    simp only [Bool.false_or] at e1
    simp (maxSteps:=1000000) only [si,simprocAttr,e1,a117R]
  · rw [e3.2 y (fun h=>by have:=mem_news h; omega),List.getElem?_append_left hy]
theorem r5_copied (R C:Nat) (hR:R < 2147483648) (hC:C < 2147483648) (A:List (List Int)) (hA:A.length = R) (hw:∀ i,i < R → (A.getD i []).length = C) (hfit:∀ i,i < R → ∀ y ∈ A.getD i [],Fit y) (H:Heap) :
    ∃ H' b,call E GP 108 [MI R C A] H = some (HV H.length R R C,H',b) ∧ HMat H' H.length R C (news H.length R) A ∧ H'.length = H.length + (1 + 2 * R) ∧ ∀ y,y < H.length → H'[y]? = H[y]?:=by
  rw [call_fun (hE _ _ _ (by decide)) (f:=a108) rfl rfl]
  obtain ⟨H',b,e1,e2,e3⟩:=r5_scale hE R C hR hC A 1 (by unfold Fit; decide) hA hw hfit H
  have hid:(A.map fun r=>r.map (· * 1)) = A:=by simp
  rw [hid] at e2
  refine ⟨H',false || b,?_,e2,e3⟩
  have h14:=fun H=>r1_of hE 1 H (by omega) (by omega)
  have hmode:a108.mode = .keep:=rfl
  unfold MI HV at *
  simp (maxSteps:=1000000) only [hmode,si,simprocAttr,a108,a108R,h14,e1]
def idRow (n i:Nat):List Int:=(List.replicate n 0).set i 1
def idMat (n:Nat):List (List Int):=(List.range n).map (idRow n)
theorem id_loop (R:Nat) (hR:R < 2147483648) (o:Nat) (rs:List Nat) (hrs:rs.length = R) :
    ∀ (n i:Nat) (H:Heap) (b:Bool),R = i + n → HMat H o R R rs ((List.range i).map (idRow R) ++ List.replicate n (List.replicate R 0)) →
    ∃ H',run E GP a109l0 { vars:=[.int .i64 R,.int .i64 i,.u,.agg [.int .i64 0,.int .i64 0,.nl],HV o R R R],heap:=H,rs:=b } =
      some (.exit 0,{ vars:=[.int .i64 R,.int .i64 R,.bool false,.agg [.int .i64 0,.int .i64 0,.nl],HV o R R R],heap:=H',rs:=b }) ∧
      HMat H' o R R rs (idMat R) ∧ Fr rs H H':=by
  intro n
  induction n with
  | zero =>
    intro i H b h hm
    have hi:i = R:=by omega
    subst hi
    have k1:¬ (i:Int) < (i:Int):=by omega
    refine ⟨H,?_,by simpa [idMat] using hm,Fr.refl _ _⟩
    unfold HV
    rw [a109l0_run]
    simp (maxSteps:=1000000) only [si,simprocAttr,a109b0,a109R,k1]
  | succ n ih =>
    intro i H b h hm
    have k1:(i:Int) < (R:Int):=by omega
    have wi:IntKind.i64.wrap ((i:Int) + 1) = ((i + 1:Nat):Int):=i64a (by omega)
    have g3:=hm.top
    have g4:=tops_get (C:=R) (rs:=rs) (i:=i) (by omega)
    have g5:=hm.row i (by omega)
    have hrow0:((List.range i).map (idRow R) ++ List.replicate (n + 1) (List.replicate R 0)).getD i [] = List.replicate R 0:=by
      simp only [List.getD]; rw [List.getElem?_append_right (by simp)]; simp
    rw [hrow0] at g5
    have g6:=rowA_get (r:=List.replicate R (0:Int)) (i:=i) (by simp; omega)
    have hset:=rowA_set (List.replicate R 0) i 1
    have h14:=fun H=>r1_of hE 1 H (by omega) (by omega)
    have hrow:=hm.setRow (i:=i) (by omega) (r:=idRow R i) (by simp [idRow])
    have hB:((List.range i).map (idRow R) ++ List.replicate (n + 1) (List.replicate R (0:Int))).set i (idRow R i) = (List.range (i + 1)).map (idRow R) ++ List.replicate n (List.replicate R 0):=by
      rw [List.set_append_right _ _ (by simp)]
      simp [List.range_succ,List.replicate_succ]
    rw [hB] at hrow
    obtain ⟨H',e1,e2,e3⟩:=ih (i + 1) _ b (by omega) hrow
    refine ⟨H',?_,e2,(Fr.set (getD_mem (by omega)) _).trans e3⟩
    rw [← e1]
    unfold HV idRow
    generalize (List.replicate R (0:Int)).getD i 0 = z at *
    conv=>lhs; rw [a109l0_run]
    simp (maxSteps:=1000000) only [si,simprocAttr,a109b0,a109R,k1,wi,g3,g4,g5,g6,h14,hset]
theorem r5_identity (R:Nat) (hR:R < 2147483648) (H:Heap) :
    ∃ H' b,call E GP 109 [.int .i64 R] H = some (HV H.length R R R,H',b) ∧ HMat H' H.length R R (news H.length R) (idMat R) ∧ H'.length = H.length + (1 + 2 * R) ∧ ∀ y,y < H.length → H'[y]? = H[y]?:=by
  rw [call_fun (hE _ _ _ (by decide)) (f:=a109) rfl rfl]
  obtain ⟨b,hb⟩:=r5_new hE R R hR hR H
  obtain ⟨H',e1,e2,e3⟩:=id_loop hE R hR H.length (news H.length R) (news_len _ _) R 0 _ b (by omega) (by simpa using newH_mat H R R)
  refine ⟨H',b,?_,e2,by rw [e3.1,List.length_append,newH_len],fun y hy=>?_⟩
  · have hmode:a109.mode = .keep:=rfl
    unfold HV at *
    simp only [Int.ofNat_zero] at e1
    simp (maxSteps:=1000000) only [hmode,si,simprocAttr,a109,a109R,hb,e1]
  · rw [e3.2 y (fun h=>by have:=mem_news h; omega),List.getElem?_append_left hy]
end Tor
namespace Tor
open Go
structure Wk (H:Heap) (R C:Nat) (rm ru rv:List Nat) (M U V:List (List Int)):Prop where
  mM:HMat H 0 R C rm M
  mU:HMat H (1 + 2 * R) R R ru U
  mV:HMat H (2 + 4 * R) R R rv V
  w:H[3 + 6 * R]? = some (.var (.agg [HV 0 R R C,HV (1 + 2 * R) R R R,HV (2 + 4 * R) R R R]))
  lM:rm.length = R
  lU:ru.length = R
  lV:rv.length = R
  sM:∀ r ∈ rm,0 < r ∧ r < 1 + 2 * R
  sU:∀ r ∈ ru,1 + 2 * R < r ∧ r < 2 + 4 * R
  sV:∀ r ∈ rv,2 + 4 * R < r ∧ r < 3 + 6 * R
theorem Wk.setM {H R C rm ru rv M U V} (h:Wk H R C rm ru rv M U V) {i:Nat} (hi:i < R) {r:List Int} (hr:r.length = C) :
    Wk (H.set (rm.getD i 0) (.arr 0 2 (rowA r))) R C rm ru rv (M.set i r) U V:=by
  have hx:=h.sM _ (getD_mem (rs:=rm) (i:=i) (by rw [h.lM]; exact hi))
  exact ⟨h.mM.setRow (by rw [h.lM]; exact hi) hr,h.mU.other (by omega) (fun e=>by have:=h.sU _ e; omega),h.mV.other (by omega) (fun e=>by have:=h.sV _ e; omega),
    by rw [List.getElem?_set_ne (by omega)]; exact h.w,h.lM,h.lU,h.lV,h.sM,h.sU,h.sV⟩
theorem Wk.setU {H R C rm ru rv M U V} (h:Wk H R C rm ru rv M U V) {i:Nat} (hi:i < R) {r:List Int} (hr:r.length = R) :
    Wk (H.set (ru.getD i 0) (.arr 0 2 (rowA r))) R C rm ru rv M (U.set i r) V:=by
  have hx:=h.sU _ (getD_mem (rs:=ru) (i:=i) (by rw [h.lU]; exact hi))
  exact ⟨h.mM.other (by omega) (fun e=>by have:=h.sM _ e; omega),h.mU.setRow (by rw [h.lU]; exact hi) hr,h.mV.other (by omega) (fun e=>by have:=h.sV _ e; omega),
    by rw [List.getElem?_set_ne (by omega)]; exact h.w,h.lM,h.lU,h.lV,h.sM,h.sU,h.sV⟩
theorem Wk.setV {H R C rm ru rv M U V} (h:Wk H R C rm ru rv M U V) {i:Nat} (hi:i < R) {r:List Int} (hr:r.length = R) :
    Wk (H.set (rv.getD i 0) (.arr 0 2 (rowA r))) R C rm ru rv M U (V.set i r):=by
  have hx:=h.sV _ (getD_mem (rs:=rv) (i:=i) (by rw [h.lV]; exact hi))
  exact ⟨h.mM.other (by omega) (fun e=>by have:=h.sM _ e; omega),h.mU.other (by omega) (fun e=>by have:=h.sU _ e; omega),h.mV.setRow (by rw [h.lV]; exact hi) hr,
    by rw [List.getElem?_set_ne (by omega)]; exact h.w,h.lM,h.lU,h.lV,h.sM,h.sU,h.sV⟩
theorem set_getD_self (M:List (List Int)) (i:Nat):M.set i (M.getD i []) = M:=by
  by_cases h:i < M.length
  · simp [List.getD,h]
  · rw [List.set_eq_of_length_le (by omega)]
theorem drop_cons (x:List Int) (j:Nat) (h:j < x.length):x.drop j = x.getD j 0 :: x.drop (j + 1):=by
  rw [List.drop_eq_getElem_cons h]; simp [List.getD,h]
def plusFrom (k:Int) (c:Nat) (x y:List Int):List Int:=x.take c ++ List.zipWith (fun a b=>a + k * b) (x.drop c) (y.drop c)
theorem plusFrom_end (k:Int) {c:Nat} {x y:List Int} (h:x.length ≤ c):plusFrom k c x y = x:=by
  simp [plusFrom,List.drop_of_length_le h,List.take_of_length_le h]
theorem plusFrom_step (k:Int) {c:Nat} {x y:List Int} (hx:c < x.length) (hy:c < y.length):plusFrom k (c + 1) (x.set c (x.getD c 0 + k * y.getD c 0)) y = plusFrom k c x y:=by
  unfold plusFrom
  rw [take_set_app _ _ _ hx,drop_cons x c hx,drop_cons y c hy,List.zipWith_cons_cons,List.append_assoc]
  simp [List.drop_set]
theorem fit_mul {a b:Int} (ha:Fit a) (hb:Fit b):(limbs (a * b).natAbs).length < 1073740001:=by
  have:=limbs_mul a.natAbs b.natAbs
  rw [← Int.natAbs_mul] at this
  unfold Fit at ha hb; omega
variable {E:CallF} (hE:Free E)
include hE
theorem r12_start (R C:Nat) (hR:R < 2147483648) (hC:C < 2147483648) (A:List (List Int)) (hA:A.length = R) (hw:∀ i,i < R → (A.getD i []).length = C) (hfit:∀ i,i < R → ∀ y ∈ A.getD i [],Fit y) :
    ∃ H b,call E GP 86 [MI R C A] [] = some (.ptr (3 + 6 * R) 0 [],H,b) ∧ Wk H R C (news 0 R) (news (1 + 2 * R) R) (news (2 + 4 * R) R) A (idMat R) (idMat R):=by
  rw [call_fun (hE _ _ _ (by decide)) (f:=a86) rfl rfl]
  obtain ⟨H1,b1,e1,m1,l1,f1⟩:=r5_copied hE R C hR hC A hA hw hfit []
  obtain ⟨H2,b2,e2,m2,l2,f2⟩:=r5_identity hE R hR H1
  obtain ⟨H3,b3,e3,m3,l3,f3⟩:=r5_identity hE R hR H2
  simp only [List.length_nil,Nat.zero_add] at e1 m1 l1
  rw [l1] at e2 m2 l2
  have l2':H2.length = 2 + 4 * R:=by omega
  rw [l2'] at e3 m3 l3
  have l3':H3.length = 3 + 6 * R:=by omega
  refine ⟨H3 ++ [.var (.agg [HV 0 R R C,HV (1 + 2 * R) R R R,HV (2 + 4 * R) R R R])],true,?_,?_⟩
  rotate_left
  · have h1:HMat H3 0 R C (news 0 R) A:=⟨by rw [f3 _ (by omega),f2 _ (by omega)]; exact m1.top,fun i hi=>by
      have:=mem_news (getD_mem hi)
      rw [f3 _ (by omega),f2 _ (by omega)]; exact m1.row i hi,m1.len,m1.wid,m1.nod,m1.off⟩
    have h2:HMat H3 (1 + 2 * R) R R (news (1 + 2 * R) R) (idMat R):=⟨by rw [f3 _ (by omega)]; exact m2.top,fun i hi=>by
      have:=mem_news (getD_mem hi)
      rw [f3 _ (by omega)]; exact m2.row i hi,m2.len,m2.wid,m2.nod,m2.off⟩
    exact ⟨h1.app _,h2.app _,m3.app _,by rw [List.getElem?_append_right (by omega),l3',Nat.sub_self]; rfl,news_len _ _,news_len _ _,news_len _ _,
      fun r hr=>by have:=mem_news hr; omega,fun r hr=>by have:=mem_news hr; omega,fun r hr=>by have:=mem_news hr; omega⟩
  · have hmode:a86.mode = .keep:=rfl
    unfold MI HV at *
    simp (maxSteps:=1000000) only [hmode,si,simprocAttr,a86,a86R,e1,e2,e3,doBox,l3',AV.hasRef,Bool.or_true,Bool.true_or,Bool.false_or]
end Tor
namespace Tor
open Go
variable {E:CallF} (hE:Free E)
include hE
theorem addTo_loop0 (R C:Nat) (hR:R < 2147483648) (hC:C < 2147483648) (rm ru rv:List Nat) (i j:Nat) (hi:i < R) (hj:j < R) (hij:i ≠ j) (k:Int) (hk:Fit k):∀ (n c:Nat) (H:Heap) (M U V:List (List Int)) (b:Bool),C = c + n →
    (∀ t,c ≤ t → t < C → Fit ((M.getD i []).getD t 0) ∧ Fit ((M.getD j []).getD t 0)) → Wk H R C rm ru rv M U V →
    ∃ H',run E GP a89l0 { vars:=[.ptr (3 + 6 * R) 0 [],.int .i64 i,.int .i64 j,Z k,.int .i64 c,.u,.u,.u,.u,.u,Z k],heap:=H,rs:=b } =
      some (.exit 0,{ vars:=[.ptr (3 + 6 * R) 0 [],.int .i64 i,.int .i64 j,Z k,.int .i64 C,.u,.u,.bool false,.u,.u,Z k],heap:=H',rs:=b }) ∧
      Wk H' R C rm ru rv (M.set i (plusFrom k c (M.getD i []) (M.getD j []))) U V ∧ H'.length = H.length:=by
  intro n
  induction n with
  | zero =>
    intro c H M U V b h hf hm
    have hc:c = C:=by omega
    subst hc
    have g0:=hm.w
    have k1:¬ (c:Int) < (c:Int):=by omega
    refine ⟨H,?_,?_,rfl⟩
    · unfold HV at g0
      rw [a89l0_run]
      simp (maxSteps:=1000000) only [si,simprocAttr,a89b0,a89R,g0,k1]
    · rw [plusFrom_end _ (by rw [hm.mM.wid i (by rw [hm.lM]; exact hi)]; exact Nat.le_refl _),set_getD_self]; exact hm
  | succ n ih =>
    intro c H M U V b h hf hm
    have g0:=hm.w
    have wi:=hm.mM.wid i (by rw [hm.lM]; exact hi)
    have wj:=hm.mM.wid j (by rw [hm.lM]; exact hj)
    have k1:(c:Int) < (C:Int):=by omega
    have wc:IntKind.i64.wrap ((c:Int) + 1) = ((c + 1:Nat):Int):=i64a (by omega)
    have hiR:(i:Int) < (R:Int):=by omega
    have hjR:(j:Int) < (R:Int):=by omega
    have g3:=hm.mM.top
    have g4:=tops_get (C:=C) (rs:=rm) (i:=i) (by rw [hm.lM]; exact hi)
    have g5:=tops_get (C:=C) (rs:=rm) (i:=j) (by rw [hm.lM]; exact hj)
    have g6:=hm.mM.row i (by rw [hm.lM]; exact hi)
    have g7:=hm.mM.row j (by rw [hm.lM]; exact hj)
    have g8:=rowA_get (r:=M.getD i []) (i:=c) (by omega)
    have g9:=rowA_get (r:=M.getD j []) (i:=c) (by omega)
    obtain ⟨fi,fj⟩:=hf c (Nat.le_refl _) (by omega)
    have hset:=rowA_set (M.getD i []) c ((M.getD i []).getD c 0 + k * (M.getD j []).getD c 0)
    have hrow:=hm.setM hi (r:=(M.getD i []).set c ((M.getD i []).getD c 0 + k * (M.getD j []).getD c 0)) (by simpa using wi)
    have hlt:i < M.length:=by rw [hm.mM.len,hm.lM]; exact hi
    have hfp:=fit_mul hk fj
    have hmul:=fun H=>r1_mul hE k ((M.getD j []).getD c 0) H (by unfold Fit at hk; omega) (by unfold Fit at fj; omega) (by unfold Fit at hk fj; omega)
    have hadd:=fun H=>r1_add hE ((M.getD i []).getD c 0) (k * (M.getD j []).getD c 0) H (by unfold Fit at fi; omega) (by omega)
    obtain ⟨H',e1,e2,e3⟩:=ih (c + 1) _ (M.set i ((M.getD i []).set c ((M.getD i []).getD c 0 + k * (M.getD j []).getD c 0))) U V b (by omega) (fun t h1 h2=>by
      rw [gets_self _ _ _ _ hlt,gets_ne _ _ _ _ _ hij,gets_ne _ _ _ _ _ (by omega)]
      exact hf t (by omega) h2) hrow
    refine ⟨H',?_,?_,by rw [e3]; simp⟩
    · rw [← e1]
      unfold HV at g0
      generalize (M.getD i []).getD c 0 = x at *
      generalize (M.getD j []).getD c 0 = y at *
      conv=>lhs; rw [a89l0_run]
      simp (maxSteps:=1000000) only [si,simprocAttr,a89b0,a89R,k1,wc,hiR,hjR,g0,g3,g4,g5,g6,g7,g8,g9,hmul,hadd,hset]
    · rw [gets_self _ _ _ _ hlt,List.set_set,gets_ne _ _ _ _ _ hij,plusFrom_step _ (by omega) (by omega)] at e2
      exact e2
theorem addTo_loop1 (R C:Nat) (hR:R < 2147483648) (hC:C < 2147483648) (rm ru rv:List Nat) (i j:Nat) (hi:i < R) (hj:j < R) (hij:i ≠ j) (k:Int) (hk:Fit k):∀ (n c:Nat) (H:Heap) (M U V:List (List Int)) (b:Bool),R = c + n →
    (∀ t,c ≤ t → t < R → Fit ((U.getD i []).getD t 0) ∧ Fit ((U.getD j []).getD t 0)) → Wk H R C rm ru rv M U V →
    ∃ H',run E GP a89l1 { vars:=[.ptr (3 + 6 * R) 0 [],.int .i64 i,.int .i64 j,Z k,.int .i64 C,.int .i64 c,.u,.bool false,.u,.u,Z k],heap:=H,rs:=b } =
      some (.exit 2,{ vars:=[.ptr (3 + 6 * R) 0 [],.int .i64 i,.int .i64 j,Z k,.int .i64 C,.int .i64 R,.u,.bool false,.bool false,.u,Z k],heap:=H',rs:=b }) ∧
      Wk H' R C rm ru rv M (U.set i (plusFrom k c (U.getD i []) (U.getD j []))) V ∧ H'.length = H.length:=by
  intro n
  induction n with
  | zero =>
    intro c H M U V b h hf hm
    have hc:c = R:=by omega
    subst hc
    have g0:=hm.w
    have k1:¬ (c:Int) < (c:Int):=by omega
    refine ⟨H,?_,?_,rfl⟩
    · unfold HV at g0
      rw [a89l1_run]
      simp (maxSteps:=1000000) only [si,simprocAttr,a89b1,a89R,g0,k1]
    · rw [plusFrom_end _ (by rw [hm.mU.wid i (by rw [hm.lU]; exact hi)]; exact Nat.le_refl _),set_getD_self]; exact hm
  | succ n ih =>
    intro c H M U V b h hf hm
    have g0:=hm.w
    have wi:=hm.mU.wid i (by rw [hm.lU]; exact hi)
    have wj:=hm.mU.wid j (by rw [hm.lU]; exact hj)
    have k1:(c:Int) < (R:Int):=by omega
    have wc:IntKind.i64.wrap ((c:Int) + 1) = ((c + 1:Nat):Int):=i64a (by omega)
    have hiR:(i:Int) < (R:Int):=by omega
    have hjR:(j:Int) < (R:Int):=by omega
    have g3:=hm.mU.top
    have g4:=tops_get (C:=R) (rs:=ru) (i:=i) (by rw [hm.lU]; exact hi)
    have g5:=tops_get (C:=R) (rs:=ru) (i:=j) (by rw [hm.lU]; exact hj)
    have g6:=hm.mU.row i (by rw [hm.lU]; exact hi)
    have g7:=hm.mU.row j (by rw [hm.lU]; exact hj)
    have g8:=rowA_get (r:=U.getD i []) (i:=c) (by omega)
    have g9:=rowA_get (r:=U.getD j []) (i:=c) (by omega)
    obtain ⟨fi,fj⟩:=hf c (Nat.le_refl _) (by omega)
    have hset:=rowA_set (U.getD i []) c ((U.getD i []).getD c 0 + k * (U.getD j []).getD c 0)
    have hrow:=hm.setU hi (r:=(U.getD i []).set c ((U.getD i []).getD c 0 + k * (U.getD j []).getD c 0)) (by simpa using wi)
    have hlt:i < U.length:=by rw [hm.mU.len,hm.lU]; exact hi
    have hfp:=fit_mul hk fj
    have hmul:=fun H=>r1_mul hE k ((U.getD j []).getD c 0) H (by unfold Fit at hk; omega) (by unfold Fit at fj; omega) (by unfold Fit at hk fj; omega)
    have hadd:=fun H=>r1_add hE ((U.getD i []).getD c 0) (k * (U.getD j []).getD c 0) H (by unfold Fit at fi; omega) (by omega)
    obtain ⟨H',e1,e2,e3⟩:=ih (c + 1) _ M (U.set i ((U.getD i []).set c ((U.getD i []).getD c 0 + k * (U.getD j []).getD c 0))) V b (by omega) (fun t h1 h2=>by
      rw [gets_self _ _ _ _ hlt,gets_ne _ _ _ _ _ hij,gets_ne _ _ _ _ _ (by omega)]
      exact hf t (by omega) h2) hrow
    refine ⟨H',?_,?_,by rw [e3]; simp⟩
    · rw [← e1]
      unfold HV at g0
      generalize (U.getD i []).getD c 0 = x at *
      generalize (U.getD j []).getD c 0 = y at *
      conv=>lhs; rw [a89l1_run]
      simp (maxSteps:=1000000) only [si,simprocAttr,a89b1,a89R,k1,wc,hiR,hjR,g0,g3,g4,g5,g6,g7,g8,g9,hmul,hadd,hset]
    · rw [gets_self _ _ _ _ hlt,List.set_set,gets_ne _ _ _ _ _ hij,plusFrom_step _ (by omega) (by omega)] at e2
      exact e2
def lessFrom (k:Int) (i j:Nat) (r:Nat) (V:List (List Int)):List (List Int):=V.take r ++ (V.drop r).map fun x=>x.set j (x.getD j 0 - k * x.getD i 0)
omit hE in
theorem lessFrom_step (k:Int) (i j r:Nat) (V:List (List Int)) (h:r < V.length):lessFrom k i j (r + 1) (V.set r ((V.getD r []).set j ((V.getD r []).getD j 0 - k * (V.getD r []).getD i 0))) = lessFrom k i j r V:=by
  unfold lessFrom
  rw [take_set_app _ _ _ h,List.append_assoc]
  have:V.drop r = V.getD r [] :: V.drop (r + 1):=by rw [List.drop_eq_getElem_cons h]; simp [List.getD,h]
  rw [this]
  simp [List.drop_set]
theorem addTo_loop2 (R C:Nat) (hR:R < 2147483648) (hC:C < 2147483648) (rm ru rv:List Nat) (i j:Nat) (hi:i < R) (hj:j < R) (hij:i ≠ j) (k:Int) (hk:Fit k):∀ (n c:Nat) (H:Heap) (M U V:List (List Int)) (b:Bool),R = c + n →
    (∀ t,c ≤ t → t < R → Fit ((V.getD t []).getD i 0) ∧ Fit ((V.getD t []).getD j 0)) → Wk H R C rm ru rv M U V →
    ∃ H',run E GP a89l2 { vars:=[.ptr (3 + 6 * R) 0 [],.int .i64 i,.int .i64 j,Z k,.int .i64 C,.int .i64 R,.int .i64 c,.bool false,.bool false,.u,Z k],heap:=H,rs:=b } =
      some (.exit 4,{ vars:=[.ptr (3 + 6 * R) 0 [],.int .i64 i,.int .i64 j,Z k,.int .i64 C,.int .i64 R,.int .i64 R,.bool false,.bool false,.bool false,Z k],heap:=H',rs:=b }) ∧
      Wk H' R C rm ru rv M U (lessFrom k i j c V) ∧ H'.length = H.length:=by
  intro n
  induction n with
  | zero =>
    intro c H M U V b h hf hm
    have hc:c = R:=by omega
    subst hc
    have g0:=hm.w
    have k1:¬ (c:Int) < (c:Int):=by omega
    refine ⟨H,?_,?_,rfl⟩
    · unfold HV at g0
      rw [a89l2_run]
      simp (maxSteps:=1000000) only [si,simprocAttr,a89b2,a89R,g0,k1]
    · have hl:V.length = c:=by rw [hm.mV.len,hm.lV]
      rw [lessFrom,List.drop_of_length_le (by omega),List.take_of_length_le (by omega),List.map_nil,List.append_nil]; exact hm
  | succ n ih =>
    intro c H M U V b h hf hm
    have g0:=hm.w
    have hcR:c < R:=by omega
    have wi:=hm.mV.wid c (by rw [hm.lV]; exact hcR)
    have k1:(c:Int) < (R:Int):=by omega
    have wc:IntKind.i64.wrap ((c:Int) + 1) = ((c + 1:Nat):Int):=i64a (by omega)
    have hiR:(i:Int) < (R:Int):=by omega
    have hjR:(j:Int) < (R:Int):=by omega
    have g3:=hm.mV.top
    have g4:=tops_get (C:=R) (rs:=rv) (i:=c) (by rw [hm.lV]; exact hcR)
    have g6:=hm.mV.row c (by rw [hm.lV]; exact hcR)
    have g8:=rowA_get (r:=V.getD c []) (i:=i) (by omega)
    have g9:=rowA_get (r:=V.getD c []) (i:=j) (by omega)
    obtain ⟨fi,fj⟩:=hf c (Nat.le_refl _) hcR
    have hset:=rowA_set (V.getD c []) j ((V.getD c []).getD j 0 - k * (V.getD c []).getD i 0)
    have hrow:=hm.setV hcR (r:=(V.getD c []).set j ((V.getD c []).getD j 0 - k * (V.getD c []).getD i 0)) (by simpa using wi)
    have hlt:c < V.length:=by rw [hm.mV.len,hm.lV]; exact hcR
    have hfp:=fit_mul hk fi
    have hmul:=fun H=>r1_mul hE k ((V.getD c []).getD i 0) H (by unfold Fit at hk; omega) (by unfold Fit at fi; omega) (by unfold Fit at hk fi; omega)
    have hsub:=fun H=>r1_sub hE ((V.getD c []).getD j 0) (k * (V.getD c []).getD i 0) H (by unfold Fit at fj; omega) (by omega)
    obtain ⟨H',e1,e2,e3⟩:=ih (c + 1) _ M U (V.set c ((V.getD c []).set j ((V.getD c []).getD j 0 - k * (V.getD c []).getD i 0))) b (by omega) (fun t h1 h2=>by
      rw [gets_ne _ _ _ _ _ (by omega)]
      exact hf t (by omega) h2) hrow
    refine ⟨H',?_,?_,by rw [e3]; simp⟩
    · rw [← e1]
      unfold HV at g0
      generalize (V.getD c []).getD i 0 = x at *
      generalize (V.getD c []).getD j 0 = y at *
      conv=>lhs; rw [a89l2_run]
      simp (maxSteps:=1000000) only [si,simprocAttr,a89b2,a89R,k1,wc,hiR,hjR,g0,g3,g4,g6,g8,g9,hmul,hsub,hset]
    · rw [lessFrom_step _ _ _ _ _ hlt] at e2
      exact e2
def addRow (M:List (List Int)) (i j:Nat) (k:Int):List (List Int):=M.set i (List.zipWith (fun a b=>a + k * b) (M.getD i []) (M.getD j []))
def subCol (V:List (List Int)) (i j:Nat) (k:Int):List (List Int):=V.map fun x=>x.set j (x.getD j 0 - k * x.getD i 0)
theorem r12_addTo (R C:Nat) (hR:R < 2147483648) (hC:C < 2147483648) (rm ru rv:List Nat) (i j:Nat) (hi:i < R) (hj:j < R) (hij:i ≠ j) (k:Int) (hk:Fit k) (H:Heap) (M U V:List (List Int))
    (fM:∀ t,t < C → Fit ((M.getD i []).getD t 0) ∧ Fit ((M.getD j []).getD t 0)) (fU:∀ t,t < R → Fit ((U.getD i []).getD t 0) ∧ Fit ((U.getD j []).getD t 0)) (fV:∀ t,t < R → Fit ((V.getD t []).getD i 0) ∧ Fit ((V.getD t []).getD j 0))
    (hm:Wk H R C rm ru rv M U V) :
    ∃ H',call E GP 89 [.ptr (3 + 6 * R) 0 [],.int .i64 i,.int .i64 j,Z k] H = some (.tup [],H',false) ∧ Wk H' R C rm ru rv (addRow M i j k) (addRow U i j k) (subCol V i j k) ∧ H'.length = H.length:=by
  rw [call_fun (hE _ _ _ (by decide)) (f:=a89) rfl rfl]
  obtain ⟨H1,d1,d2,d3⟩:=addTo_loop0 hE R C hR hC rm ru rv i j hi hj hij k hk C 0 H M U V false (by omega) (fun t _ h=>fM t h) hm
  obtain ⟨H2,e1,e2,e3⟩:=addTo_loop1 hE R C hR hC rm ru rv i j hi hj hij k hk R 0 H1 _ U V false (by omega) (fun t _ h=>fU t h) d2
  obtain ⟨H3,f1,f2,f3⟩:=addTo_loop2 hE R C hR hC rm ru rv i j hi hj hij k hk R 0 H2 _ _ V false (by omega) (fun t _ h=>fV t h) e2
  refine ⟨H3,?_,f2,by omega⟩
  have hmode:a89.mode = .keep:=rfl
  simp only [Int.ofNat_zero] at d1 e1 f1
  simp (maxSteps:=1000000) only [hmode,si,simprocAttr,a89,a89R,d1,e1,f1]
end Tor
