/-
  A part of the proof: an abstract machine for the program, its soundness, and what the functions compute (Bd6, Bd7, Bd8, Tab0, IntR, Tab, Up, TabS, Bd9, Frame, Bd10).
  Conditions: none.
-/
import Derived.Test.YthcbpifkgolknaaDoorM03
import Derived.Test.YthcbpifkgolknaaDoorM04
import Derived.Test.YthcbpifkgolknaaDoorM08
import Derived.Below
import Derived.RangeFuncOwn
import Derived.KernelRfl
import Derived.Carry
import Derived.ChangeShapes
set_option linter.unusedSectionVars false
set_option linter.unusedVariables false
set_option linter.unusedSimpArgs false
set_option linter.defProp false
namespace Tor
open Go
def prodI (l:List Int):Int:=l.foldl (· * ·) 1
theorem prodI_take (l:List Int) (i:Nat) (h:i < l.length):prodI (l.take (i + 1)) = prodI (l.take i) * l[i]:=by
  unfold prodI
  rw [List.take_succ_eq_append_getElem h,List.foldl_append]; rfl
theorem prodI_cons (x:Int) (l:List Int):prodI (x :: l) = x * prodI l:=by
  have key:∀ (l:List Int) (a b:Int),l.foldl (· * ·) (a * b) = a * l.foldl (· * ·) b:=by
    intro l
    induction l with
    | nil=>intro a b; rfl
    | cons y r ih=>intro a b; simp only [List.foldl_cons]; rw [Int.mul_assoc,ih]
  unfold prodI
  rw [List.foldl_cons,Int.one_mul]
  have:=key l x 1
  rwa [Int.mul_one] at this
theorem prodI_bd {m:Nat}:∀ l:List Int,(∀ x ∈ l,0 ≤ x ∧ x ≤ m) → 0 ≤ prodI l ∧ prodI l ≤ ((m ^ l.length:Nat):Int)
  | [],_=>by simp [prodI]
  | x :: r,h=>by
    obtain ⟨a1,a2⟩:=prodI_bd r fun y hy=>h y (.tail _ hy)
    obtain ⟨b1,b2⟩:=h x (.head _)
    rw [prodI_cons]
    refine ⟨Int.mul_nonneg b1 a1,?_⟩
    rw [List.length_cons,Nat.pow_succ,Nat.mul_comm,Int.natCast_mul]
    exact Int.mul_le_mul b2 a2 a1 (by omega)
theorem prodI_perm {l l':List Int} (h:l.Perm l'):prodI l = prodI l':=by
  induction h with
  | nil=>rfl
  | cons x _ ih=>rw [prodI_cons,prodI_cons,ih]
  | swap x y l=>rw [prodI_cons,prodI_cons,prodI_cons,prodI_cons,Int.mul_left_comm]
  | trans _ _ a b=>exact a.trans b
def UpR (p u:Nat):Prop:=p ≤ u * u ∧ ∀ v,p ≤ v * v → u ≤ v
theorem UpR.uniq {p u v:Nat} (h:UpR p u) (k:UpR p v):u = v:=Nat.le_antisymm (h.2 v k.1) (k.2 u h.1)
theorem up_root {p r:Nat} (h1:r * r ≤ p) (h2:p < (r + 1) * (r + 1)):UpR p (if r * r < p then r + 1 else r):=by
  split
  · rename_i h
    refine ⟨by omega,fun v hv=>?_⟩
    rcases Nat.lt_or_ge v (r + 1) with h3 | h3
    · have:v * v ≤ r * r:=Nat.mul_le_mul (by omega) (by omega)
      omega
    · exact h3
  · rename_i h
    have e:r * r = p:=by omega
    refine ⟨by omega,fun v hv=>?_⟩
    rcases Nat.lt_or_ge v r with h3 | h3
    · have:(v + 1) * (v + 1) ≤ r * r:=Nat.mul_le_mul (by omega) (by omega)
      have:v * v < (v + 1) * (v + 1):=Nat.mul_self_lt_mul_self (by omega)
      omega
    · exact h3
variable {E:CallF} (hE:Free E)
include hE
theorem i_rootL (L:List Int) (hL:∀ x ∈ L,0 ≤ x ∧ x ≤ 512) (h5:L.length ≤ 5):∃ u:Nat,UpR (prodI L).toNat u ∧ u ≤ 33554432 ∧ ∀ H,call E GP 157 [.isl (L.map Z)] H = some (Z u,H,false):=by
  have hbd:∀ l:List Int,(∀ x ∈ l,0 ≤ x ∧ x ≤ 512) → l.length ≤ 5 → 0 ≤ prodI l ∧ prodI l ≤ 35184372088832:=fun l h hl=>by
    obtain ⟨a1,a2⟩:=prodI_bd (m:=512) l h
    have h3:512 ^ l.length ≤ 512 ^ 5:=Nat.pow_le_pow_right (by decide) hl
    exact ⟨a1,by omega⟩
  have hsz:∀ l:List Int,(∀ x ∈ l,0 ≤ x ∧ x ≤ 512) → l.length ≤ 5 → Sz (prodI l):=fun l h hl=>by
    have:=hbd l h hl
    unfold Sz B32; omega
  let S:Nat → St:=fun i=>{ vars:=[.isl (L.map Z),.isl (L.map Z),.int .i64 (L.length:Nat),.int .i64 (i:Nat),.u,.u,zI,Z (prodI (L.take i)),.u,.u],heap:=[],rs:=false }
  have hstep:∀ i,i < L.length → run E GP a157l0 (S i) = run E GP a157l0 (S (i + 1)):=by
    intro i hi
    have hx:=hL _ (List.getElem_mem hi)
    have hc:=fun H=>b_mul hE (prodI (L.take i)) L[i] H (hsz _ (fun x h=>hL x (List.mem_of_mem_take h)) (by simp; omega)) (by unfold Sz B32; omega)
    rw [← prodI_take L i hi] at hc
    show run E GP a157l0 { vars:=_,heap:=_,rs:=_ } = run E GP a157l0 { vars:=_,heap:=_,rs:=_ }
    conv=>lhs; rw [a157l0_run]
    simp (maxSteps:=1000000) (disch:=first | omega | decide) only [si,sf,simprocAttr,a157b0,a157R,hi,hc]
  have hlp:=loop_ind S _ L.length hstep rfl
  obtain ⟨p,hp⟩:∃ p:Nat,prodI L = p:=⟨(prodI L).toNat,by have:=(hbd L hL h5).1; omega⟩
  have hp45:p ≤ 35184372088832:=by have:=(hbd L hL h5).2; omega
  have he:run E GP a157l0 (S L.length) = some (.exit 0,{ vars:=[.isl (L.map Z),.isl (L.map Z),.int .i64 (L.length:Nat),.int .i64 (L.length:Nat),.bool false,.u,zI,Z p,.u,.u],heap:=[],rs:=false }):=by
    show run E GP a157l0 { vars:=_,heap:=_,rs:=_ } = _
    rw [a157l0_run]
    simp (maxSteps:=1000000) (disch:=first | omega | decide) only [si,sf,simprocAttr,a157b0,a157R,Nat.lt_irrefl,hp]
  rw [he] at hlp
  have hlp:run E GP a157l0 { vars:=[.isl (L.map Z),.isl (L.map Z),.int .i64 (L.length:Nat),.int .i64 0,.u,.u,zI,Z 1,.u,.u],heap:=[],rs:=false } = some (.exit 0,{ vars:=[.isl (L.map Z),.isl (L.map Z),.int .i64 (L.length:Nat),.int .i64 (L.length:Nat),.bool false,.u,zI,Z p,.u,.u],heap:=[],rs:=false }):=hlp
  have hr:∃ r:Nat,r * r ≤ p ∧ p < (r + 1) * (r + 1) ∧ ∀ H,call E GP 167 [Z p] H = some (.tup [Z r,.int .i64 0],H,false):=by
    by_cases h0:p = 0
    · subst h0
      refine ⟨0,by decide,by decide,fun H=>?_⟩
      have e:Z ((0:Nat):Int) = .agg [.bool false,.isl []]:=rfl
      rw [e]
      rw [call_fun (hE _ _ _ (by decide)) (f:=a167) rfl rfl]
      have h00:((0:Nat):Int) = 0:=rfl
      simp (maxSteps:=1000000) (disch:=first | omega | decide) only [si,sf,simprocAttr,a167,a167R,h00]
    · exact i_root hE p (by omega) (by omega)
  obtain ⟨r,r1,r2,r3⟩:=hr
  have hr25:r ≤ 6000000:=by
    rcases Nat.lt_or_ge 6000000 r with h | h
    · have:=Nat.mul_le_mul h h; omega
    · exact h
  have hu:=up_root r1 r2
  have c1:=fun H=>i_of hE 1 H (by decide) (by decide)
  have c2:=fun H=>b_mul hE (r:Int) r H (by unfold Sz B32; omega) (by unfold Sz B32; omega)
  have hrr:(r:Int) * r = ((r * r:Nat):Int):=rfl
  rw [hrr] at c2
  have c3:=fun H=>b_cmp hE ((r * r:Nat):Int) p H (by unfold Sz B32; rw [Int.natAbs_natCast]; omega) (by unfold Sz B32; omega)
  have c4:=fun H=>b_add hE (r:Int) 1 H (by unfold Sz B32; omega) (by unfold Sz B32; decide)
  have h4:(r:Int) + 1 = ((r + 1:Nat):Int):=rfl
  rw [h4] at c4
  rw [hp,Int.toNat_natCast]
  unfold zI at hlp
  obtain ⟨q,hq⟩:∃ q,r * r = q:=⟨_,rfl⟩
  obtain ⟨t,ht⟩:∃ t,r + 1 = t:=⟨_,rfl⟩
  rw [hq] at hu c2 c3
  rw [ht] at hu c4
  obtain ⟨m,hm⟩:∃ m,L.map Z = m:=⟨_,rfl⟩
  obtain ⟨n,hn⟩:∃ n,L.length = n:=⟨_,rfl⟩
  have hmn:m.length = n:=by rw [← hm,List.length_map,hn]
  rw [hm,hn] at hlp
  rw [hm]
  by_cases hlt:q < p
  · rw [if_pos hlt] at hu
    refine ⟨t,hu,by omega,fun H=>?_⟩
    have h5:cmp3 (q:Int) (p:Int) < 0:=by unfold cmp3; rw [if_pos (by omega)]; decide
    rw [call_fun (hE _ _ _ (by decide)) (f:=a157) rfl rfl]
    simp (maxSteps:=1000000) (disch:=first | omega | decide) only [si,sf,simprocAttr,a157,a157R,c1,hmn,hlp,r3,c2,c3,c4,h5,Z_plain]
  · rw [if_neg hlt] at hu
    refine ⟨r,hu,by omega,fun H=>?_⟩
    have h5:¬ cmp3 (q:Int) (p:Int) < 0:=by unfold cmp3; rw [if_neg (by omega)]; split <;> decide
    rw [call_fun (hE _ _ _ (by decide)) (f:=a157) rfl rfl]
    simp (maxSteps:=1000000) (disch:=first | omega | decide) only [si,sf,simprocAttr,a157,a157R,c1,hmn,hlp,r3,c2,c3,c4,h5,Z_plain]
def lens (M:List (List Int)):List Int:=M.map fun r=>dotI r r
omit hE in
theorem dotI_self_nonneg:∀ r:List Int,0 ≤ dotI r r
  | []=>by simp [dotI]
  | x :: r=>by
    have:=dotI_self_nonneg r
    have h:0 ≤ x * x:=by
      rcases Int.le_total 0 x with h | h
      · exact Int.mul_nonneg h h
      · exact Int.mul_nonneg_of_nonpos_of_nonpos h h
    simp only [dotI]; omega
omit hE in
theorem lens_bd {M:List (List Int)} (hr:∀ r ∈ M,r.length ≤ 5 ∧ ∀ x ∈ r,x.natAbs ≤ 9):∀ z ∈ lens M,0 ≤ z ∧ z ≤ 405:=fun z hz=>by
  obtain ⟨r,h1,rfl⟩:=List.mem_map.1 hz
  have h2:=dotI_le (m:=9) r r (hr r h1).2 (hr r h1).2
  have:=dotI_self_nonneg r
  have:=(hr r h1).1
  omega
structure M5 (R C:Nat) (M:List (List Int)):Prop where
  len:M.length = R
  r5:R ≤ 5
  c5:C ≤ 5
  row:∀ r ∈ M,r.length = C ∧ ∀ x ∈ r,x.natAbs ≤ 9
theorem i_lengths (R C:Nat) (M:List (List Int)) (h:M5 R C M):∃ s:List Int,s.Perm (lens M) ∧ s.Pairwise (fun a b=>b ≤ a) ∧ ∀ H,call E GP 156 [MI R C M] H = some (.isl (s.map Z),H,false):=by
  have hlb:=lens_bd (M:=M) fun r hr=>⟨by rw [(h.row r hr).1]; exact h.c5,(h.row r hr).2⟩
  obtain ⟨s,s1,s2,s3⟩:=i_sort hE (lens M) (by simp [lens,h.len]; have:=h.r5; omega) (fun z hz=>by have:=hlb z hz; unfold Sz B32; omega)
  refine ⟨s,s1,s2,fun H=>?_⟩
  have hR:=h.r5
  let S:Nat → St:=fun i=>{ vars:=[MI R C M,.isl [],.sl 0 i 2 0 i,.u,.isl (rowsI M),.int .i64 (M.length:Nat),.int .i64 (i:Nat),.u,MI R C M],heap:=[.arr i 2 ((lens (M.take i)).map Z)],rs:=false }
  have hstep:∀ i,i < M.length → run E GP a156l0 (S i) = run E GP a156l0 (S (i + 1)):=by
    intro i hi
    have hrow:=h.row _ (List.getElem_mem hi)
    have hc:=fun H=>i_length hE M[i] (by rw [hrow.1]; have:=h.c5; omega) (fun x hx=>by have:=hrow.2 x hx; omega) H
    have e:(lens (M.take i)).map Z ++ [Z (dotI M[i] M[i])] = (lens (M.take (i + 1))).map Z:=by
      rw [List.take_succ_eq_append_getElem hi]; simp only [lens,List.map_append,List.map_cons,List.map_nil]
    have hw:IntKind.i64.wrap ((i:Int) + 1) = (i:Int) + 1:=i64w (by have:=h.len; omega)
    have hg:(rowsI M)[i]? = some (.isl (M[i].map Z)):=by simp [rowsI,rowA,hi]
    have hll:((lens (M.take i)).map Z).length = i:=by simp [lens]; omega
    obtain ⟨L,hL⟩:∃ L,(lens (M.take i)).map Z = L:=⟨_,rfl⟩
    rw [hL] at e hll
    have hmx:i + 1 ≤ maxLenA:=by unfold maxLenA; have:=h.len; omega
    show run E GP a156l0 { vars:=_,heap:=_,rs:=_ } = run E GP a156l0 { vars:=_,heap:=_,rs:=_ }
    rw [hL]
    conv=>lhs; rw [a156l0_run]
    simp (maxSteps:=1000000) (disch:=first | omega | decide) only [si,sf,simprocAttr,a156b0,a156R,hi,hg,hc,hll,hmx,e,hw,MI_under]
  have hlp:=loop_ind S _ M.length hstep rfl
  have he:run E GP a156l0 (S M.length) = some (.exit 0,{ vars:=[MI R C M,.isl [],.sl 0 M.length 2 0 M.length,.u,.isl (rowsI M),.int .i64 (M.length:Nat),.int .i64 (M.length:Nat),.bool false,MI R C M],heap:=[.arr M.length 2 ((lens M).map Z)],rs:=false }):=by
    show run E GP a156l0 { vars:=_,heap:=_,rs:=_ } = _
    rw [a156l0_run]
    simp (maxSteps:=1000000) (disch:=first | omega | decide) only [si,sf,simprocAttr,a156b0,a156R,Nat.lt_irrefl]
  rw [he] at hlp
  have hlp:run E GP a156l0 { vars:=[MI R C M,.isl [],.sl 0 0 2 0 0,.u,.isl (rowsI M),.int .i64 (M.length:Nat),.int .i64 0,.u,MI R C M],heap:=[.arr 0 2 []],rs:=false } = some (.exit 0,{ vars:=[MI R C M,.isl [],.sl 0 M.length 2 0 M.length,.u,.isl (rowsI M),.int .i64 (M.length:Nat),.int .i64 (M.length:Nat),.bool false,MI R C M],heap:=[.arr M.length 2 ((lens M).map Z)],rs:=false }):=hlp
  have hlL:(lens M).length = M.length:=by simp [lens]
  rw [hlL] at s3
  have hsl:s.length = M.length:=by rw [s1.length_eq,hlL]
  have hrl:(rowsI M).length = M.length:=by simp [rowsI]
  have hRl:(M.length:Int) = R:=by rw [h.len]
  have hf:=fun n H=>fl_fz (e:=Z) (n:=n) (H:=H) (k:=6) (l:=s) (by decide)
  have ht:(s.map Z).take M.length = s.map Z:=List.take_of_length_le (by simp [hsl])
  obtain ⟨n,hn⟩:∃ n,M.length = n:=⟨_,rfl⟩
  rw [hn] at hlp s3 hsl hrl ht
  have hmi:MI R C M = .agg [.int .i64 R,.int .i64 C,.isl (rowsI M)]:=rfl
  rw [hmi] at hlp ⊢
  rw [call_fun (hE _ _ _ (by decide)) (f:=a156) rfl rfl]
  simp (maxSteps:=1000000) (disch:=first | omega | decide) only [si,sf,simprocAttr,a156,a156R,hlp,hrl,s3,hsl,ht,hf]
theorem i_had (n:Nat) (M:List (List Int)) (h:M5 n n M):∃ u:Nat,UpR (prodI (lens M)).toNat u ∧ u ≤ 33554432 ∧ ∀ H,call E GP 132 [MI n n M] H = some (.tup [Z u,.int .i64 0],H,false):=by
  obtain ⟨s,s1,s2,s3⟩:=i_lengths hE n n M h
  have hlb:=lens_bd (M:=M) fun r hr=>⟨by rw [(h.row r hr).1]; exact h.c5,(h.row r hr).2⟩
  obtain ⟨u,u1,u2,u3⟩:=i_rootL hE s (fun x hx=>by have:=hlb x (s1.mem_iff.1 hx); omega) (by rw [s1.length_eq]; simp [lens,h.len]; exact h.r5)
  rw [prodI_perm s1] at u1
  refine ⟨u,u1,u2,fun H=>?_⟩
  have hmi:MI n n M = .agg [.int .i64 n,.int .i64 n,.isl (rowsI M)]:=rfl
  have hne:¬ ((n:Int) ≠ n):=by simp
  rw [hmi] at s3 ⊢
  rw [call_fun (hE _ _ _ (by decide)) (f:=a132) rfl rfl]
  simp (maxSteps:=1000000) (disch:=first | omega | decide) only [si,sf,simprocAttr,a132,a132R,hne,s3,u3,Z_plain]
theorem i_had_ne (R C:Nat) (M:List (List Int)) (hne:R ≠ C) (H:Heap):call E GP 132 [MI R C M] H = some (.tup [zI,.int .i64 50],H,false):=by
  have hmi:MI R C M = .agg [.int .i64 R,.int .i64 C,.isl (rowsI M)]:=rfl
  have hne':((R:Int) ≠ C):=by omega
  rw [hmi]
  rw [call_fun (hE _ _ _ (by decide)) (f:=a132) rfl rfl]
  simp (maxSteps:=1000000) (disch:=first | omega | decide) only [si,sf,simprocAttr,a132,a132R,hne']
theorem i_minor_le (R C:Nat) (M:List (List Int)) (k:Int) (hk:k ≤ 0) (H:Heap):call E GP 135 [MI R C M,.int .i64 k] H = some (Z 1,H,false):=by
  have c1:=fun H=>i_of hE 1 H (by decide) (by decide)
  have hmi:MI R C M = .agg [.int .i64 R,.int .i64 C,.isl (rowsI M)]:=rfl
  rw [hmi]
  rw [call_fun (hE _ _ _ (by decide)) (f:=a135) rfl rfl]
  simp (maxSteps:=1000000) (disch:=first | omega | decide) only [si,sf,simprocAttr,a135,a135R,hk,c1]
theorem i_minor_gt (R C:Nat) (M:List (List Int)) (k:Int) (hk:k > R) (H:Heap):call E GP 135 [MI R C M,.int .i64 k] H = some (zI,H,false):=by
  have hmi:MI R C M = .agg [.int .i64 R,.int .i64 C,.isl (rowsI M)]:=rfl
  have hk0:¬ (k ≤ 0):=by omega
  rw [hmi]
  rw [call_fun (hE _ _ _ (by decide)) (f:=a135) rfl rfl]
  simp (maxSteps:=1000000) (disch:=first | omega | decide) only [si,sf,simprocAttr,a135,a135R,hk0,hk]
theorem i_minor (R C:Nat) (M:List (List Int)) (h:M5 R C M) (k:Nat) (hk:0 < k) (hkR:k ≤ R):∃ (s:List Int) (u:Nat),s.Perm (lens M) ∧ s.Pairwise (fun a b=>b ≤ a) ∧ UpR (prodI (s.take k)).toNat u ∧ u ≤ 33554432 ∧
    ∀ H,call E GP 135 [MI R C M,.int .i64 (k:Nat)] H = some (Z u,H,false):=by
  obtain ⟨s,s1,s2,s3⟩:=i_lengths hE R C M h
  have hlb:=lens_bd (M:=M) fun r hr=>⟨by rw [(h.row r hr).1]; exact h.c5,(h.row r hr).2⟩
  have hsl:s.length = R:=by rw [s1.length_eq]; simp [lens,h.len]
  obtain ⟨u,u1,u2,u3⟩:=i_rootL hE (s.take k) (fun x hx=>by have:=hlb x (s1.mem_iff.1 (List.mem_of_mem_take hx)); omega) (by simp; have:=h.r5; omega)
  refine ⟨s,u,s1,s2,u1,u2,fun H=>?_⟩
  have hmi:MI R C M = .agg [.int .i64 R,.int .i64 C,.isl (rowsI M)]:=rfl
  have hk0:¬ ((k:Int) ≤ 0):=by omega
  have hk1:¬ ((k:Int) > R):=by omega
  have hks:(k:Int) ≤ (R:Int):=by omega
  have e1:(s.take k).map Z = (s.map Z).take k:=List.map_take ..
  rw [e1] at u3
  rw [hmi] at s3 ⊢
  rw [call_fun (hE _ _ _ (by decide)) (f:=a135) rfl rfl]
  simp (maxSteps:=1000000) (disch:=first | omega | decide) only [si,sf,simprocAttr,a135,a135R,hk0,hk1,s3,u3,hks,hsl,hkR,e1,List.drop_zero]
end Tor
namespace Tor
open Go
def rwI (r c:Int) (d:List Int):AV:=.agg [.int .u8 r,.int .u8 c,.isl (d.map bA)]
variable {E:CallF} (hE:Free E)
include hE
def szSt (X:AV) (R C i:Nat) (v5 v6 v9:AV) (H:Heap):St:={ vars:=[X,.int .i64 (R:Nat),.int .i64 (C:Nat),.ptr 0 0 [],.int .i64 (i:Nat),v5,v6,.u,.bool true,v9,.u,X,z46],heap:=H,rs:=false }
theorem sized_inner (r c:Int) (d:List Int) (hd:d.length ≤ 9223372036854775807) (hd8:∀ x ∈ d,-128 ≤ x ∧ x ≤ 127) (R C i:Nat) (hR:R ≤ 16) (hC:C ≤ 16) (hi:i < R) (H:Heap) :
    ∀ n j,C = j + n → run E GP a139l1 (szSt (rwI r c d) R C i (.sl H.length j 2 0 j) (.int .i64 (j:Nat)) .u (H ++ [.arr j 2 (((List.range j).map (fillAt d C i)).map Z)])) =
      some (.exit 2,szSt (rwI r c d) R C i (.sl H.length C 2 0 C) (.int .i64 (C:Nat)) (.bool false) (H ++ [.arr C 2 ((fillRow d C i).map Z)])):=by
  intro n
  induction n with
  | zero =>
    intro j h
    obtain rfl:C = j:=by omega
    unfold szSt rwI z46 fillRow
    rw [a139l1_run]
    simp (maxSteps:=1000000) (disch:=first | omega | decide) only [si,sf,simprocAttr,a139b1,a139R,Int.lt_irrefl]
  | succ n ih =>
    intro j h
    rw [← ih (j + 1) (by omega)]
    have k1:(j:Int) < (C:Int):=by omega
    have hmul:i * C ≤ 16 * 16:=Nat.mul_le_mul (by omega) hC
    have wm:IntKind.i64.wrap ((i:Int) * (C:Int)) = ((i * C:Nat):Int):=by
      rw [← Int.natCast_mul]; exact i64w (by omega)
    have wa:IntKind.i64.wrap (((i * C:Nat):Int) + (j:Int)) = ((i * C + j:Nat):Int):=by
      rw [← Int.natCast_add]; exact i64w (by omega)
    have wj:IntKind.i64.wrap ((j:Int) + 1) = (j:Int) + 1:=i64w (by omega)
    obtain ⟨m,hm⟩:∃ m,H.length = m:=⟨_,rfl⟩
    have hg:∀ a,(H ++ [a])[m]? = some a:=fun a=>by rw [← hm]; simp
    have hs:∀ a b,(H ++ [a]).set m b = H ++ [b]:=fun a b=>by rw [← hm,List.set_append_right _ _ (Nat.le_refl _)]; simp
    have hrow:((List.range j).map (fillAt d C i)).map Z ++ [Z (fillAt d C i j)] = ((List.range (j + 1)).map (fillAt d C i)).map Z:=by
      rw [List.range_succ]; simp
    have hll:(((List.range j).map (fillAt d C i)).map Z).length = j:=by simp
    obtain ⟨L,hL⟩:∃ L,((List.range j).map (fillAt d C i)).map Z = L:=⟨_,rfl⟩
    obtain ⟨L2,hL2⟩:∃ L2,((List.range (j + 1)).map (fillAt d C i)).map Z = L2:=⟨_,rfl⟩
    rw [hL] at hrow hll ⊢
    rw [hL2] at hrow ⊢
    rw [hm]
    have hmx:j + 1 ≤ maxLenA:=by unfold maxLenA; omega
    obtain ⟨q,hq⟩:∃ q,i * C + j = q:=⟨_,rfl⟩
    rw [hq] at wa
    have hf:fillAt d C i j = (d.getD q 0).tmod 10:=by unfold fillAt; rw [hq]
    rw [hf] at hrow
    by_cases hlt:q < d.length
    · have k2:(q:Int) < (d.length:Int):=by omega
      have g1:=bA_get hlt
      have hd1:=hd8 (d.getD q 0) (by simp [List.getD,hlt])
      have t1:=Int.tmod_lt_of_pos (d.getD q 0) (show (0:Int) < 10 by omega)
      have t2:-10 < (d.getD q 0).tmod 10:=by
        have:=Int.lt_tmod_of_pos (d.getD q 0) (show (0:Int) < 10 by omega); omega
      have wt:IntKind.i64.wrap ((d.getD q 0).tmod 10) = (d.getD q 0).tmod 10:=i64w (by omega)
      have h14:=fun H=>r1_of hE ((d.getD q 0).tmod 10) H (by omega) (by omega)
      generalize hdv:(d.getD q 0).tmod 10 = dv at *
      generalize d.getD q 0 = dw at *
      unfold szSt rwI z46
      conv=>lhs; rw [a139l1_run]
      simp (maxSteps:=1000000) (disch:=first | omega | decide) only [si,sf,simprocAttr,a139b1,a139R,k1,k2,wm,wa,wj,wt,g1,h14,hg,hs,hll,hrow,hmx,hdv]
    · have k2:¬ (q:Int) < (d.length:Int):=by omega
      have h0:d.getD q 0 = 0:=by rw [List.getD,List.getElem?_eq_none (by omega)]; rfl
      rw [h0] at hrow
      have h14:=fun H=>r1_of hE 0 H (by decide) (by decide)
      have hrow:L ++ [Z 0] = L2:=hrow
      unfold szSt rwI z46
      conv=>lhs; rw [a139l1_run]
      simp (maxSteps:=1000000) (disch:=first | omega | decide) only [si,sf,simprocAttr,a139b1,a139R,k1,k2,wm,wa,wj,h14,hg,hs,hll,hrow,hmx]
def szH (d:List Int) (R C:Nat):Nat → Heap
  | 0=>[.var (.agg [.int .i64 (R:Nat),.int .i64 (C:Nat),.nl])]
  | i + 1=>.var (.agg [.int .i64 (R:Nat),.int .i64 (C:Nat),.sl 2 i 1 0 (i + 1)]) :: .dead :: .arr i 1 (rowsI ((List.range (i + 1)).map (fillRow d C))) :: List.replicate i .dead
omit hE in
theorem rowI_hf (x:List Int):AV.isl (rowA x) = .isl (x.map Z):=rfl
theorem sized_outer (r c:Int) (d:List Int) (hd:d.length ≤ 9223372036854775807) (hd8:∀ x ∈ d,-128 ≤ x ∧ x ≤ 127) (R C:Nat) (hR:R ≤ 16) (hC:C ≤ 16) :
    ∀ n i b,R = i + n → ∃ b',run E GP a139l0 { vars:=[rwI r c d,.int .i64 (R:Nat),.int .i64 (C:Nat),.ptr 0 0 [],.int .i64 (i:Nat),.u,.u,.u,.u,.u,.u,rwI r c d,z46],heap:=szH d R C i,rs:=b } =
      some (.exit 0,{ vars:=[rwI r c d,.int .i64 (R:Nat),.int .i64 (C:Nat),.ptr 0 0 [],.int .i64 (R:Nat),.u,.u,.u,.bool false,.u,.u,rwI r c d,z46],heap:=szH d R C R,rs:=b' }):=by
  intro n
  induction n with
  | zero =>
    intro i b h
    obtain rfl:R = i:=by omega
    refine ⟨b,?_⟩
    unfold rwI z46
    rw [a139l0_run]
    simp (maxSteps:=1000000) (disch:=first | omega | decide) only [si,sf,simprocAttr,a139b0,a139R,Int.lt_irrefl]
  | succ n ih =>
    intro i b h
    have hi:i < R:=by omega
    obtain ⟨b',hb'⟩:=ih (i + 1) true (by omega)
    refine ⟨b',?_⟩
    rw [← hb']
    clear hb' ih
    have k1:(i:Int) < (R:Int):=by omega
    have wi:IntKind.i64.wrap ((i:Int) + 1) = (i:Int) + 1:=i64w (by omega)
    have hin:=sized_inner hE r c d hd hd8 R C i hR hC hi (szH d R C i) C 0 (by omega)
    have hin:run E GP a139l1 { vars:=[rwI r c d,.int .i64 (R:Nat),.int .i64 (C:Nat),.ptr 0 0 [],.int .i64 (i:Nat),.sl (szH d R C i).length 0 2 0 0,.int .i64 0,.u,.bool true,.u,.u,rwI r c d,z46],heap:=szH d R C i ++ [.arr 0 2 []],rs:=false } =
      some (.exit 2,{ vars:=[rwI r c d,.int .i64 (R:Nat),.int .i64 (C:Nat),.ptr 0 0 [],.int .i64 (i:Nat),.sl (szH d R C i).length C 2 0 C,.int .i64 (C:Nat),.u,.bool true,.bool false,.u,rwI r c d,z46],heap:=szH d R C i ++ [.arr C 2 ((fillRow d C i).map Z)],rs:=false }):=hin
    have hrl:((fillRow d C i).map Z).length = C:=by simp [fillRow]
    have ht:((fillRow d C i).map Z).take C = (fillRow d C i).map Z:=List.take_of_length_le (by omega)
    have href:=fl_ref (e:=Z) (fillRow d C i)
    obtain ⟨row,hrow⟩:∃ row,(fillRow d C i).map Z = row:=⟨_,rfl⟩
    rw [hrow] at hin hrl ht href
    have hmx:i + 1 ≤ maxLenA:=by unfold maxLenA; omega
    unfold rwI z46 at *
    cases i with
    | zero =>
      have e2:rowsI ((List.range (0 + 1)).map (fillRow d C)) = [.isl row]:=by simp [rowsI,List.range_succ,rowI_hf,hrow]
      simp only [szH,e2] at hin ⊢
      simp only [List.length_cons,List.length_nil,List.cons_append,List.nil_append,Nat.zero_add] at hin ⊢
      rw [show ((0:Nat):Int) = 0 from rfl] at hin k1
      conv=>lhs; rw [a139l0_run]
      simp (maxSteps:=1000000) (disch:=first | omega | decide) only [si,sf,simprocAttr,a139b0,a139R,k1,wi,hin,hrl,ht,href,hmx,List.replicate_zero,doFrz.eq_1,frzK.eq_1]
    | succ i =>
      have hg0:∀ a,(szH d R C (i + 1) ++ [a])[(szH d R C (i + 1)).length]? = some a:=fun a=>by simp
      have e2:rowsI ((List.range (i + 1)).map (fillRow d C)) ++ [.isl row] = rowsI ((List.range (i + 1 + 1)).map (fillRow d C)):=by
        rw [List.range_succ (n:=i + 1)]; simp [rowsI,rowI_hf,hrow]
      have hAl:(rowsI ((List.range (i + 1)).map (fillRow d C))).length = i + 1:=by simp [rowsI]
      have hD:List.replicate (i + 1) AObj.dead = List.replicate i .dead ++ [.dead]:=List.replicate_succ'
      have hgl:(szH d R C (i + 1)).length = 3 + i:=by simp [szH]; omega
      have hDl:(List.replicate i AObj.dead).length = i:=by simp
      simp only [szH] at hin ⊢
      rw [hD]
      obtain ⟨A,hA⟩:∃ A,rowsI ((List.range (i + 1)).map (fillRow d C)) = A:=⟨_,rfl⟩
      obtain ⟨A2,hA2⟩:∃ A2,rowsI ((List.range (i + 1 + 1)).map (fillRow d C)) = A2:=⟨_,rfl⟩
      obtain ⟨D,hDD⟩:∃ D,List.replicate i AObj.dead = D:=⟨_,rfl⟩
      rw [hA] at e2 hAl hin
      rw [hA2] at e2
      rw [hDD] at hin hDl
      rw [hA,hA2,hDD]
      obtain ⟨p,hp⟩:∃ p,i + 1 = p:=⟨_,rfl⟩
      rw [hp] at hin hAl k1 wi hmx
      rw [hp]
      obtain ⟨m,hm⟩:∃ m,i + 3 = m:=⟨_,rfl⟩
      have hml:∀ x y z:AObj,(x :: y :: z :: D).length = m:=fun x y z=>by simp [hDl]; omega
      have hg:∀ x y z a:AObj,(x :: y :: z :: (D ++ [a]))[m]? = some a:=fun x y z a=>by
        rw [← hm]; simp only [List.getElem?_cons_succ]
        rw [List.getElem?_append_right (by omega),hDl]; simp
      have hs:∀ x y z a b:AObj,(x :: y :: z :: (D ++ [a])).set m b = x :: y :: z :: (D ++ [b]):=fun x y z a b=>by
        rw [← hm]; simp only [List.set_cons_succ]
        rw [List.set_append_right _ _ (by omega),hDl]; simp
      rw [hml] at hin
      simp only [List.cons_append] at hin
      conv=>lhs; rw [a139l0_run]
      simp (maxSteps:=1000000) (disch:=first | omega | decide) only [si,sf,simprocAttr,a139b0,a139R,k1,wi,hin,hrl,ht,href,hmx,hml,hg,hs,hAl,e2,hp,List.cons_append,doFrz.eq_1,frzK.eq_1]
theorem i_sized (r c:Int) (d:List Int) (hd:d.length ≤ 9223372036854775807) (hd8:∀ x ∈ d,-128 ≤ x ∧ x ≤ 127) (R C:Nat) (hR:R ≤ 16) (hC:C ≤ 16) (H:Heap) :
    call E GP 139 [rwI r c d,.int .i64 (R:Nat),.int .i64 (C:Nat)] H = some (MI R C (filled d R C),H,false):=by
  obtain ⟨b',hlp⟩:=sized_outer hE r c d hd hd8 R C hR hC R 0 false (by omega)
  unfold MI
  rw [call_fun (hE _ _ _ (by decide)) (f:=a139) rfl rfl]
  unfold rwI z46 at *
  cases R with
  | zero =>
    have e:rowsI (filled d 0 C) = []:=rfl
    simp only [szH] at hlp
    rw [show ((0:Nat):Int) = 0 from rfl] at hlp ⊢
    rw [e]
    simp (maxSteps:=1000000) (disch:=first | omega | decide) only [si,sf,simprocAttr,a139,a139R,hlp]
  | succ i =>
    have hAl:(rowsI (filled d (i + 1) C)).length = i + 1:=by simp [rowsI,filled]
    have hf:∀ H k,(rowsI (filled d (i + 1) C)).map (fz 0 H (k + 3)) = rowsI (filled d (i + 1) C):=fun H k=>fz_rowsI 0 H k _
    have hr:=refs_rowsI (filled d (i + 1) C)
    have hs:=solids_rowsI (filled d (i + 1) C)
    have e0:szH d (i + 1) C (i + 1) = .var (.agg [.int .i64 ((i + 1:Nat):Int),.int .i64 (C:Nat),.sl 2 i 1 0 (i + 1)]) :: .dead :: .arr i 1 (rowsI (filled d (i + 1) C)) :: List.replicate i .dead:=rfl
    rw [e0] at hlp
    simp only [szH] at hlp
    rw [show ((0:Nat):Int) = 0 from rfl] at hlp
    obtain ⟨A,hA⟩:∃ A,rowsI (filled d (i + 1) C) = A:=⟨_,rfl⟩
    rw [hA] at hlp hAl hf hr hs ⊢
    obtain ⟨D,hDD⟩:∃ D,List.replicate i AObj.dead = D:=⟨_,rfl⟩
    rw [hDD] at hlp
    obtain ⟨p,hp⟩:∃ p,i + 1 = p:=⟨_,rfl⟩
    rw [hp] at hlp hAl ⊢
    have ht:A.take p = A:=List.take_of_length_le (by omega)
    simp (maxSteps:=1000000) (disch:=first | omega | decide) only [si,sf,simprocAttr,a139,a139R,hlp,hAl,hf,hr,hs,ht]
theorem i_made6 (r c n:Nat) (hr:r ≤ 255) (hc:c ≤ 255) (hn:n ≤ 15) (d:List Int) (hd:d.length ≤ 9223372036854775807) (hd8:∀ x ∈ d,-128 ≤ x ∧ x ≤ 127) (H:Heap) :
    call E GP 131 [rwI r c d,.int .i64 (n:Nat)] H = some (MI (r % (n + 1)) (c % (n + 1)) (filled d (r % (n + 1)) (c % (n + 1))),H,false):=by
  have h1:=Nat.mod_lt r (show 0 < n + 1 by omega)
  have h2:=Nat.mod_lt c (show 0 < n + 1 by omega)
  have hs:=fun H=>i_sized hE r c d hd hd8 (r % (n + 1)) (c % (n + 1)) (by omega) (by omega) H
  have w1:IntKind.i64.wrap (r:Int) = r:=i64w (by omega)
  have w2:IntKind.i64.wrap (c:Int) = c:=i64w (by omega)
  have w3:IntKind.i64.wrap ((n:Int) + 1) = ((n + 1:Nat):Int):=by rw [show (n:Int) + 1 = ((n + 1:Nat):Int) from rfl]; exact i64w (by omega)
  have t1:(r:Int).tmod ((n + 1:Nat):Int) = ((r % (n + 1):Nat):Int):=by rw [Int.tmod_eq_emod_of_nonneg (by omega)]; rfl
  have t2:(c:Int).tmod ((n + 1:Nat):Int) = ((c % (n + 1):Nat):Int):=by rw [Int.tmod_eq_emod_of_nonneg (by omega)]; rfl
  have g0:¬ (((n + 1:Nat):Int) = 0):=by omega
  obtain ⟨R,hR⟩:∃ R,r % (n + 1) = R:=⟨_,rfl⟩
  obtain ⟨C,hC⟩:∃ C,c % (n + 1) = C:=⟨_,rfl⟩
  rw [hR] at hs t1 ⊢
  rw [hC] at hs t2 ⊢
  obtain ⟨p,hp⟩:∃ p,n + 1 = p:=⟨_,rfl⟩
  rw [hp] at w3 t1 t2 g0
  have hz:(MI R C (filled d R C)).size = 3:=by simp [MI,AV.size,AV.sizes]
  have hk:(MI R C (filled d R C)).known = true:=rfl
  have ha:(MI R C (filled d R C)).isA = true:=rfl
  have hf:∀ n H k,fz n H (k + 4) (MI R C (filled d R C)) = MI R C (filled d R C):=fun n H k=>by
    simp only [MI,fz,List.map_cons,List.map_nil]
  obtain ⟨M,hM⟩:∃ M,MI R C (filled d R C) = M:=⟨_,rfl⟩
  have hso:=MI_solid R C (filled d R C)
  have href:=MI_ref R C (filled d R C)
  have hun:=MI_under R C (filled d R C)
  rw [hM] at hs hz hk ha hf hso href hun ⊢
  unfold rwI at *
  rw [call_fun (hE _ _ _ (by decide)) (f:=a131) rfl rfl]
  simp (maxSteps:=1000000) (disch:=first | omega | decide) only [si,sf,simprocAttr,a131,a131R,hs,w1,w2,w3,t1,t2,g0,hz,hk,ha,hf,hso,href,hun]
theorem r1_cmp (m n:Int) (H:Heap) (hm:Sz m) (hn:Sz n):call E GP 143 [Z m,Z n] H = some (.int .i64 (m - n).sign,H,false):=by
  have c1:=fun H=>r1_sub hE m n H (by have:=hm.len; omega) (by have:=hn.len; omega)
  have c2:=fun H=>r1_sign hE (m - n) H
  rw [call_fun (hE _ _ _ (by decide)) (f:=a143) rfl rfl]
  simp (maxSteps:=1000000) (disch:=first | omega | decide) only [si,sf,simprocAttr,a143,a143R,c1,c2]
omit hE in
theorem filled_M5 (d:List Int) (R C:Nat) (hR:R ≤ 5) (hC:C ≤ 5):M5 R C (filled d R C) where
  len:=by simp [filled]
  r5:=hR
  c5:=hC
  row r hr:=by
    obtain ⟨i,_,rfl⟩:=List.mem_map.1 hr
    refine ⟨by simp [fillRow],fun x hx=>?_⟩
    obtain ⟨j,_,rfl⟩:=List.mem_map.1 hx
    unfold fillAt
    have t1:=Int.tmod_lt_of_pos (d.getD (i * C + j) 0) (show (0:Int) < 10 by omega)
    have t2:-10 < (d.getD (i * C + j) 0).tmod 10:=by
      have:=Int.lt_tmod_of_pos (d.getD (i * C + j) 0) (show (0:Int) < 10 by omega); omega
    omega
end Tor
namespace Tor
open Go
theorem sq_nonneg' (x:Int):0 ≤ x * x:=by
  rcases Int.le_total 0 x with h | h
  · exact Int.mul_nonneg h h
  · exact Int.mul_nonneg_of_nonpos_of_nonpos h h
theorem dotI_one:∀ (r:List Int) (k:Nat),k < r.length → r.getD k 0 * r.getD k 0 ≤ dotI r r
  | x :: r,0,_=>by
    have:=dotI_self_nonneg r
    simp only [dotI,List.getD_cons_zero]; omega
  | x :: r,k + 1,h=>by
    have h1:=dotI_one r k (by simpa using h)
    have:=sq_nonneg' x
    simp only [dotI,List.getD_cons_succ]; omega
theorem dotI_two:∀ (r:List Int) (l k:Nat),l < k → k < r.length → r.getD l 0 * r.getD l 0 + r.getD k 0 * r.getD k 0 ≤ dotI r r
  | x :: r,0,k + 1,_,h=>by
    have h1:=dotI_one r k (by simpa using h)
    simp only [dotI,List.getD_cons_succ,List.getD_cons_zero]; omega
  | x :: r,l + 1,k + 1,hl,h=>by
    have h1:=dotI_two r l k (by omega) (by simpa using h)
    have:=sq_nonneg' x
    simp only [dotI,List.getD_cons_succ]; omega
theorem cs2 (a a' b b':Int):(a * b' - a' * b) * (a * b' - a' * b) ≤ (a * a + a' * a') * (b * b + b' * b'):=by
  have e:(a * a + a' * a') * (b * b + b' * b') = (a * b' - a' * b) * (a * b' - a' * b) + (a * b + a' * b') * (a * b + a' * b'):=by grind
  have:=sq_nonneg' (a * b + a' * b')
  omega
theorem abs_le_of_sq {x:Int} {u:Nat} (h:x * x ≤ (u:Int) * u):x.natAbs ≤ u:=by
  rcases Nat.lt_or_ge u x.natAbs with h1 | h1
  · have h2:u * u < x.natAbs * x.natAbs:=Nat.mul_self_lt_mul_self h1
    have h3:(x.natAbs:Int) * x.natAbs = x * x:=Int.natAbs_mul_self
    have h4:((u * u:Nat):Int) < ((x.natAbs * x.natAbs:Nat):Int):=by omega
    rw [Int.natCast_mul,Int.natCast_mul] at h4
    omega
  · exact h1
theorem top_one {s L:List Int} {x:Int} (hp:s.Perm L) (hs:s.Pairwise (fun a b=>b ≤ a)) (hx:x ∈ L):x ≤ prodI (s.take 1):=by
  have h:=hp.mem_iff.2 hx
  cases s with
  | nil=>cases h
  | cons s0 t =>
    have:prodI ((s0 :: t).take 1) = s0:=by simp [prodI]
    rw [this]
    cases h with
    | head=>exact Int.le_refl _
    | tail _ h=>exact (List.pairwise_cons.1 hs).1 x h
theorem eraseIdx_perm:∀ (L:List Int) (j:Nat) (h:j < L.length),(L[j] :: L.eraseIdx j).Perm L
  | x :: r,0,_=>List.Perm.refl _
  | x :: r,j + 1,h=>by
    have ih:=eraseIdx_perm r j (by simpa using h)
    simp only [List.getElem_cons_succ,List.eraseIdx_cons_succ]
    exact (List.Perm.swap _ _ _).trans (List.Perm.cons _ ih)
theorem two_of {L:List Int} {i j:Nat} (hj:j < L.length) (hi:i < L.length) (hij:i ≠ j):∃ rest,L.Perm (L[j] :: L[i] :: rest):=by
  have h1:(L[j] :: L.eraseIdx j).Perm L:=eraseIdx_perm L j hj
  have h2:L[i] ∈ L.eraseIdx j:=List.mem_eraseIdx_iff_getElem.2 ⟨i,hi,by omega,rfl⟩
  exact ⟨_,h1.symm.trans (List.Perm.cons _ (List.perm_cons_erase h2))⟩
theorem top_two {s L:List Int} {i j:Nat} (hp:s.Perm L) (hs:s.Pairwise (fun a b=>b ≤ a)) (h0:∀ x ∈ L,0 ≤ x) (hj:j < L.length) (hi:i < L.length) (hij:i ≠ j):L[i] * L[j] ≤ prodI (s.take 2):=by
  obtain ⟨rest,hr⟩:=two_of hj hi hij
  have hxi:=h0 _ (List.getElem_mem hi)
  have hxj:=h0 _ (List.getElem_mem hj)
  obtain ⟨x,hx⟩:∃ x,L[j] = x:=⟨_,rfl⟩
  obtain ⟨y,hy⟩:∃ y,L[i] = y:=⟨_,rfl⟩
  rw [hx] at hr hxj ⊢
  rw [hy] at hr hxi ⊢
  have hq:=hp.trans hr
  have h0s:∀ x ∈ s,0 ≤ x:=fun x h=>h0 x (hp.mem_iff.1 h)
  match s,hq,hs,h0s with
  | [],hq,_,_=>have:=hq.length_eq; simp at this
  | [a],hq,_,_=>have:=hq.length_eq; simp at this
  | s0 :: s1 :: t,hq,hs,h0s =>
    have e:prodI ((s0 :: s1 :: t).take 2) = s0 * s1:=by simp [prodI]
    rw [e]
    obtain ⟨p1,p2⟩:=List.pairwise_cons.1 hs
    obtain ⟨p3,_⟩:=List.pairwise_cons.1 p2
    have hs0:=h0s s0 (.head _)
    have hs1:=h0s s1 (.tail _ (.head _))
    have hy0:∀ z ∈ s0 :: s1 :: t,z ≤ s0:=fun z h=>by
      cases h with
      | head=>exact Int.le_refl _
      | tail _ h=>exact p1 z h
    have hy1:∀ z ∈ s1 :: t,z ≤ s1:=fun z h=>by
      cases h with
      | head=>exact Int.le_refl _
      | tail _ h=>exact p3 z h
    have hxs:x ∈ s0 :: s1 :: t:=hq.mem_iff.2 (.head _)
    have hys:y ∈ s0 :: s1 :: t:=hq.mem_iff.2 (.tail _ (.head _))
    by_cases hxe:x = s0
    · subst hxe
      have h3:=hq.cons_inv
      have hy':y ≤ s1:=hy1 y (h3.mem_iff.2 (.head _))
      rw [Int.mul_comm]
      exact Int.mul_le_mul (Int.le_refl _) hy' hxi hs0
    · have hx':x ≤ s1:=by
        cases hxs with
        | head=>exact absurd rfl hxe
        | tail _ h=>exact hy1 x h
      exact Int.mul_le_mul (hy0 y hys) hx' hxj hs0
def el (M:List (List Int)) (i k:Nat):Int:=(M.getD i []).getD k 0
section
variable {R C:Nat} {M:List (List Int)} (h:M5 R C M)
include h
theorem M5.lens_get (i:Nat) (hi:i < R):(lens M)[i]'(by simp [lens,h.len,hi]) = dotI (M.getD i []) (M.getD i []):=by
  have:i < M.length:=by rw [h.len]; exact hi
  simp [lens,List.getD,this]
theorem M5.rowlen (i:Nat) (hi:i < R):(M.getD i []).length = C:=by
  have:i < M.length:=by rw [h.len]; exact hi
  simp only [List.getD,List.getElem?_eq_getElem this,Option.getD_some]
  exact (h.row _ (List.getElem_mem this)).1
theorem M5.el9 (i k:Nat) (hi:i < R) (hk:k < C):(el M i k).natAbs ≤ 9:=by
  have hm:i < M.length:=by rw [h.len]; exact hi
  have hl:=h.rowlen i hi
  have hr:M.getD i [] ∈ M:=by simp [List.getD,hm]
  have:(M.getD i [])[k]'(by omega) ∈ M.getD i []:=List.getElem_mem _
  unfold el
  rw [List.getD_eq_getElem?_getD (l:=M.getD i []),List.getElem?_eq_getElem (by omega),Option.getD_some]
  exact (h.row _ hr).2 _ this
theorem M5.one_le {s:List Int} {o:Nat} (hp:s.Perm (lens M)) (hs:s.Pairwise (fun a b=>b ≤ a)) (hu:UpR (prodI (s.take 1)).toNat o) (i k:Nat) (hi:i < R) (hk:k < C):(el M i k).natAbs ≤ o:=by
  have hll:i < (lens M).length:=by simp [lens,h.len,hi]
  have h1:el M i k * el M i k ≤ (lens M)[i]:=by rw [h.lens_get i hi]; exact dotI_one _ k (by rw [h.rowlen i hi]; exact hk)
  have h2:=top_one hp hs (List.getElem_mem hll)
  have h3:=hu.1
  refine abs_le_of_sq ?_
  have:((o * o:Nat):Int) = (o:Int) * o:=rfl
  omega
theorem M5.two_le {s:List Int} {t:Nat} (hp:s.Perm (lens M)) (hs:s.Pairwise (fun a b=>b ≤ a)) (hu:UpR (prodI (s.take 2)).toNat t) (i k j l:Nat) (hi:i < R) (hk:k < C) (hj:j < i) (hl:l < k) :
    (el M i k * el M j l - el M i l * el M j k).natAbs ≤ t:=by
  have hli:i < (lens M).length:=by simp [lens,h.len,hi]
  have hlj:j < (lens M).length:=by omega
  have h1:el M i l * el M i l + el M i k * el M i k ≤ (lens M)[i]:=by rw [h.lens_get i hi]; exact dotI_two _ l k hl (by rw [h.rowlen i hi]; exact hk)
  have h1':el M j l * el M j l + el M j k * el M j k ≤ (lens M)[j]:=by rw [h.lens_get j (by omega)]; exact dotI_two _ l k hl (by rw [h.rowlen j (by omega)]; exact hk)
  have h0:∀ x ∈ lens M,0 ≤ x:=fun x hx=>by
    obtain ⟨r,_,rfl⟩:=List.mem_map.1 hx; exact dotI_self_nonneg r
  have h2:=top_two hp hs h0 hlj hli (by omega)
  have h3:=hu.1
  have h4:=cs2 (el M i k) (el M i l) (el M j k) (el M j l)
  have h5:(el M i k * el M i k + el M i l * el M i l) * (el M j k * el M j k + el M j l * el M j l) ≤ (lens M)[i] * (lens M)[j] :=
    Int.mul_le_mul (by omega) (by omega) (by have:=sq_nonneg' (el M j k); have:=sq_nonneg' (el M j l); omega) (h0 _ (List.getElem_mem _))
  refine abs_le_of_sq ?_
  have:((t * t:Nat):Int) = (t:Int) * t:=rfl
  omega
end
end Tor
namespace Tor
open Go
def befGo (pr:Nat → Bool):Nat → Nat
  | 0=>0
  | n + 1=>if n + 1 ≤ 2 then 0 else if pr n then n else befGo pr n
theorem befGo_lt (pr:Nat → Bool):∀ n,befGo pr n ≠ 0 → befGo pr n < n
  | 0,h=>absurd rfl h
  | n + 1,h=>by
    unfold befGo at h ⊢
    split
    · rename_i h2; rw [if_pos h2] at h; exact absurd rfl h
    · rename_i h2
      rw [if_neg h2] at h
      split
      · omega
      · rename_i h3; rw [if_neg h3] at h
        have:=befGo_lt pr n h
        omega
def belowGo (pr:Nat → Bool):Nat → Nat → List Nat
  | 0,_=>[]
  | k + 1,n=>if befGo pr n = 0 then [] else befGo pr n :: belowGo pr k (befGo pr n)
theorem belowGo_len (pr:Nat → Bool):∀ k n,(belowGo pr k n).length ≤ k
  | 0,_=>Nat.zero_le _
  | k + 1,n=>by
    unfold belowGo; split
    · exact Nat.zero_le _
    · have:=belowGo_len pr k (befGo pr n); simp; omega
theorem belowGo_end (pr:Nat → Bool):∀ k j n,n ≤ k → belowGo pr (k + j) n = belowGo pr k n
  | 0,j,n,h=>by
    obtain rfl:n = 0:=by omega
    cases j with
    | zero=>rfl
    | succ j=>simp [belowGo,befGo]
  | k + 1,j,n,h=>by
    rw [show k + 1 + j = k + j + 1 by omega]
    simp only [belowGo]
    split
    · rfl
    · rename_i h0
      have:=befGo_lt pr n h0
      rw [belowGo_end pr k j _ (by omega)]
def allBelow (pr:Nat → Bool) (n:Nat):List Nat:=belowGo pr n n
theorem allBelow_eq (pr:Nat → Bool) (n:Nat):allBelow pr n = if befGo pr n = 0 then [] else befGo pr n :: allBelow pr (befGo pr n):=by
  unfold allBelow
  cases n with
  | zero=>simp [belowGo,befGo]
  | succ n =>
    simp only [belowGo]
    split
    · rfl
    · rename_i h0
      have:=befGo_lt pr _ h0
      obtain ⟨j,hj⟩:∃ j,n = befGo pr (n + 1) + j:=⟨n - befGo pr (n + 1),by omega⟩
      rw [show belowGo pr n (befGo pr (n + 1)) = belowGo pr (befGo pr (n + 1) + j) (befGo pr (n + 1)) by rw [← hj],belowGo_end pr _ _ _ (Nat.le_refl _)]
theorem allBelow_len (pr:Nat → Bool) (n:Nat):(allBelow pr n).length ≤ n:=belowGo_len pr n n
theorem allBelow_take (pr:Nat → Bool):∀ k n,(allBelow pr n).take k = belowGo pr k n
  | 0,n=>by simp [belowGo]
  | k + 1,n=>by
    rw [allBelow_eq]
    simp only [belowGo]
    split
    · rfl
    · rw [List.take_succ_cons,allBelow_take pr k]
def needGo (b:Int):Int → List Nat → Option (List Nat)
  | _,[]=>none
  | z,p :: r=>if z * p > 2 * b then some [p] else (needGo b (z * p) r).map (p :: ·)
def needRes (pr:Nat → Bool) (b:Int) (m:Nat):List Nat:=if 1 > 2 * b then [] else (needGo b 1 (allBelow pr (min m 2147483648))).getD []
end Tor
namespace Tor
open Go Go.RowKit
def IntR (A:Nat → Prop) (W:World) (v:Value) (z:Int):Prop :=
  ∃ a cap,v = .agg #[.bool (decide (z < 0)),.slice a (limbs z.natAbs).length cap] ∧
    ((limbs z.natAbs).length = 0 ∨ ∃ b off,a = some ⟨b,off,none⟩ ∧ A b ∧ (limbs z.natAbs).length ≤ cap ∧ ∀ (i:Nat) (x:Value),((limbs z.natAbs).map fun n:Nat=>Value.int .u32 (n:Int))[i]? = some x → W.cell? ⟨b,off + i,none⟩ = some x)
theorem IntR.keep {A:Nat → Prop} {W W':World} {v:Value} {z:Int} (h:IntR A W v z) (hk:∀ b o,A b → W.heap[b]? = some o → o.isCells = true → W'.heap[b]? = W.heap[b]?):IntR A W' v z:=by
  obtain ⟨a,cap,rfl,h⟩:=h
  refine ⟨a,cap,rfl,?_⟩
  rcases h with h | ⟨b,off,rfl,hA,hc,h⟩
  · exact .inl h
  · by_cases h0:(limbs z.natAbs).length = 0
    · exact .inl h0
    · refine .inr ⟨b,off,rfl,hA,hc,fun i x hx=>?_⟩
      have h1:=h i x hx
      obtain ⟨o,ho,hoc⟩:=cells_of_cell h1
      exact (World.cell?_of_block (hk b o hA ho hoc)).trans h1
theorem IntR.mono {A A':Nat → Prop} {W:World} {v:Value} {z:Int} (h:IntR A W v z) (hk:∀ b,A b → A' b):IntR A' W v z:=by
  obtain ⟨a,cap,rfl,h⟩:=h
  refine ⟨a,cap,rfl,h.imp id ?_⟩
  rintro ⟨b,off,rfl,hA,hc,h⟩
  exact ⟨b,off,rfl,hk _ hA,hc,h⟩
theorem IntR.below {A:Nat → Prop} {W W':World} {v:Value} {z:Int} (h:IntR A W v z) (hb:Below W.heap.size W W'):IntR A W' v z :=
  h.keep fun b o _ ho _=>hb.block b (Array.getElem?_eq_some_iff.1 ho).1
theorem IntR.shape {A:Nat → Prop} {W:World} {v:Value} {z:Int} (h:IntR A W v z):∃ s a n c,v = .agg #[.bool s,.slice a n c]:=by
  obtain ⟨a,c,rfl,_⟩:=h; exact ⟨_,_,_,_,rfl⟩
theorem IntR.restrict {A:Nat → Prop} {W:World} {v:Value} {z:Int} (h:IntR A W v z):IntR (fun x=>A x ∧ x < W.heap.size) W v z:=by
  obtain ⟨a,cap,rfl,h⟩:=h
  refine ⟨a,cap,rfl,?_⟩
  rcases h with h | ⟨b,off,rfl,hA,hc,h⟩
  · exact .inl h
  · by_cases h0:(limbs z.natAbs).length = 0
    · exact .inl h0
    · have hl:0 < (limbs z.natAbs).length:=by omega
      have h1:=h 0 _ (List.getElem?_eq_getElem (by simpa using hl))
      obtain ⟨o,ho,_⟩:=cells_of_cell h1
      exact .inr ⟨b,off,rfl,⟨hA,(Array.getElem?_eq_some_iff.1 ho).1⟩,hc,h⟩
def QTw (w:World):Prop:=∀ i,i < 64 → w.cell? ⟨0,i,none⟩ = some (.int .u8 (tzTab.getD i 0))
structure NeedC (P:Program) (f1 f2 f3:FuncId) (b:Int):Prop where
  one:∀ W,QTw W → Calls P f1 #[.int .i64 1] W fun e W'=>∃ v,e = .returned v ∧ IntR (fun x=>x = 0 ∨ W.heap.size ≤ x) W' v 1 ∧ Below W.heap.size W W'
  times:∀ A W v z (p:Nat),QTw W → A 0 → IntR A W v z → (∀ x,A x → x < W.heap.size) → 1 ≤ z → z ≤ 2 * b → 1 ≤ p → p ≤ 2147483648 → Calls P f2 #[v,.int .u64 p] W fun e W'=>∃ v',e = .returned v' ∧ IntR (fun x=>A x ∨ W.heap.size ≤ x) W' v' (z * p) ∧ Below W.heap.size W W'
  gt:∀ A W v z bv,QTw W → A 0 → 1 ≤ z → z ≤ 2 * b * 2147483648 ∨ z = 1 → IntR A W v z → IntR A W bv b → (∀ x,A x → x < W.heap.size) → Calls P f3 #[v,bv] W fun e W'=>e = .returned (.bool (decide (z > 2 * b))) ∧ Below W.heap.size W W'
end Tor
namespace Tor
open Go Go.RowKit
def getU32:AV → Option Nat
  | .int .u32 n=>if 0 ≤ n ∧ n < 4294967296 then some n.toNat else none
  | _=>none
def getLs:List AV → Option (List Nat)
  | []=>some []
  | x :: r=>match getU32 x,getLs r with
    | some d,some l=>some (d :: l)
    | _,_=>none
def lastOk:List Nat → Bool
  | []=>true
  | d :: r=>match r with
    | []=>decide (d ≠ 0)
    | _=>lastOk r
def getZ:AV → Option Int
  | .agg [.bool s,.isl l]=>match getLs l with
    | some ns=>if lastOk ns = true ∧ (s = true → ns ≠ []) then some (if s then -(val ns:Int) else (val ns:Int)) else none
    | none=>none
  | _=>none
theorem getU32_eq {x d} (h:getU32 x = some d):x = limbA d ∧ d < B32:=by
  unfold getU32 at h
  split at h
  · split at h
    · rename_i n hn
      cases h
      unfold limbA B32
      exact ⟨by rw [Int.toNat_of_nonneg hn.1],by omega⟩
    · cases h
  · cases h
theorem getLs_eq:∀ {l ns},getLs l = some ns → l = ns.map limbA ∧ ∀ d ∈ ns,d < B32
  | [],ns,h=>by cases h; exact ⟨rfl,fun d hd=>(by cases hd)⟩
  | x :: r,ns,h=>by
    simp only [getLs] at h
    split at h
    · rename_i d l h1 h2
      cases h
      obtain ⟨a1,a2⟩:=getU32_eq h1
      obtain ⟨b1,b2⟩:=getLs_eq h2
      refine ⟨by rw [a1,b1]; rfl,fun q hq=>?_⟩
      cases hq with
      | head=>exact a2
      | tail _ hq=>exact b2 q hq
    · cases h
theorem lastOk_eq:∀ {ns:List Nat},lastOk ns = true → ∀ h:ns ≠ [],ns.getLast h ≠ 0
  | [],_,h=>absurd rfl h
  | [d],h,_=>by simpa [lastOk] using h
  | d :: e :: r,h,_=>by
    rw [List.getLast_cons (by simp)]
    exact lastOk_eq (ns:=e :: r) h (by simp)
theorem getZ_eq {x b} (h:getZ x = some b):x = Z b:=by
  unfold getZ at h
  split at h
  · rename_i s l
    split at h
    · rename_i ns hns
      split at h
      · rename_i hh
        obtain ⟨h1,h2⟩:=getLs_eq hns
        have hl:=limbs_val ns h2 (lastOk_eq hh.1)
        have hp:ns ≠ [] → 0 < val ns:=fun hne=>val_pos_of_last ns hne (lastOk_eq hh.1 hne)
        cases s with
        | false =>
          cases h
          simp only [Bool.false_eq_true,if_false]
          unfold Z
          rw [Int.natAbs_natCast,hl,h1]
          have:decide ((val ns:Int) < 0) = false:=decide_eq_false (by omega)
          rw [this]
        | true =>
          cases h
          have hp:=hp (hh.2 rfl)
          simp only [if_true]
          unfold Z
          rw [Int.natAbs_neg,Int.natAbs_natCast,hl,h1]
          have:decide (-(val ns:Int) < 0) = true:=decide_eq_true (by omega)
          rw [this]
      · cases h
    · cases h
  · cases h
def tzCall (H:Heap):List AV → Option (AV × Heap × Bool)
  | [.int .u64 n]=>if 0 ≤ n ∧ n < 18446744073709551616 then some (.int .i64 (tzF n.toNat:Nat),H,false) else none
  | _=>none
def befCall (H:Heap):List AV → Option (AV × Heap × Bool)
  | [.int .u64 n]=>if 0 ≤ n ∧ n < 18446744073709551616 then some (uA (befGo primeF (min n.toNat 2147483648)),H,false) else none
  | _=>none
def priCall (H:Heap):List AV → Option (AV × Heap × Bool)
  | [.int .u64 n,.int .i64 k]=>if 0 ≤ n ∧ n < 18446744073709551616 then some (.isl ((belowGo primeF k.toNat (min n.toNat 2147483648)).map uA),H,false) else none
  | _=>none
def needK (H:Heap) (n:Int):Option Int → Option (AV × Heap × Bool)
  | some b=>if 0 ≤ n ∧ n < 18446744073709551616 ∧ b.natAbs < B32 ^ 8 then some (.isl ((needRes primeF b n.toNat).map uA),H,false) else none
  | none=>none
def needCall (H:Heap):List AV → Option (AV × Heap × Bool)
  | [x,.int .u64 n]=>needK H n (getZ x)
  | _=>none
def ET:CallF:=fun g args H=>if g = 207 then tzCall H args else none
def EB:CallF:=fun g args H=>if g = 207 then tzCall H args else if g = 178 then befCall H args else if g = 147 then priCall H args else if g = 152 then needCall H args else none
theorem tzCall_nat (n:Nat) (hn:n < 18446744073709551616) (H:Heap):tzCall H [.int .u64 (n:Int)] = some (.int .i64 (tzF n:Nat),H,false):=by
  have h:0 ≤ (n:Int) ∧ (n:Int) < 18446744073709551616:=⟨by omega,by omega⟩
  unfold tzCall
  split
  · rename_i m heq
    simp only [List.cons.injEq,AV.int.injEq,true_and,and_true] at heq
    subst heq
    rw [if_pos h,Int.toNat_natCast]
  · rename_i hne
    exact absurd rfl (hne n)
theorem freeT_ET:FreeT ET where
  tz n H hn:=by
    unfold ET
    rw [if_pos rfl]
    exact tzCall_nat n hn H
  no g hg a H:=by
    unfold ET
    rw [if_neg]
    rintro rfl
    simp at hg
theorem tzCall_inv {H args r H' b} (h:tzCall H args = some (r,H',b)):H' = H ∧ b = false ∧ ∃ n:Nat,n < 18446744073709551616 ∧ args = [.int .u64 (n:Int)] ∧ r = .int .i64 (tzF n:Nat):=by
  unfold tzCall at h
  split at h
  · split at h
    · rename_i n hn
      cases h
      exact ⟨rfl,rfl,n.toNat,by omega,by rw [Int.toNat_of_nonneg hn.1],rfl⟩
    · cases h
  · cases h
theorem befCall_inv {H args r H' b} (h:befCall H args = some (r,H',b)):H' = H ∧ b = false ∧ ∃ n:Nat,n < 18446744073709551616 ∧ args = [.int .u64 (n:Int)] ∧ r = uA (befGo primeF (min n 2147483648)):=by
  unfold befCall at h
  split at h
  · split at h
    · rename_i n hn
      cases h
      exact ⟨rfl,rfl,n.toNat,by omega,by rw [Int.toNat_of_nonneg hn.1],rfl⟩
    · cases h
  · cases h
theorem priCall_inv {H args r H' b} (h:priCall H args = some (r,H',b)):H' = H ∧ b = false ∧ ∃ (n:Nat) (k:Int),n < 18446744073709551616 ∧ args = [.int .u64 (n:Int),.int .i64 k] ∧ r = .isl ((belowGo primeF k.toNat (min n 2147483648)).map uA):=by
  unfold priCall at h
  split at h
  · split at h
    · rename_i n k hn
      cases h
      exact ⟨rfl,rfl,n.toNat,k,by omega,by rw [Int.toNat_of_nonneg hn.1],rfl⟩
    · cases h
  · cases h
theorem needCall_inv {H args r H' b} (h:needCall H args = some (r,H',b)):H' = H ∧ b = false ∧ ∃ (n:Nat) (z:Int),n < 18446744073709551616 ∧ z.natAbs < B32 ^ 8 ∧ args = [Z z,.int .u64 (n:Int)] ∧ r = .isl ((needRes primeF z n).map uA):=by
  unfold needCall at h
  split at h
  · rename_i x n
    cases hz:getZ x with
    | none=>rw [hz] at h; cases h
    | some z =>
      rw [hz] at h
      simp only [needK] at h
      split at h
      · rename_i hn
        cases h
        exact ⟨rfl,rfl,n.toNat,z,by omega,hn.2.2,by rw [getZ_eq hz,Int.toNat_of_nonneg hn.1],rfl⟩
      · cases h
  · cases h
theorem ET_inv {g args H r H' b} (h:ET g args H = some (r,H',b)):H' = H ∧ b = false ∧ g = 207 ∧ tzCall H args = some (r,H',b):=by
  unfold ET at h
  split at h
  · rename_i hg
    obtain ⟨a1,a2,_⟩:=tzCall_inv h
    exact ⟨a1,a2,hg,h⟩
  · cases h
theorem EB_inv {g args H r H' b} (h:EB g args H = some (r,H',b)):H' = H ∧ b = false:=by
  unfold EB at h
  split at h
  · obtain ⟨a1,a2,_⟩:=tzCall_inv h; exact ⟨a1,a2⟩
  · split at h
    · obtain ⟨a1,a2,_⟩:=befCall_inv h; exact ⟨a1,a2⟩
    · split at h
      · obtain ⟨a1,a2,_⟩:=priCall_inv h; exact ⟨a1,a2⟩
      · split at h
        · obtain ⟨a1,a2,_⟩:=needCall_inv h; exact ⟨a1,a2⟩
        · cases h
theorem tzCall_heap {H H2 args}:tzCall H2 args = (tzCall H args).map fun x=>(x.1,H2,x.2.2):=by
  unfold tzCall; split
  · split <;> rfl
  · rfl
theorem befCall_heap {H H2 args}:befCall H2 args = (befCall H args).map fun x=>(x.1,H2,x.2.2):=by
  unfold befCall; split
  · split <;> rfl
  · rfl
theorem priCall_heap {H H2 args}:priCall H2 args = (priCall H args).map fun x=>(x.1,H2,x.2.2):=by
  unfold priCall; split
  · split <;> rfl
  · rfl
theorem needCall_heap {H H2 args}:needCall H2 args = (needCall H args).map fun x=>(x.1,H2,x.2.2):=by
  unfold needCall; split
  · rename_i x n
    cases getZ x with
    | none=>rfl
    | some z=>simp only [needK]; split <;> rfl
  · rfl
theorem ET_heap {g args H H2}:ET g args H2 = (ET g args H).map fun x=>(x.1,H2,x.2.2):=by
  unfold ET; split
  · exact tzCall_heap
  · rfl
theorem EB_heap {g args H H2}:EB g args H2 = (EB g args H).map fun x=>(x.1,H2,x.2.2):=by
  unfold EB; split
  · exact tzCall_heap
  · split
    · exact befCall_heap
    · split
      · exact priCall_heap
      · split
        · exact needCall_heap
        · rfl
theorem ET_pure {pureF:Nat → Bool}:PureC pureF ET:=fun g _ args H r H' b h=>by
  obtain ⟨rfl,rfl,_,_⟩:=ET_inv h
  exact ⟨rfl,rfl,fun H2=>by rw [ET_heap (H:=H'),h]; rfl⟩
theorem EB_pure {pureF:Nat → Bool}:PureC pureF EB:=fun g _ args H r H' b h=>by
  obtain ⟨rfl,rfl⟩:=EB_inv h
  exact ⟨rfl,rfl,fun H2=>by rw [EB_heap (H:=H'),h]; rfl⟩
theorem ET_keeps:CKeeps ET:=by
  intro g a H x H' b h _
  obtain ⟨rfl,_⟩:=ET_inv h
  exact Keeps.refl _
theorem EB_keeps:CKeeps EB:=by
  intro g a H x H' b h _
  obtain ⟨rfl,_⟩:=EB_inv h
  exact Keeps.refl _
end Tor
namespace Tor
open Go
theorem call_up {GP:Nat → Option AFun} {E E':CallF} (h:∀ g a H r,E g a H = some r → E' g a H = some r) (hn:∀ g a H,E g a H = none → E' g a H = none ∨ GP g = none):CLe (call E GP) (call E' GP):=by
  have key:∀ n,RLe (runN E GP n) (runN E' GP n) ∧ CLe (callN E GP n) (callN E' GP n):=by
    intro n
    induction n with
    | zero=>exact ⟨fun c st r e=>(by rw [runN] at e; cases e),fun g a H r e=>(by rw [callN] at e; cases e)⟩
    | succ n ih =>
      refine ⟨fun c st r e=>?_,fun g a H r e=>?_⟩
      · rw [runN] at e ⊢; exact stepRun_mono ih.2 ih.1 _ _ _ e
      · rw [callN] at e ⊢
        have e2:=stepCall_mono ih.1 _ _ _ _ e
        unfold stepCall at e2 ⊢
        cases h1:E g a H with
        | some q=>rw [h1] at e2; rw [h g a H q h1]; exact e2
        | none =>
          rw [h1] at e2
          rcases hn g a H h1 with hg | hg
          · rw [hg]; exact e2
          · simp only [callE] at e2
            rw [hg] at e2
            cases e2
  intro g a H r h
  obtain ⟨n,hn⟩:=call_ex h
  exact call_of ((key n).2 _ _ _ _ hn)
def E0:CallF:=fun _ _ _=>none
theorem up_ET:CLe (call E0 GP) (call ET GP):=call_up (fun g a H r h=>by cases h) fun g a H _=>by
  unfold ET
  split
  · rename_i hg; subst hg; exact .inr rfl
  · exact .inl rfl
theorem up_EB:CLe (call ET GP) (call EB GP):=call_up (fun g a H r h=>by
    obtain ⟨_,_,rfl,_⟩:=ET_inv h
    unfold ET at h
    unfold EB
    rw [if_pos rfl] at h ⊢
    exact h) fun g a H h=>by
  unfold ET at h
  unfold EB
  split
  · rename_i hg; rw [if_pos hg] at h; exact .inl h
  · split
    · rename_i hg; subst hg; exact .inr rfl
    · split
      · rename_i hg; subst hg; exact .inr rfl
      · split
        · rename_i hg; subst hg; exact .inr rfl
        · exact .inl rfl
end Tor
namespace Tor
open Go Go.RowKit
theorem hE0:Free E0:=fun _ _ _ _=>rfl
theorem m_times (z:Int) (p:Nat) (H:Heap) (hz:z.natAbs < B32 ^ 10) (hp:p ≤ 2147483648):call E0 GP 164 [Z z,.int .u64 (p:Int)] H = some (Z (z * p),H,false):=by
  rw [call_fun rfl (f:=a164) rfl rfl]
  have h1:=fun H=>i_of hE0 (p:Int) H (by omega) (by omega)
  have hlp:(limbs ((p:Int)).natAbs).length ≤ 1:=limbs_len_lt (by rw [Int.natAbs_natCast]; simp only [B32]; omega)
  have hlz:(limbs z.natAbs).length ≤ 10:=limbs_len_lt hz
  have h2:=fun H=>i_mul hE0 z p H (by omega) (by omega)
  have hw:IntKind.i64.wrap (p:Int) = p:=i64w' (by omega)
  simp (maxSteps:=1000000) (disch:=first | omega | decide) only [si,sf,simprocAttr,a164,a164R,h1,h2,hw]
theorem m_gt (z b:Int) (H:Heap) (hz:z.natAbs < B32 ^ 10) (hb:b.natAbs < B32 ^ 10):call E0 GP 165 [Z z,Z b] H = some (.bool (decide (z > 2 * b)),H,false):=by
  rw [call_fun rfl (f:=a165) rfl rfl]
  have hlz:(limbs z.natAbs).length ≤ 10:=limbs_len_lt hz
  have hlb:(limbs b.natAbs).length ≤ 10:=limbs_len_lt hb
  have hl2:(limbs (b + b).natAbs).length ≤ 11:=limbs_len_lt (by simp only [B32] at hb ⊢; omega)
  have h1:=fun H=>i_add hE0 b b H (by omega) (by omega)
  have h2:=fun H=>i_cmp hE0 z (b + b) H (by omega) (by omega)
  have hc:decide (cmp3 z (b + b) > 0) = decide (z > 2 * b):=by
    unfold cmp3
    split
    · rw [decide_eq_false (by omega),decide_eq_false (by omega)]
    · split
      · rw [decide_eq_true (by omega),decide_eq_true (by omega)]
      · rw [decide_eq_false (by omega),decide_eq_false (by omega)]
  simp (maxSteps:=1000000) (disch:=first | omega | decide) only [si,sf,simprocAttr,a165,a165R,h1,h2,hc]
theorem limbRow (C:Cx):∀ (l:List Nat),Rcl C (l.map limbA) (l.map fun d:Nat=>[Value.int .u32 (d:Int)])
  | []=>by simp [Rcl]
  | d :: r=>by simp only [List.map_cons,Rcl,limbA,Rc]; exact ⟨_,_,rfl,rfl,limbRow C r⟩
theorem limbRow_eq (C:Cx):∀ (l:List Nat) (css:List (List Value)),Rcl C (l.map limbA) css → css = l.map fun d:Nat=>[Value.int .u32 (d:Int)]
  | [],css,h=>by simpa [Rcl] using h
  | d :: r,css,h=>by
    simp only [List.map_cons,Rcl,limbA,Rc] at h
    obtain ⟨c,s,rfl,rfl,h⟩:=h
    rw [limbRow_eq C r s h,List.map_cons]
theorem limb_flat (l:List Nat):(l.map fun d:Nat=>[Value.int .u32 (d:Int)]).flatten = l.map fun d:Nat=>Value.int .u32 (d:Int):=by
  induction l with
  | nil=>rfl
  | cons d r ih=>simp [ih]
theorem limb_refs (l:List Nat):AV.hasRefs (l.map limbA) = false:=hasRefs_of_mem fun x hx=>by
  obtain ⟨d,_,rfl⟩:=List.mem_map.1 hx; rfl
theorem IntR.rv {A:Nat → Prop} {C:Cx} {v:Value} {z:Int} (h:IntR A C.w v z) (hF:∀ x,A x → C.F x):Rv C (Z z) v:=by
  obtain ⟨a,cap,rfl,h⟩:=h
  refine Rv_of ?_ rfl
  unfold Z
  simp only [Rc]
  refine ⟨[[.bool (decide (z < 0))],[.slice a (limbs z.natAbs).length cap]],?_,rfl⟩
  simp only [Rcl,Rc]
  refine ⟨_,_,rfl,rfl,_,_,rfl,⟨limb_refs _,_,rfl,a,cap,by rw [List.length_map],?_⟩,rfl⟩
  rw [List.length_map]
  refine h.imp id ?_
  rintro ⟨b,off,rfl,hA,hc,h⟩
  refine ⟨b,off,_,1,rfl,hF b hA,hc,limbRow C _,fun c hc=>?_,fun i x hx=>?_⟩
  · obtain ⟨d,_,rfl⟩:=List.mem_map.1 hc; rfl
  · rw [limb_flat] at hx
    exact h i x hx
theorem rv_IntR {C:Cx} {v:Value} {z:Int} (h:Rv C (Z z) v):IntR C.F C.w v z:=by
  obtain ⟨h1,h2⟩:=Rv_known rfl h
  unfold Z at h1 h2
  cases v <;> first | cases h2 | skip
  rename_i cs
  simp only [Rc,Rcl] at h1
  obtain ⟨css,⟨_,_,rfl,rfl,_,_,rfl,⟨_,v,rfl,a,cap,rfl,h3⟩,rfl⟩,h4⟩:=h1
  have h4:cs.toList = [.bool (decide (z < 0)),.slice a ((limbs z.natAbs).map limbA).length cap]:=h4
  rw [List.length_map] at h3 h4
  refine ⟨a,cap,?_,h3.imp id ?_⟩
  · congr 1
    rw [← Array.toArray_toList (xs:=cs),h4]
  · rintro ⟨b,off,css,sz,rfl,hF,hc,hr,_,hm⟩
    refine ⟨b,off,rfl,hF,hc,fun i x hx=>hm i x ?_⟩
    rw [limbRow_eq C _ _ hr,limb_flat]
    exact hx
def HP (P:Program) (f:FuncId) (pr:Nat → Bool):Prop:=∀ (m:Nat) w,m ≤ 2147483648 → QTw w → Calls P f #[.int .u64 (m:Int)] w fun e w'=>e = .returned (.bool (pr m)) ∧ Below w.heap.size w w'
structure TabS (P:Program) (ι:Env):Prop where
  glob:∀ i,i < 64 → ((⟨0,i,none⟩,.int .u8 (tzTab.getD i 0)):Addr × Value) ∈ ι.G
  blk:∀ p ∈ ι.G,p.1.block = 0
  cells:∀ W,QTw W → ∀ p ∈ ι.G,W.cell? p.1 = some p.2
  enters:∀ g ∈ [207,178,147,152,160,164,165,202],∀ args w,(callFunc (ι g) args).run P w = .ok (.enter (ι g) args) w
  tz:∀ (n:Nat) w,n < 18446744073709551616 → QTw w → Calls P (ι 207) #[.int .u64 (n:Int)] w fun e w'=>e = .returned (.int .i64 (tzF n:Nat)) ∧ w' = w
  bef:HP P (ι 202) primeF → ∀ (m:Nat) w,QTw w → Calls P (ι 178) #[.int .u64 (m:Int)] w fun e w'=>e = .returned (.int .u64 (befGo primeF (min m 2147483648):Nat)) ∧ Below w.heap.size w w'
  pri:HP P (ι 202) primeF → ∀ (m:Nat) (k:Int) w,QTw w → Calls P (ι 147) #[.int .u64 (m:Int),.int .i64 k] w fun e W'=>∃ v t,e = .returned v ∧ W'.ownsRow w.heap.size t 1 v ((allBelow primeF (min m 2147483648)).take k.toNat).length (((allBelow primeF (min m 2147483648)).take k.toNat).map (fun x:Nat=>Value.int .u64 (x:Int))) ∧ Below w.heap.size w W'
  need:HP P (ι 202) primeF → ∀ b,NeedC P (ι 160) (ι 164) (ι 165) b → ∀ (m:Nat) w (A:Nat → Prop),(∀ x,A x → x < w.heap.size) → ∀ sb ab lb cb,IntR A w (.agg #[.bool sb,.slice ab lb cb]) b → QTw w →
    Calls P (ι 152) #[.agg #[.bool sb,.slice ab lb cb],.int .u64 (m:Int)] w fun e W'=>∃ v t,e = .returned v ∧ W'.ownsRow w.heap.size t 1 v (needRes primeF b m).length ((needRes primeF b m).map (fun x:Nat=>Value.int .u64 (x:Int))) ∧ Below w.heap.size w W'
section
variable {P:Program} {ι:Env} {pureF:Nat → Bool} {E:CallF}
def cxA (ι:Env) (A:Nat → Prop) (W:World):Cx:={ ι:=ι,F:=A,β:=fun _ _=>none,w:=W }
theorem tab_call (S:TabS P ι) (hs:SoundC P ι E) {A:Nat → Prop} {W:World} {g:Nat} {xs:List AV} {H':Heap} {b:Bool} {r:AV} {vals:List Value} (hQ:QTw W) (h0:A 0) (hA:∀ x,A x → x < W.heap.size)
    (hg:g ∈ [207,178,147,152,160,164,165,202]) (h:E g xs [] = some (r,H',b)) (hr:Rvs (cxA ι A W) xs vals) :
    Calls P (ι g) vals.toArray W fun e W'=>∃ v C',e = .returned v ∧ C'.w = W' ∧ Rv C' r v ∧ (∀ x,C'.F x → A x ∨ W.heap.size ≤ x) ∧ Below W.heap.size W W':=by
  have hsim:Sim W.heap.size (cxA ι A W) []:=⟨hA,fun _ _ _=>rfl,fun o ob ho=>by simp at ho,fun o o' ob ob' b ho=>by simp at ho,Nat.le_refl _,fun p hp=>⟨by rw [S.blk p hp]; exact h0,S.cells W hQ p hp⟩⟩
  have hc:=hs g xs [] _ _ _ h W.heap.size (cxA ι A W) vals rfl hsim hr
  have hw:(cxA ι A W).w = W:=rfl
  rw [hw] at hc
  unfold Called at hc
  rw [S.enters g hg] at hc
  refine Calls.mono hc fun e w' he=>?_
  cases e with
  | returned v =>
    obtain ⟨C',rfl,hst,hv⟩:=he
    exact ⟨v,C',rfl,rfl,hv,hst.fgr,hst.below⟩
  | panicked _=>exact he.elim
  | outgrown=>exact he.elim
theorem QTw.zero {W:World} (h:QTw W):0 < W.heap.size:=by
  obtain ⟨o,ho,_⟩:=cells_of_cell (h 0 (by decide))
  exact lt_of_heap ho
theorem tab_HP (S:TabS P ι) (T:Tied P ι pureF ET GP):HP P (ι 202) primeF:=fun m w hm hQ=>by
  have h:=m_prime freeT_ET m [] (by omega)
  refine (tab_call S (call_sound T) (A:=fun x=>x = 0) (vals:=[.int .u64 (m:Int)]) hQ rfl (fun x hx=>by subst hx; exact hQ.zero) (by decide) h (.cons (mk_int _ _) .nil)).mono ?_
  rintro e W' ⟨v,C',rfl,rfl,hv,_,hb⟩
  exact ⟨by rw [Rv_bool hv],hb⟩
theorem tab_need (S:TabS P ι) (T:Tied P ι pureF ET GP) {b:Int} (hb:b.natAbs < B32 ^ 8):NeedC P (ι 160) (ι 164) (ι 165) b where
  one W hQ:=by
    have h:=up_ET _ _ _ _ (i_of hE0 1 [] (by decide) (by decide))
    refine (tab_call S (call_sound T) (A:=fun x=>x = 0) (vals:=[.int .i64 1]) hQ rfl (fun x hx=>by subst hx; exact hQ.zero) (by decide) h (.cons (mk_int _ _) .nil)).mono ?_
    rintro e W' ⟨v,C',rfl,rfl,hv,hF,hb⟩
    exact ⟨v,rfl,(rv_IntR hv).mono fun x hx=>hF x hx,hb⟩
  times A W v z p hQ h0 hI hA h1 h2 h3 h4:=by
    have h:=up_ET _ _ _ _ (m_times z p [] (by simp only [B32] at hb ⊢; omega) h4)
    refine (tab_call S (call_sound T) (A:=A) (vals:=[v,.int .u64 (p:Int)]) hQ h0 hA (by decide) h (.cons (IntR.rv (C:=cxA ι A W) hI fun _ h=>h) (.cons (mk_int _ _) .nil))).mono ?_
    rintro e W' ⟨v,C',rfl,rfl,hv,hF,hb⟩
    exact ⟨v,rfl,(rv_IntR hv).mono fun x hx=>hF x hx,hb⟩
  gt A W v z bv hQ h0 h1 h2 hI hJ hA:=by
    have h:=up_ET _ _ _ _ (m_gt z b [] (by simp only [B32] at hb ⊢; omega) (by simp only [B32] at hb ⊢; omega))
    refine (tab_call S (call_sound T) (A:=A) (vals:=[v,bv]) hQ h0 hA (by decide) h (.cons (IntR.rv (C:=cxA ι A W) hI fun _ h=>h) (.cons (IntR.rv (C:=cxA ι A W) hJ fun _ h=>h) .nil))).mono ?_
    rintro e W' ⟨v,C',rfl,rfl,hv,hF,hb⟩
    exact ⟨by rw [Rv_bool hv],hb⟩
variable {base:Nat} {C:Cx} {H:Heap}
theorem int_post (hs:Sim base C H) {w':World} (hbel:Below C.w.heap.size C.w w') (k:IntKind) (n:Int):CPost base C H (.int k n) H (.int k n) w':=by
  let C':Cx:={ C with w:=w' }
  have hle:Le C C':=⟨rfl,fun _ h=>h,fun _ _ _ h=>h,fun x hx=>hbel.block x (hs.fsz x hx),fun x s hx=>(by
    have hlt:x < C.w.heap.size:=by
      unfold World.shape? at hx
      split at hx
      · rename_i hh; exact lt_of_heap hh
      · cases hx
    rw [← hx]; show w'.shape? x = _
    unfold World.shape?
    rw [hbel.block x hlt])⟩
  have hsim:Sim base C' H:=hs.world hle (fun x hx=>⟨Nat.lt_of_lt_of_le (hs.fsz x hx) hbel.size,.inl hx⟩) (fun _ _=>rfl) hbel.size (fun x hx _ _=>hbel.block x hx)
  exact ⟨C',rfl,⟨hle,hsim,hbel.mono hs.bsz,fun x hx=>.inl hx,fun x hx hnx hno=>⟨hbel.block x hx,hnx,fun o1 ob1 h1 hb1=>hno o1 ob1 h1 hb1⟩⟩,mk_int k n⟩
theorem u64_flat:∀ ns:List Nat,(ns.map fun z:Nat=>[Value.int .u64 (z:Int)]).flatten = ns.map fun z:Nat=>Value.int .u64 (z:Int)
  | []=>rfl
  | z :: r=>by simp [u64_flat r]
theorem row_post (hs:Sim base C H) {w':World} {v:Value} {e:TypeId} {ns:List Nat} (hrow:w'.ownsRow C.w.heap.size e 1 v ns.length (ns.map fun x:Nat=>Value.int .u64 (x:Int))) (hbel:Below C.w.heap.size C.w w') :
    CPost base C H (.isl (ns.map uA)) H v w':=by
  let C':Cx:={ C with w:=w',F:=fun x=>C.F x ∨ (C.w.heap.size ≤ x ∧ v.ownBlock = some x) }
  have hob:∀ x,v.ownBlock = some x → C.w.heap.size ≤ x ∧ x < w'.heap.size:=by
    intro x hx
    rcases hrow.2 with ⟨rfl,_⟩ | ⟨g,cap,cur,rfl,hbase,hg,_⟩
    · cases hx
    · simp only [Value.ownBlock,Option.some.injEq] at hx
      subst hx
      exact ⟨hbase,lt_of_heap hg⟩
  have hle:Le C C':=⟨rfl,fun _ h=>.inl h,fun _ _ _ h=>h,fun x hx=>hbel.block x (hs.fsz x hx),fun x s hx=>(by
    have hlt:x < C.w.heap.size:=by
      unfold World.shape? at hx
      split at hx
      · rename_i hh; exact lt_of_heap hh
      · cases hx
    rw [← hx]; show w'.shape? x = _
    unfold World.shape?
    rw [hbel.block x hlt])⟩
  have hsim:Sim base C' H:=hs.world hle (fun x hx=>by
    rcases hx with hx | ⟨h1,h2⟩
    · exact ⟨Nat.lt_of_lt_of_le (hs.fsz x hx) hbel.size,.inl hx⟩
    · exact ⟨(hob x h2).2,.inr h1⟩) (fun _ _=>rfl) hbel.size (fun x hx _ _=>hbel.block x hx)
  refine ⟨C',rfl,⟨hle,hsim,hbel.mono hs.bsz,fun x hx=>?_,fun x hx hnx hno=>⟨hbel.block x hx,fun h=>h.elim hnx (fun h=>by omega),fun o1 ob1 h1 hb1=>hno o1 ob1 h1 hb1⟩⟩,?_⟩
  · rcases hx with hx | ⟨h1,_⟩
    · exact .inl hx
    · exact .inr (Nat.le_trans hs.bsz h1)
  · have hlit:∀ (zs:List Nat),Rcl C' (zs.map uA) (zs.map fun z:Nat=>[Value.int .u64 (z:Int)]):=by
      intro zs
      induction zs with
      | nil=>simp [Rcl]
      | cons z r ih=>simp only [List.map_cons,Rcl,Rc,uA]; exact ⟨_,_,rfl,rfl,ih⟩
    have hnr:∀ (zs:List Nat),AV.hasRefs (zs.map uA) = false:=fun zs=>hasRefs_of_mem fun x hx=>by
      obtain ⟨d,_,rfl⟩:=List.mem_map.1 hx; rfl
    rcases hrow.2 with ⟨rfl,hz⟩ | ⟨g,cap,cur,rfl,hbase,hg,hcap,hmax,hsize,htake⟩
    · refine Rv_one ?_ rfl rfl
      simp only [Rc]
      refine ⟨hnr _,_,rfl,none,0,by simp [hz],.inl (by simp [hz])⟩
    · refine Rv_one ?_ rfl rfl
      simp only [Rc]
      refine ⟨hnr _,_,rfl,_,cap,by simp,.inr ⟨g,0,ns.map fun z:Nat=>[Value.int .u64 (z:Int)],1,rfl,.inr ⟨hbase,rfl⟩,by simpa using hcap,hlit _,fun c hc=>?_,?_⟩⟩
      · obtain ⟨z,_,rfl⟩:=List.mem_map.1 hc; rfl
      · intro i x hx
        have hfl:(ns.map fun z:Nat=>[Value.int .u64 (z:Int)]).flatten = ns.map fun z:Nat=>Value.int .u64 (z:Int):=by
          exact u64_flat ns
        rw [hfl,← htake] at hx
        have h1:cur.toList[i]? = some x:=by
          rw [List.getElem?_take] at hx
          split at hx
          · exact hx
          · cases hx
        simp only [World.cell?,Nat.zero_add]
        show (match w'.heap[g]? with | _=>_) = _
        rw [hg]
        simpa using h1
theorem sim_QT (S:TabS P ι) (hι:C.ι = ι) (hs:Sim base C H):QTw C.w:=fun i hi=>(hs.glob _ (by rw [hι]; exact S.glob i hi)).2
theorem tz_post (S:TabS P ι) {args r H' b} (h:tzCall H args = some (r,H',b)) {vals:List Value} (hι:C.ι = ι) (hs:Sim base C H) (hr:Rvs C args vals):Called P (ι 207) vals.toArray C.w (CPost base C H r H'):=by
  obtain ⟨rfl,rfl,n,hn,rfl,rfl⟩:=tzCall_inv h
  cases hr with
  | cons hx hr =>
    cases hr
    rw [Rv_int hx]
    unfold Called
    rw [S.enters 207 (by decide)]
    refine (S.tz n C.w hn (sim_QT S hι hs)).mono ?_
    rintro e w' ⟨rfl,rfl⟩
    exact int_post hs (Below.refl _ _) _ _
theorem ET_sound (S:TabS P ι):SoundC P ι ET:=by
  intro g args H r H' b h base C vals hι hs hr
  obtain ⟨_,_,rfl,h⟩:=ET_inv h
  exact tz_post S h hι hs hr
theorem EB_sound (S:TabS P ι) (T:Tied P ι pureF ET GP):SoundC P ι EB:=by
  intro g args H r H' b h base C vals hι hs hr
  have hQ:=sim_QT S hι hs
  have hHP:=tab_HP S T
  unfold EB at h
  split at h
  · rename_i hg; subst hg; exact tz_post S h hι hs hr
  · split at h
    · rename_i hg; subst hg
      obtain ⟨rfl,rfl,n,hn,rfl,rfl⟩:=befCall_inv h
      cases hr with
      | cons hx hr =>
        cases hr
        rw [Rv_int hx]
        unfold Called
        rw [S.enters 178 (by decide)]
        refine (S.bef hHP n C.w hQ).mono ?_
        rintro e w' ⟨rfl,hb⟩
        exact int_post hs hb _ _
    · split at h
      · rename_i hg; subst hg
        obtain ⟨rfl,rfl,n,k,hn,rfl,rfl⟩:=priCall_inv h
        cases hr with
        | cons hx hr =>
          cases hr with
          | cons hy hr =>
            cases hr
            rw [Rv_int hx,Rv_int hy]
            unfold Called
            rw [S.enters 147 (by decide)]
            refine (S.pri hHP n k C.w hQ).mono ?_
            rintro e w' ⟨v,t,rfl,hrow,hb⟩
            rw [allBelow_take] at hrow
            exact row_post hs hrow hb
      · split at h
        · rename_i hg; subst hg
          obtain ⟨rfl,rfl,n,z,hn,hz,rfl,rfl⟩:=needCall_inv h
          cases hr with
          | cons hx hr =>
            cases hr with
            | cons hy hr =>
              cases hr
              have hI:=rv_IntR hx
              obtain ⟨s,a,l,c,rfl⟩:=hI.shape
              rw [Rv_int hy]
              unfold Called
              rw [S.enters 152 (by decide)]
              refine (S.need hHP z (tab_need S T hz) n C.w C.F hs.fsz _ _ _ _ hI hQ).mono ?_
              rintro e w' ⟨v,t,rfl,hrow,hb⟩
              exact row_post hs hrow hb
        · cases h
theorem ET_tied (S:TabS P ι) (hf:∀ g f,GP g = some f → ∃ k fn,k.P = P ∧ k.ι = ι ∧ k.pureF = pureF ∧ P.funcs[ι g]? = some fn ∧ funOk k fn f = true) (hp:∀ g,pureF g = true → ∀ f,GP g = some f → f.mode = .iso):Tied P ι pureF ET GP where
  funs:=hf
  pureG g hg:=⟨hp g hg,fun args H H2 h=>by rw [ET_heap (H:=H),h]; rfl⟩
  pureE:=ET_pure
  soundE:=ET_sound S
  keepE:=ET_keeps
theorem EB_tied (S:TabS P ι) (T:Tied P ι pureF ET GP):Tied P ι pureF EB GP where
  funs:=T.funs
  pureG g hg:=⟨(T.pureG g hg).1,fun args H H2 h=>by rw [EB_heap (H:=H),h]; rfl⟩
  pureE:=EB_pure
  soundE:=EB_sound S T
  keepE:=EB_keeps
def tzG:List (Addr × Value):=(List.range 64).map fun i=>(⟨0,i,none⟩,.int .u8 (tzTab.getD i 0))
theorem tzG_in (i:Nat) (h:i < 64):((⟨0,i,none⟩,.int .u8 (tzTab.getD i 0)):Addr × Value) ∈ tzG:=List.mem_map.2 ⟨i,List.mem_range.2 h,rfl⟩
theorem tzG_blk:∀ p ∈ tzG,p.1.block = 0:=fun p hp=>by
  obtain ⟨i,_,rfl⟩:=List.mem_map.1 hp; rfl
theorem tzG_cells (W:World) (hQ:QTw W):∀ p ∈ tzG,W.cell? p.1 = some p.2:=fun p hp=>by
  obtain ⟨i,hi,rfl⟩:=List.mem_map.1 hp
  exact hQ i (List.mem_range.1 hi)
theorem tzG_met {W:World} (hQ:QTw W):∀ p ∈ tzG,p.1.block < W.heap.size ∧ W.cell? p.1 = some p.2:=fun p hp=>⟨by rw [tzG_blk p hp]; exact hQ.zero,tzG_cells W hQ p hp⟩
end
def tzI (n:Nat):Int:=IntKind.u64.wrap (bits BinOp.and IntKind.u64 n (IntKind.u64.wrap (-(n:Int))) * 285870213051353865) / 288230376151711744
theorem tzI_lt (n:Nat):0 ≤ tzI n ∧ tzI n < 64:=by
  unfold tzI
  have h:∀ x:Int,0 ≤ IntKind.u64.wrap x ∧ IntKind.u64.wrap x < 18446744073709551616:=fun x=>by
    show 0 ≤ x % 18446744073709551616 ∧ x % 18446744073709551616 < 18446744073709551616
    omega
  have:=h (bits BinOp.and IntKind.u64 n (IntKind.u64.wrap (-(n:Int))) * 285870213051353865)
  omega
theorem tzTab_in:∀ i,i < 64 → 0 ≤ tzTab.getD i 0 ∧ tzTab.getD i 0 < 64:=by decide
theorem tzI_nat (n:Nat) (h0:n ≠ 0) (hn:n < 18446744073709551616):(tzI n).toNat = (n &&& (18446744073709551616 - n)) * 285870213051353865 % 18446744073709551616 / 288230376151711744:=by
  have hw:∀ x:Int,IntKind.u64.wrap x = x % 18446744073709551616:=fun x=>rfl
  have hneg:IntKind.u64.wrap (-(n:Int)) = ((18446744073709551616 - n:Nat):Int):=by rw [hw]; omega
  have hb:bits BinOp.and IntKind.u64 n (IntKind.u64.wrap (-(n:Int))) = ((n &&& (18446744073709551616 - n):Nat):Int):=by
    rw [hneg]
    unfold bits
    have e1:(BitVec.ofInt 64 (n:Int)).toNat = n:=by simp [BitVec.toNat_ofInt]; omega
    have e2:(BitVec.ofInt 64 ((18446744073709551616 - n:Nat):Int)).toNat = 18446744073709551616 - n:=by rw [BitVec.toNat_ofInt]; simp only [Nat.reducePow]; omega
    have hlt:n &&& (18446744073709551616 - n) < 18446744073709551616:=Nat.lt_of_le_of_lt Nat.and_le_left hn
    show IntKind.u64.wrap (((BitVec.ofInt 64 (n:Int) &&& BitVec.ofInt 64 ((18446744073709551616 - n:Nat):Int)).toNat:Nat):Int) = _
    rw [BitVec.toNat_and,e1,e2,hw]
    omega
  unfold tzI
  rw [hb,hw]
  generalize n &&& (18446744073709551616 - n) = m
  have e:(m:Int) * 285870213051353865 % 18446744073709551616 / 288230376151711744 = ((m * 285870213051353865 % 18446744073709551616 / 288230376151711744:Nat):Int):=by
    rw [Int.natCast_ediv,Int.natCast_emod,Int.natCast_mul]; rfl
  rw [e,Int.toNat_natCast]
theorem tz_eq (n:Nat) (hn:n < 18446744073709551616):(if n = 0 then (64:Int) else IntKind.i64.wrap (tzTab.getD (tzI n).toNat 0)) = (tzF n:Nat):=by
  unfold tzF
  by_cases h0:n = 0
  · rw [if_pos h0,if_pos h0]; rfl
  · rw [if_neg h0,if_neg h0,← tzI_nat n h0 hn]
    have:=tzI_lt n
    have h:=tzTab_in (tzI n).toNat (by omega)
    rw [i64w' (by omega),Int.toNat_of_nonneg h.1]
end Tor
namespace Tor
open Go
set_option maxRecDepth 100000 in
theorem sanity09:call EB GP 130 [] [] = some (.bool true,[],false):=call_of (n:=1000) (by kernel_rfl)
end Tor
namespace Tor
open Go Go.RowKit Go.ChangeShapes
def shpAll (P:Program):List TypeId → List Shp → Bool
  | [],[]=>true
  | t :: ts,s :: ss=>shpOk P t s && shpAll P ts ss
  | _,_=>false
theorem open_all {P:Program} {ι:Env} {w:World} {H:Type} {enc:TypeId × Value → H} {base b0:Nat} {spare:Nat → Bool} {held:Bool} {r:Reach} :
    ∀ (ss:List Shp) (ts:List TypeId) (vs:List Value) (ds:List (DataW H)) (ps:List MemPlace),shpAll P ts ss = true → (∀ (j:Nat) t v,ts[j]? = some t → vs[j]? = some v → Value.okWide P w r b0 t v) →
      DataW.TrodAll enc P w base spare held ts vs ds ps → ∃ xs,Fitss ss xs ∧ Rvs (Cx.init ι w) xs vs
  | [],[],vs,ds,ps,_,_,h=>by
    obtain ⟨rfl,_,_⟩:=trodAll_nil h
    exact ⟨[],rfl,.nil⟩
  | s :: ss,t :: ts,vs,ds,ps,hs,hv,h=>by
    simp only [shpAll,Bool.and_eq_true] at hs
    obtain ⟨v,vs',d,ds',p,q,rfl,rfl,rfl,h1,h2⟩:=trodAll_cons h
    obtain ⟨y,y1,y2⟩:=open_arg (ι:=ι) hs.1 (hv 0 t v rfl rfl) h1
    obtain ⟨xs,x1,x2⟩:=open_all ss ts vs' ds' q hs.2 (fun j t v ht hv'=>hv (j + 1) t v (by simpa using ht) (by simpa using hv')) h2
    exact ⟨y :: xs,by simp only [Fitss]; exact ⟨y,xs,rfl,y1,x1⟩,.cons y2 x2⟩
  | [],_ :: _,_,_,_,hs,_,_=>by cases hs
  | _ :: _,[],_,_,_,hs,_,_=>by cases hs
def rowed (P:Program) (t:TypeId):Bool:=P.readableRec t && decide (t < P.types.size)
theorem keep_all {P:Program} {H:Type} {enc:TypeId × Value → H} (hl:laidOutB P = true) {W W':World} (hb:Below W.heap.size W W') :
    ∀ (ts:List TypeId) (vs:List Value) (ds:List (DataW H)) (ps:List MemPlace),ts.all (rowed P) = true → (∀ x ∈ ps,x.block < W.heap.size) → DataW.TrodAll enc P W 0 (fun _=>true) true ts vs ds ps →
      DataW.TrodAll enc P W' 0 (fun b=>decide (b < W.heap.size)) true ts vs ds ps
  | [],vs,ds,ps,_,_,h=>by
    obtain ⟨rfl,rfl,rfl⟩:=trodAll_nil h
    exact trodAll_mk0
  | t :: ts,vs,ds,ps,ht,hp,h=>by
    simp only [List.all_cons,Bool.and_eq_true,rowed,decide_eq_true_eq] at ht
    obtain ⟨v,vs',d,ds',p,q,rfl,rfl,rfl,h1,h2⟩:=trodAll_cons h
    exact trodAll_cons_mk (Below.trod hl ht.1.1 ht.1.2 h1 hb fun x hx=>hp x (List.mem_append.2 (.inl hx)))
      (keep_all hl hb ts vs' ds' q (by simpa [rowed] using ht.2) (fun x hx=>hp x (List.mem_append.2 (.inr hx))) h2)
theorem places_lt {P:Program} {H:Type} {enc:TypeId × Value → H} {W:World} {ts:List TypeId} {vs:List Value} {ds:List (DataW H)} {ps:List MemPlace} {base:Nat} {spare:Nat → Bool} {held:Bool}
    (h:DataW.TrodAll enc P W base spare held ts vs ds ps):∀ x ∈ ps,x.block < W.heap.size:=h.lt
end Tor
namespace Tor
open Go
theorem up_0B:CLe (call E0 GP) (call EB GP):=fun g a H r h=>up_EB _ _ _ _ (up_ET _ _ _ _ h)
theorem el_row {R C:Nat} {M:List (List Int)} (h:M5 R C M) (i:Nat) (hi:i < R):(rowsI M)[i]? = some (.isl (rowA (M.getD i []))):=rowsI_get (by rw [h.len]; exact hi)
theorem el_get {R C:Nat} {M:List (List Int)} (h:M5 R C M) (i k:Nat) (hi:i < R) (hk:k < C):(rowA (M.getD i []))[k]? = some (Z (el M i k)):=by
  have:=h.rowlen i hi
  unfold el rowA
  rw [List.getElem?_map,List.getElem?_eq_getElem (by omega),List.getD_eq_getElem?_getD (l:=M.getD i []),List.getElem?_eq_getElem (by omega)]
  rfl
theorem ofL_limbs (x:Int):ofL false (limbs x.natAbs) = (x.natAbs:Nat):=by
  unfold ofL; rw [val_limbs]; rfl
def mnSt (X:AV) (R C:Nat) (M:List (List Int)) (o t:Nat) (v3 v4 v5 v6 v8 v9 v10 v11 v12:AV):St :=
  { vars:=[X,.bool false,.bool true,v3,v4,v5,v6,.u,v8,v9,v10,v11,v12,.u,X,MI R C M,Z (o:Nat),Z (t:Nat),.u,.u],heap:=[],rs:=false }
section
variable {X:AV} {R C:Nat} {M:List (List Int)} (h:M5 R C M) (o t:Nat) (ho:o ≤ 33554432) (ht:t ≤ 33554432) (hX:X.under 0 = true) (hX1:X.hasRef = false)
  (P1:∀ i k,i < R → k < C → (el M i k).natAbs ≤ o)
  (P2:∀ i k j l,i < R → k < C → j < i → l < k → (el M i k * el M j l - el M i l * el M j k).natAbs ≤ t)
include h ho ht hX hX1 P1 P2
theorem min_l3 (i k j l:Nat) (hi:i < R) (hk:k < C) (hj:j < i) (hl:l < k) :
    run EB GP a145l3 (mnSt X R C M o t (.int .i64 (i:Nat)) (.int .i64 (k:Nat)) (.int .i64 (j:Nat)) (.int .i64 (l:Nat)) (.bool true) (.bool true) (.bool false) (.bool true) .u) =
    run EB GP a145l3 (mnSt X R C M o t (.int .i64 (i:Nat)) (.int .i64 (k:Nat)) (.int .i64 (j:Nat)) (.int .i64 ((l + 1:Nat):Int)) (.bool true) (.bool true) (.bool false) (.bool true) .u):=by
  have hR:=h.r5
  have hC:=h.c5
  have gi:=el_row h i hi
  have gj:=el_row h j (by omega)
  have gik:=el_get h i k hi hk
  have gil:=el_get h i l hi (by omega)
  have gjk:=el_get h j k (by omega) hk
  have gjl:=el_get h j l (by omega) (by omega)
  have e1:=h.el9 i k hi hk
  have e2:=h.el9 i l hi (by omega)
  have e3:=h.el9 j k (by omega) hk
  have e4:=h.el9 j l (by omega) (by omega)
  have hp2:=P2 i k j l hi hk hj hl
  generalize el M i k = a at *
  generalize el M i l = b at *
  generalize el M j k = c at *
  generalize el M j l = d at *
  have q1:(a * d).natAbs ≤ 81:=by rw [Int.natAbs_mul]; exact Nat.mul_le_mul e1 e4
  have q2:(b * c).natAbs ≤ 81:=by rw [Int.natAbs_mul]; exact Nat.mul_le_mul e2 e3
  have len1:∀ z:Int,z.natAbs ≤ 1000 → (limbs z.natAbs).length ≤ 1:=fun z hz=>limbs_len_lt (by unfold B32; omega)
  have m1:=fun H=>up_0B _ _ _ _ (r1_mul hE0 a d H (by have:=len1 a (by omega); omega) (by have:=len1 d (by omega); omega) (by have:=len1 a (by omega); have:=len1 d (by omega); omega))
  have m2:=fun H=>up_0B _ _ _ _ (r1_mul hE0 b c H (by have:=len1 b (by omega); omega) (by have:=len1 c (by omega); omega) (by have:=len1 b (by omega); have:=len1 c (by omega); omega))
  have m3:=fun H=>up_0B _ _ _ _ (r1_sub hE0 (a * d) (b * c) H (by have:=len1 (a * d) (by omega); omega) (by have:=len1 (b * c) (by omega); omega))
  obtain ⟨m,hm⟩:∃ m,a * d - b * c = m:=⟨_,rfl⟩
  rw [hm] at hp2 m3
  have hmb:m.natAbs ≤ 162:=by omega
  have m4:=fun H=>up_0B _ _ _ _ (r1_made hE0 (limbs m.natAbs) false H (limbs_lt _) (by have:=len1 m (by omega); omega))
  rw [ofL_limbs] at m4
  have m5:=fun H=>up_0B _ _ _ _ (r1_cmp hE0 ((m.natAbs:Nat):Int) (t:Int) H (by unfold Sz B32; omega) (by unfold Sz B32; omega))
  have hs:¬ (((m.natAbs:Nat):Int) - (t:Int)).sign > 0:=by
    intro hs
    have:=Int.sign_pos_iff.1 hs
    omega
  have hZ:Z m = .agg [.bool (decide (m < 0)),.isl ((limbs m.natAbs).map limbA)]:=rfl
  have k1:(l:Int) < (k:Int):=by omega
  have wl:IntKind.i64.wrap ((l:Int) + 1) = (l:Int) + 1:=i64w (by omega)
  unfold mnSt MI
  obtain ⟨RI,hRI⟩:∃ RI,rowsI M = RI:=⟨_,rfl⟩
  rw [hRI] at gi gj ⊢
  conv=>lhs; rw [a145l3_run]
  simp (maxSteps:=1000000) (disch:=first | omega | decide) only [si,sf,simprocAttr,a145b3,a145R,gi,gj,gik,gil,gjk,gjl,m1,m2,m3,m4,m5,hs,hZ,k1,wl,Z_plain,hX,hX1]
theorem min_r3 (i k j:Nat) (hi:i < R) (hk:k < C) (hj:j < i) :
    run EB GP a145l3 (mnSt X R C M o t (.int .i64 (i:Nat)) (.int .i64 (k:Nat)) (.int .i64 (j:Nat)) (.int .i64 0) (.bool true) (.bool true) (.bool false) (.bool true) .u) =
    some (.exit 6,mnSt X R C M o t (.int .i64 (i:Nat)) (.int .i64 (k:Nat)) (.int .i64 (j:Nat)) (.int .i64 (k:Nat)) (.bool true) (.bool true) (.bool false) (.bool true) (.bool false)):=by
  refine loop_ind (fun l=>mnSt X R C M o t (.int .i64 (i:Nat)) (.int .i64 (k:Nat)) (.int .i64 (j:Nat)) (.int .i64 (l:Nat)) (.bool true) (.bool true) (.bool false) (.bool true) .u) _ k (fun l hl=>min_l3 h o t ho ht hX hX1 P1 P2 i k j l hi hk hj hl) ?_
  unfold mnSt MI
  rw [a145l3_run]
  simp (maxSteps:=1000000) (disch:=first | omega | decide) only [si,sf,simprocAttr,a145b3,a145R,Int.lt_irrefl]
theorem min_r2 (i k:Nat) (hi:i < R) (hk:k < C) :
    run EB GP a145l2 (mnSt X R C M o t (.int .i64 (i:Nat)) (.int .i64 (k:Nat)) (.int .i64 0) .u (.bool true) (.bool true) (.bool false) .u .u) =
    some (.exit 4,mnSt X R C M o t (.int .i64 (i:Nat)) (.int .i64 (k:Nat)) (.int .i64 (i:Nat)) .u (.bool true) (.bool true) (.bool false) (.bool false) .u):=by
  have hR:=h.r5
  refine loop_ind (fun j=>mnSt X R C M o t (.int .i64 (i:Nat)) (.int .i64 (k:Nat)) (.int .i64 (j:Nat)) .u (.bool true) (.bool true) (.bool false) .u .u) _ i (fun j hj=>?_) ?_
  · have h3:=min_r3 h o t ho ht hX hX1 P1 P2 i k j hi hk hj
    have k1:(j:Int) < (i:Int):=by omega
    have wl:IntKind.i64.wrap ((j:Int) + 1) = (j:Int) + 1:=i64w (by omega)
    unfold mnSt MI at *
    conv=>lhs; rw [a145l2_run]
    simp (maxSteps:=1000000) (disch:=first | omega | decide) only [si,sf,simprocAttr,a145b2,a145R,h3,k1,wl,hX,hX1]
  · unfold mnSt MI
    rw [a145l2_run]
    simp (maxSteps:=1000000) (disch:=first | omega | decide) only [si,sf,simprocAttr,a145b2,a145R,Int.lt_irrefl]
theorem min_r1 (i:Nat) (hi:i < R) :
    run EB GP a145l1 (mnSt X R C M o t (.int .i64 (i:Nat)) (.int .i64 0) .u .u (.bool true) .u .u .u .u) =
    some (.exit 2,mnSt X R C M o t (.int .i64 (i:Nat)) (.int .i64 (C:Nat)) .u .u (.bool true) (.bool false) .u .u .u):=by
  have hR:=h.r5
  have hC:=h.c5
  refine loop_ind (fun k=>mnSt X R C M o t (.int .i64 (i:Nat)) (.int .i64 (k:Nat)) .u .u (.bool true) .u .u .u .u) _ C (fun k hk=>?_) ?_
  · have h2:=min_r2 h o t ho ht hX hX1 P1 P2 i k hi hk
    have k1:(k:Int) < (C:Int):=by omega
    have wl:IntKind.i64.wrap ((k:Int) + 1) = (k:Int) + 1:=i64w (by omega)
    have gi:=el_row h i hi
    have gik:=el_get h i k hi hk
    have e1:=h.el9 i k hi hk
    have hp1:=P1 i k hi hk
    generalize el M i k = m at *
    have m4:=fun H=>up_0B _ _ _ _ (r1_made hE0 (limbs m.natAbs) false H (limbs_lt _) (by have:(limbs m.natAbs).length ≤ 1:=limbs_len_lt (by unfold B32; omega); omega))
    rw [ofL_limbs] at m4
    have m5:=fun H=>up_0B _ _ _ _ (r1_cmp hE0 ((m.natAbs:Nat):Int) (o:Int) H (by unfold Sz B32; omega) (by unfold Sz B32; omega))
    have hs:¬ (((m.natAbs:Nat):Int) - (o:Int)).sign > 0:=by
      intro hs
      have:=Int.sign_pos_iff.1 hs
      omega
    have hZ:Z m = .agg [.bool (decide (m < 0)),.isl ((limbs m.natAbs).map limbA)]:=rfl
    unfold mnSt MI at *
    obtain ⟨RI,hRI⟩:∃ RI,rowsI M = RI:=⟨_,rfl⟩
    rw [hRI] at gi h2 ⊢
    conv=>lhs; rw [a145l1_run]
    simp (maxSteps:=1000000) (disch:=first | omega | decide) only [si,sf,simprocAttr,a145b1,a145R,h2,k1,wl,gi,gik,m4,m5,hs,hZ,hX,hX1]
  · unfold mnSt MI
    rw [a145l1_run]
    simp (maxSteps:=1000000) (disch:=first | omega | decide) only [si,sf,simprocAttr,a145b1,a145R,Int.lt_irrefl]
theorem min_r0 :
    run EB GP a145l0 (mnSt X R C M o t (.int .i64 0) .u .u .u .u .u .u .u .u) =
    some (.exit 0,mnSt X R C M o t (.int .i64 (R:Nat)) .u .u .u (.bool false) .u .u .u .u):=by
  have hR:=h.r5
  refine loop_ind (fun i=>mnSt X R C M o t (.int .i64 (i:Nat)) .u .u .u .u .u .u .u .u) _ R (fun i hi=>?_) ?_
  · have h1:=min_r1 h o t ho ht hX hX1 P1 P2 i hi
    have k1:(i:Int) < (R:Int):=by omega
    have wl:IntKind.i64.wrap ((i:Int) + 1) = (i:Int) + 1:=i64w (by omega)
    unfold mnSt MI at *
    conv=>lhs; rw [a145l0_run]
    simp (maxSteps:=1000000) (disch:=first | omega | decide) only [si,sf,simprocAttr,a145b0,a145R,h1,k1,wl,hX,hX1]
  · unfold mnSt MI
    rw [a145l0_run]
    simp (maxSteps:=1000000) (disch:=first | omega | decide) only [si,sf,simprocAttr,a145b0,a145R,Int.lt_irrefl]
end
theorem up_one:UpR 1 1:=⟨by decide,fun v hv=>by
  rcases Nat.eq_zero_or_pos v with rfl | h
  · simp at hv
  · exact h⟩
theorem had_minor {n:Nat} {M:List (List Int)} (h:M5 n n M):∃ u:Nat,UpR (prodI (lens M)).toNat u ∧ u ≤ 33554432 ∧ (∀ H,call E0 GP 132 [MI n n M] H = some (.tup [Z u,.int .i64 0],H,false)) ∧ ∀ H,call E0 GP 135 [MI n n M,.int .i64 (n:Nat)] H = some (Z u,H,false):=by
  obtain ⟨u,u1,u2,u3⟩:=i_had hE0 n M h
  refine ⟨u,u1,u2,u3,?_⟩
  rcases Nat.eq_zero_or_pos n with h0 | h0
  · subst h0
    have hM:M = []:=List.length_eq_zero_iff.1 h.len
    subst hM
    have e:u = 1:=u1.uniq up_one
    subst e
    exact fun H=>i_minor_le hE0 0 0 [] 0 (by decide) H
  · obtain ⟨s,v,s1,s2,v1,v2,v3⟩:=i_minor hE0 n n M h n h0 (Nat.le_refl _)
    have hsl:s.length = n:=by rw [s1.length_eq]; simp [lens,h.len]
    rw [List.take_of_length_le (by omega),prodI_perm s1] at v1
    have e:=u1.uniq v1
    subst e
    exact v3
theorem minors_true (r c:Nat) (hr:r ≤ 255) (hc:c ≤ 255) (d:List Int) (hd:d.length ≤ 9223372036854775807) (hd8:∀ x ∈ d,-128 ≤ x ∧ x ≤ 127) (H:Heap) :
    call EB GP 145 [rwI r c d] H = some (.bool true,H,false):=by
  obtain ⟨R,hR⟩:∃ R,r % 5 = R:=⟨_,rfl⟩
  obtain ⟨C,hC⟩:∃ C,c % 5 = C:=⟨_,rfl⟩
  have hR4:R ≤ 4:=by omega
  have hC4:C ≤ 4:=by omega
  have hmade:=fun H=>up_0B _ _ _ _ (i_made6 hE0 r c 4 hr hc (by decide) d hd hd8 H)
  simp only [Nat.reduceAdd,hR,hC] at hmade
  have hmade:∀ H,call EB GP 131 [rwI r c d,.int .i64 4] H = some (MI R C (filled d R C),H,false):=hmade
  have h:=filled_M5 d R C (by omega) (by omega)
  generalize filled d R C = M at *
  have h1:∃ o:Nat,o ≤ 33554432 ∧ (∀ H,call EB GP 135 [MI R C M,.int .i64 1] H = some (Z o,H,false)) ∧ ∀ i k,i < R → k < C → (el M i k).natAbs ≤ o:=by
    rcases Nat.eq_zero_or_pos R with h0 | h0
    · exact ⟨0,by decide,fun H=>up_0B _ _ _ _ (i_minor_gt hE0 R C M 1 (by omega) H),fun i k hi=>by omega⟩
    · obtain ⟨s,u,s1,s2,u1,u2,u3⟩:=i_minor hE0 R C M h 1 (by decide) h0
      exact ⟨u,u2,fun H=>up_0B _ _ _ _ (u3 H),fun i k hi hk=>h.one_le s1 s2 u1 i k hi hk⟩
  have h2:∃ t:Nat,t ≤ 33554432 ∧ (∀ H,call EB GP 135 [MI R C M,.int .i64 2] H = some (Z t,H,false)) ∧ ∀ i k j l,i < R → k < C → j < i → l < k → (el M i k * el M j l - el M i l * el M j k).natAbs ≤ t:=by
    rcases Nat.lt_or_ge R 2 with h0 | h0
    · exact ⟨0,by decide,fun H=>up_0B _ _ _ _ (i_minor_gt hE0 R C M 2 (by omega) H),fun i k j l hi hk hj=>by omega⟩
    · obtain ⟨s,u,s1,s2,u1,u2,u3⟩:=i_minor hE0 R C M h 2 (by decide) h0
      exact ⟨u,u2,fun H=>up_0B _ _ _ _ (u3 H),fun i k j l hi hk hj hl=>h.two_le s1 s2 u1 i k j l hi hk hj hl⟩
  obtain ⟨o,ho,c1,P1⟩:=h1
  obtain ⟨t,ht,c2,P2⟩:=h2
  have hx:(rwI r c d).under 0 = true:=by simp [rwI,AV.under,AV.unders]
  have hxk:(rwI r c d).known = true:=rfl
  have hxs:(rwI r c d).size = 3:=by simp [rwI,AV.size,AV.sizes]
  have hxr:(rwI r c d).hasRef = false:=by simp [rwI,AV.hasRef,AV.hasRefs]
  have hxa:(rwI r c d).isA = true:=rfl
  generalize rwI r c d = X at *
  have hlp:=min_r0 (X:=X) h o t ho ht hx hxr P1 P2
  have hsan:=sanity09
  unfold mnSt at hlp
  have hmz:(MI R C M).size = 3:=by simp [MI,AV.size,AV.sizes]
  have hmk:(MI R C M).known = true:=rfl
  have hma:(MI R C M).isA = true:=rfl
  have hmr:(MI R C M).hasRef = false:=MI_ref R C M
  by_cases hne:R = C
  · subst hne
    obtain ⟨u,u1,u2,u3,u4⟩:=had_minor h
    have c3:=fun H=>up_0B _ _ _ _ (u3 H)
    have c4:=fun H=>up_0B _ _ _ _ (u4 H)
    have hlu:(limbs ((u:Nat):Int).natAbs).length ≤ 1:=limbs_len_lt (by unfold B32; omega)
    have c5:=fun H=>up_0B _ _ _ _ (r1_same hE0 (u:Int) u H (by omega) (by omega))
    have g0:¬ ((0:Int) ≠ 0):=by decide
    have hMI:MI R R M = .agg [.int .i64 R,.int .i64 R,.isl (rowsI M)]:=rfl
    rw [call_fun rfl (f:=a145) rfl rfl]
    rw [hMI] at hmade c1 c2 c3 c4 hlp hmz hmk hma hmr
    simp (maxSteps:=1000000) (disch:=first | omega | decide) only [si,sf,simprocAttr,a145,a145R,hsan,hmade,c1,c2,c3,c4,c5,hlp,g0,hxk,hxs,hxr,hxa]
  · have c3:=fun H=>up_0B _ _ _ _ (i_had_ne hE0 R C M hne H)
    have g0:((50:Int) ≠ 0):=by decide
    rw [call_fun rfl (f:=a145) rfl rfl]
    simp (maxSteps:=1000000) (disch:=first | omega | decide) only [si,sf,simprocAttr,a145,a145R,hsan,hmade,c1,c2,c3,hlp,g0,hxk,hxs,hxr,hxa,hmz,hmk,hma,hmr]
theorem fits_raw {x:AV} (h:Fits (.agg [.int .u8,.int .u8,.sl (.int .i8)]) x):∃ (r c:Nat) (d:List Int),x = rwI r c d ∧ r ≤ 255 ∧ c ≤ 255 ∧ d.length ≤ 9223372036854775807 ∧ ∀ x ∈ d,-128 ≤ x ∧ x ≤ 127:=by
  simp only [Fits,Fitss] at h
  obtain ⟨l,rfl,a,s,rfl,⟨r,rfl,hr⟩,b,s2,rfl,⟨c,rfl,hc⟩,y,s3,rfl,⟨l1,rfl,hl1,hy⟩,rfl⟩:=h
  have hr:0 ≤ r ∧ r ≤ 255:=hr
  have hc:0 ≤ c ∧ c ≤ 255:=hc
  obtain ⟨d,rfl,hd⟩:=fits_list (f:=bA) (Q:=fun n=>-128 ≤ n ∧ n ≤ 127) (S:=.int .i8) (fun y hy=>by
    simp only [Fits] at hy
    obtain ⟨n,rfl,hn⟩:=hy
    exact ⟨n,rfl,hn⟩) l1 (fun y hy'=>by simp only [Fits]; exact hy y hy')
  refine ⟨r.toNat,c.toNat,d,?_,by omega,by omega,?_,hd⟩
  · unfold rwI; rw [Int.toNat_of_nonneg hr.1,Int.toNat_of_nonneg hc.1]
  · simp only [List.length_map,maxLen] at hl1; omega
theorem law145 (xs:List AV) (h:Fitss [.agg [.int .u8,.int .u8,.sl (.int .i8)]] xs):call EB GP 145 xs [] = some (.bool true,[],false):=by
  simp only [Fitss] at h
  obtain ⟨x,s,rfl,hx,rfl⟩:=h
  obtain ⟨r,c,d,rfl,hr,hc,hd,hd8⟩:=fits_raw hx
  exact minors_true r c hr hc d hd hd8 []
end Tor
