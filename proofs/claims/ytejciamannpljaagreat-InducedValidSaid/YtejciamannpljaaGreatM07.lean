/-
  A part of the proof: an abstract machine for the program, its soundness, and what the functions compute (Cx9, Cx10, Fb1, Fb2, Fb3, Fb4, Fb5, Gd1, Gd2, Cx7).
  Conditions: none.
-/
import Derived.Test.YtejciamannpljaaGreatM05
import Derived.Test.YtejciamannpljaaGreatM06
set_option linter.unusedSectionVars false
set_option linter.unusedVariables false
set_option linter.unusedSimpArgs false
set_option linter.defProp false
namespace Tor
open Go
def chA (l:List (Int × Int)):AV:=.isl (l.map fA)
theorem refs_chA:∀ L:List (List (Int × Int)),AV.hasRefs (L.map chA) = false
  | []=>rfl
  | x :: r=>by simp only [List.map_cons,AV.hasRefs,chA,AV.hasRef,refs_fA,refs_chA r,Bool.or_self]
theorem solids_chA:∀ L:List (List (Int × Int)),AV.solids (L.map chA) = true
  | []=>rfl
  | x :: r=>by simp only [List.map_cons,AV.solids,chA,AV.solid,AV.hasRef,solids_fA,refs_fA,solids_chA r]; rfl
theorem fz_chA (n:Nat) (H:Heap) (k:Nat):∀ L:List (List (Int × Int)),(L.map chA).map (fz n H (k + 4)) = L.map chA
  | []=>rfl
  | x :: r=>by simp only [List.map_cons,fz_chA n H k r,chA,fz,fz_fAs]
theorem chA_get {L:List (List (Int × Int))} {i:Nat} (h:i < L.length):(L.map chA)[i]? = some (.isl ((L.getD i []).map fA)):=by simp [h,chA,List.getD]
def cycOf (c:List Cel) (k:Int) (B:List (List Int)):List (List (Int × Int)):=B.map fun r=>(chain26 c k r).1
variable {E:CallF} (hE:Free E)
include hE
theorem cyc_loop (c:List Cel) (k:Int) (K R' N:Nat) (B:List (List Int)) (hc:c.length < 2147483647) (hB:B.length = K) (hK:K < 2147483647) (hw:∀ i,i < K → (B.getD i []).length < 2147483647)
    (hb:∀ i,i < K → ∀ y ∈ B.getD i [],y.natAbs ≤ N) (hN:∀ i,i < K → N * ((B.getD i []).length + 1) < BIG):∀ (n i:Nat) (out:List (List (Int × Int))),K = i + n → out.length = i →
    run E GP a121l0 { vars:=[.isl (c.map cA),.int .i64 k,.isl [],.sl 0 out.length 1 0 out.length,.int .i64 i,.bool false,.u,MI K R' B],heap:=[.arr out.length 1 (out.map chA)],rs:=false } =
      some (.exit 0,{ vars:=[.isl (c.map cA),.int .i64 k,.isl [],.sl 0 (out ++ cycOf c k (B.drop i)).length 1 0 (out ++ cycOf c k (B.drop i)).length,.int .i64 K,.bool false,.bool false,MI K R' B],heap:=[.arr (out ++ cycOf c k (B.drop i)).length 1 ((out ++ cycOf c k (B.drop i)).map chA)],rs:=false }):=by
  intro n
  induction n with
  | zero =>
    intro i out h ho
    have hi:i = K:=by omega
    subst hi
    have k1:¬ (i:Int) < (i:Int):=by omega
    have e:out ++ cycOf c k (B.drop i) = out:=by rw [List.drop_of_length_le (by omega)]; simp [cycOf]
    rw [e,a121l0_run]
    unfold MI
    simp (maxSteps:=1000000) only [si,simprocAttr,a121b0,a121R,k1]
  | succ n ih =>
    intro i out h ho
    have hi:i < K:=by omega
    have k1:(i:Int) < (K:Int):=by omega
    have wi:IntKind.i64.wrap ((i:Int) + 1) = ((i + 1:Nat):Int):=i64a (by omega)
    have hm:out.length + 1 ≤ 4294967296:=by omega
    have g1:=rowsI_get (A:=B) (i:=i) (by omega)
    have hof:=fun H=>r26_of hE c k (B.getD i []) N hc (hw i hi) (hb i hi) (hN i hi) H
    have hd:B.drop i = B.getD i [] :: B.drop (i + 1):=by
      rw [List.drop_eq_getElem_cons (by omega)]; simp [List.getD,show i < B.length by omega]
    have e:out ++ cycOf c k (B.drop i) = (out ++ [(chain26 c k (B.getD i [])).1]) ++ cycOf c k (B.drop (i + 1)):=by
      rw [hd]; simp [cycOf]
    rw [e,← ih (i + 1) (out ++ [(chain26 c k (B.getD i [])).1]) (by omega) (by simp; omega)]
    generalize (chain26 c k (B.getD i [])).1 = z at *
    have el:(out ++ [z]).length = out.length + 1:=by simp
    have em:(out ++ [z]).map chA = out.map chA ++ [.isl (z.map fA)]:=by simp [chA]
    rw [el,em]
    have hrB:=refs_rowsI B
    have hrc:=refs_cA c
    have hrz:=refs_fA z
    unfold MI
    conv=>lhs; rw [a121l0_run]
    simp (maxSteps:=1000000) only [si,simprocAttr,a121b0,a121R,k1,wi,g1,hof,hm,hrB,hrc,hrz,maxLenA]
theorem r26_cycles (c:List Cel) (k:Int) (K R' N:Nat) (B:List (List Int)) (hc:c.length < 2147483647) (hcb:∀ x ∈ c,x.b.length < 2147483648) (hB:B.length = K) (hK:K < 2147483647) (hw:∀ i,i < K → (B.getD i []).length < 2147483647)
    (hb:∀ i,i < K → ∀ y ∈ B.getD i [],y.natAbs ≤ N) (hN:∀ i,i < K → N * ((B.getD i []).length + 1) < BIG)
    (hl:0 ≤ k → ∀ H,call E GP 62 [MI (cellsC c k).length (cellsC c (IntKind.i64.wrap (k - 1))).length (bndC c k)] H = some (MI K R' B,H,false)) (H:Heap) :
    call E GP 121 [.isl (c.map cA),.int .i64 k] H = some (.isl ((if k < 0 then [] else cycOf c k B).map chA),H,false):=by
  rw [call_fun (hE _ _ _ (by decide)) (f:=a121) rfl rfl]
  have hrc:=refs_cA c
  by_cases h0:k < 0
  · rw [if_pos h0]
    simp (maxSteps:=1000000) only [si,simprocAttr,a121,a121R,hrc,h0,List.map_nil]
  · rw [if_neg h0]
    have hl:=hl (by omega)
    have hbd:=fun H=>r25_boundary hE c (by omega) hcb k H
    have h1:=cyc_loop hE c k K R' N B hc hB hK hw hb hN K 0 [] (by omega) rfl
    rw [List.drop_zero,List.nil_append] at h1
    simp only [Int.ofNat_zero,List.length_nil,List.map_nil] at h1
    have hr3:=refs_chA (cycOf c k B)
    have hs3:=solids_chA (cycOf c k B)
    have hz3:=fun n H=>fz_chA n H 3 (cycOf c k B)
    have htk:List.take (cycOf c k B).length ((cycOf c k B).map chA) = (cycOf c k B).map chA:=List.take_of_length_le (by simp)
    generalize cycOf c k B = L at *
    have hrB:=refs_rowsI
    have hsB:=solids_rowsI
    unfold MI at *
    simp (maxSteps:=1000000) only [si,simprocAttr,a121,a121R,hrc,h0,hl,hbd,h1,hrB,hsB,hr3,hs3,hz3,htk]
end Tor
namespace Tor
open Go
structure Dg where
  a:Int
  b:Int
  c:Int
  d:Int
def Dg.ok (x:Dg):Prop:=(-128 ≤ x.a ∧ x.a ≤ 127) ∧ (-128 ≤ x.b ∧ x.b ≤ 127) ∧ (-128 ≤ x.c ∧ x.c ≤ 127) ∧ (-128 ≤ x.d ∧ x.d ≤ 127)
def gA (x:Dg):AV:=.agg [.int .i8 x.a,.int .i8 x.b,.int .i8 x.c,.int .i8 x.d]
def Dg.cs (x:Dg):List Int:=[x.b.tmod 4,x.c.tmod 4,x.d.tmod 4]
def gB (L:List (List (Int × Int))) (e:List Int):List (Int × Int):=(L.zip e).foldl (fun b p=>add26 b p.1 p.2) []
def gDim (x:Dg):Int:=(IntKind.u8.wrap x.a).tmod 4
def gId (c:List Cel) (x:Dg):Int:=if c.length = 0 then 1 else (c.getD (c.length - 1) zC).id + 1 + (IntKind.u8.wrap x.a).tdiv 128
def grown (c:List Cel) (x:Dg) (L:List (List (Int × Int))):List Cel:=c ++ [⟨gId c x,gDim x,gB L x.cs⟩]
theorem u8w (n:Int):0 ≤ IntKind.u8.wrap n ∧ IntKind.u8.wrap n ≤ 255:=by
  simp [IntKind.wrap,IntKind.bits,IntKind.signed]; omega
theorem u8id {n:Int} (h:0 ≤ n ∧ n ≤ 255):IntKind.u8.wrap n = n:=by
  simp [IntKind.wrap,IntKind.bits,IntKind.signed]; omega
def gst (c:List Cel) (x:Dg) (L:List (List (Int × Int))) (dim:Int) (b:List (Int × Int)) (i:Int) (w10:AV):St :=
  { vars:=[.isl (c.map cA),gA x,.ptr 0 0 [],.isl [],.int .i64 dim,.isl (b.map fA),.int .i64 1,.isl (L.map chA),.int .i64 i,.u,w10,.u],heap:=[.var (gA x)],rs:=false }
variable {E:CallF} (hE:Free E)
include hE
theorem grow_step0 (c:List Cel) (x:Dg) (hx:x.ok) (L:List (List (Int × Int))) (dim:Int) (b:List (Int × Int)) (hi:0 < L.length) (hL:L.length < 2147483648)
    (hadd:∀ H,call E GP 16 [.isl (b.map fA),.isl ((L.getD 0 []).map fA),Z (x.b.tmod 4)] H = some (.isl ((add26 b (L.getD 0 []) (x.b.tmod 4)).map fA),H,false)) :
    run E GP a28l0 (gst c x L dim b 0 .u) = run E GP a28l0 (gst c x L dim (add26 b (L.getD 0 []) (x.b.tmod 4)) 1 .u):=by
  have k1:(0:Int) < (L.length:Int):=by omega
  have g1:=chA_get hi
  have hok:=hx
  obtain ⟨h0,h1,h2,h3⟩:=hok
  have t1:=Int.tmod_lt_of_pos x.b (show (0:Int) < 4 by omega)
  have t2:=Int.lt_tmod_of_pos x.b (show (0:Int) < 4 by omega)
  have wt:IntKind.i64.wrap (x.b.tmod 4) = x.b.tmod 4:=i64w (by omega)
  have h14:=fun H=>r1_of hE (x.b.tmod 4) H (by omega) (by omega)
  have w1:IntKind.i64.wrap 1 = 1:=by decide
  generalize add26 b (L.getD 0 []) (x.b.tmod 4) = b' at *
  generalize L.getD 0 [] = l at *
  have r1:=refs_fA b
  have r2:=refs_fA b'
  have r3:=refs_chA L
  have r4:=refs_cA c
  unfold gst gA
  conv=>lhs; rw [a28l0_run]
  simp (maxSteps:=1000000) only [si,simprocAttr,a28b0,a28R,k1,g1,wt,w1,h14,hadd,r1,r2,r3,r4]
theorem grow_step1 (c:List Cel) (x:Dg) (hx:x.ok) (L:List (List (Int × Int))) (dim:Int) (b:List (Int × Int)) (hi:1 < L.length) (hL:L.length < 2147483648)
    (hadd:∀ H,call E GP 16 [.isl (b.map fA),.isl ((L.getD 1 []).map fA),Z (x.c.tmod 4)] H = some (.isl ((add26 b (L.getD 1 []) (x.c.tmod 4)).map fA),H,false)) :
    run E GP a28l0 (gst c x L dim b 1 .u) = run E GP a28l0 (gst c x L dim (add26 b (L.getD 1 []) (x.c.tmod 4)) 2 .u):=by
  have k1:(1:Int) < (L.length:Int):=by omega
  have g1:=chA_get hi
  have hok:=hx
  obtain ⟨h0,h1,h2,h3⟩:=hok
  have t1:=Int.tmod_lt_of_pos x.c (show (0:Int) < 4 by omega)
  have t2:=Int.lt_tmod_of_pos x.c (show (0:Int) < 4 by omega)
  have wt:IntKind.i64.wrap (x.c.tmod 4) = x.c.tmod 4:=i64w (by omega)
  have h14:=fun H=>r1_of hE (x.c.tmod 4) H (by omega) (by omega)
  have w1:IntKind.i64.wrap 2 = 2:=by decide
  generalize add26 b (L.getD 1 []) (x.c.tmod 4) = b' at *
  generalize L.getD 1 [] = l at *
  have r1:=refs_fA b
  have r2:=refs_fA b'
  have r3:=refs_chA L
  have r4:=refs_cA c
  unfold gst gA
  conv=>lhs; rw [a28l0_run]
  simp (maxSteps:=1000000) only [si,simprocAttr,a28b0,a28R,k1,g1,wt,w1,h14,hadd,r1,r2,r3,r4]
theorem grow_step2 (c:List Cel) (x:Dg) (hx:x.ok) (L:List (List (Int × Int))) (dim:Int) (b:List (Int × Int)) (hi:2 < L.length) (hL:L.length < 2147483648)
    (hadd:∀ H,call E GP 16 [.isl (b.map fA),.isl ((L.getD 2 []).map fA),Z (x.d.tmod 4)] H = some (.isl ((add26 b (L.getD 2 []) (x.d.tmod 4)).map fA),H,false)) :
    run E GP a28l0 (gst c x L dim b 2 .u) = run E GP a28l0 (gst c x L dim (add26 b (L.getD 2 []) (x.d.tmod 4)) 3 .u):=by
  have k1:(2:Int) < (L.length:Int):=by omega
  have g1:=chA_get hi
  have hok:=hx
  obtain ⟨h0,h1,h2,h3⟩:=hok
  have t1:=Int.tmod_lt_of_pos x.d (show (0:Int) < 4 by omega)
  have t2:=Int.lt_tmod_of_pos x.d (show (0:Int) < 4 by omega)
  have wt:IntKind.i64.wrap (x.d.tmod 4) = x.d.tmod 4:=i64w (by omega)
  have h14:=fun H=>r1_of hE (x.d.tmod 4) H (by omega) (by omega)
  have w1:IntKind.i64.wrap 3 = 3:=by decide
  generalize add26 b (L.getD 2 []) (x.d.tmod 4) = b' at *
  generalize L.getD 2 [] = l at *
  have r1:=refs_fA b
  have r2:=refs_fA b'
  have r3:=refs_chA L
  have r4:=refs_cA c
  unfold gst gA
  conv=>lhs; rw [a28l0_run]
  simp (maxSteps:=1000000) only [si,simprocAttr,a28b0,a28R,k1,g1,wt,w1,h14,hadd,r1,r2,r3,r4]
theorem grow_end (c:List Cel) (x:Dg) (L:List (List (Int × Int))) (dim:Int) (b:List (Int × Int)) (i:Nat) (hi:L.length ≤ i ∨ i = 3) (hi3:i ≤ 3) :
    run E GP a28l0 (gst c x L dim b i .u) = some (.exit 0,gst c x L dim b i (.bool false)):=by
  unfold gst gA
  rw [a28l0_run]
  by_cases h:L.length ≤ i
  · have k1:¬ (i:Int) < (L.length:Int):=by omega
    simp (maxSteps:=1000000) only [si,simprocAttr,a28b0,a28R,k1]
  · have e:i = 3:=by omega
    subst e
    have k1:(3:Int) < (L.length:Int):=by omega
    simp (maxSteps:=1000000) only [si,simprocAttr,a28b0,a28R,k1]
theorem r26_grown (c:List Cel) (x:Dg) (hx:x.ok) (L:List (List (Int × Int))) (N Lc:Nat) (hc:c.length < 2147483647) (hid:∀ y ∈ c,-1000000000 ≤ y.id ∧ y.id ≤ 1000000000) (hL:L.length < 2147483648)
    (hcyc:∀ H,call E GP 121 [.isl (c.map cA),.int .i64 (gDim x - 1)] H = some (.isl (L.map chA),H,false))
    (hN:∀ l ∈ L,Bd N l ∧ l.length ≤ Lc) (hbig:12 * N * (Lc + 1) < BIG) (hLc:Lc < 100000) (H:Heap) :
    call E GP 28 [.isl (c.map cA),gA x] H = some (.isl ((grown c x L).map cA),H,false):=by
  rw [call_fun (hE _ _ _ (by decide)) (f:=a28) rfl rfl]
  have hadd:∀ (b l:List (Int × Int)) (e:Int) (i:Nat),l ∈ L → i ≤ 3 → -3 ≤ e → e ≤ 3 → Bd (3 * N * Lc * i) b → b.length ≤ Lc * i →
      (∀ H,call E GP 16 [.isl (b.map fA),.isl (l.map fA),Z e] H = some (.isl ((add26 b l e).map fA),H,false)) ∧ Bd (3 * N * Lc * (i + 1)) (add26 b l e) ∧ (add26 b l e).length ≤ Lc * (i + 1):=by
    intro b l e i hl hi he1 he2 hb hbl
    obtain ⟨n1,n2⟩:=hN l hl
    have hp:∀ p ∈ l,(e * p.2).natAbs ≤ 3 * N:=fun p hp=>by
      rw [Int.natAbs_mul]; exact Nat.mul_le_mul (by omega) (n1 p hp)
    have m1:3 * N * Lc * i ≤ 3 * N * Lc * 3:=Nat.mul_le_mul_left _ hi
    have m2:3 * N * (l.length + 1) ≤ 3 * N * (Lc + 1):=Nat.mul_le_mul_left _ (by omega)
    have m3:3 * N * Lc * 3 + 3 * N * (Lc + 1) ≤ 12 * N * (Lc + 1):=by
      have e1:3 * N * Lc * 3 = 9 * (N * Lc):=by rw [Nat.mul_assoc 3 N Lc]; omega
      have e2:3 * N * (Lc + 1) = 3 * (N * Lc) + 3 * N:=by rw [Nat.mul_assoc,Nat.mul_add,Nat.mul_one,Nat.mul_add]
      have e3:12 * N * (Lc + 1) = 12 * (N * Lc) + 12 * N:=by rw [Nat.mul_assoc,Nat.mul_add,Nat.mul_one,Nat.mul_add]
      omega
    have m4:Lc * i ≤ Lc * 3:=Nat.mul_le_mul_left _ hi
    have hNb:N < BIG:=by
      have:N ≤ 12 * N * (Lc + 1):=Nat.le_trans (show N ≤ 12 * N by omega) (Nat.le_mul_of_pos_right _ (by omega))
      omega
    have hab:=add_bd e l b (3 * N * Lc * i) hp hb
    have mm:3 * N * l.length ≤ 3 * N * Lc:=Nat.mul_le_mul_left _ n2
    refine ⟨fun H=>r26_add hE b l e (3 * N * Lc * i) (3 * N) hb (sm_of (N:=3) (Nat.lt_of_lt_of_le (by decide) big_le) (by simp only; omega)) (fun p hp=>sm_of hNb (n1 p hp)) hp (by omega) (by omega) (by omega) H,?_,?_⟩
    · refine bd_mono ?_ hab.1
      rw [Nat.mul_succ]; omega
    · have:=hab.2
      rw [Nat.mul_succ]; omega
  obtain ⟨h0,h1,h2,h3⟩:=id hx
  have ts:∀ y:Int,-3 ≤ y.tmod 4 ∧ y.tmod 4 ≤ 3:=fun y=>by
    have t1:=Int.tmod_lt_of_pos y (show (0:Int) < 4 by omega)
    have t2:=Int.lt_tmod_of_pos y (show (0:Int) < 4 by omega)
    omega
  have b0:Bd (3 * N * Lc * 0) []:=fun p hp=>by cases hp
  have loop:∃ i:Nat,run E GP a28l0 (gst c x L (gDim x) [] 0 .u) = some (.exit 0,gst c x L (gDim x) (gB L x.cs) i (.bool false)):=by
    unfold gB Dg.cs
    match hLL:L,hL,hN,hadd with
    | [],hL,hN,hadd=>exact ⟨0,grow_end hE c x [] (gDim x) [] 0 (.inl (Nat.le_refl _)) (by omega)⟩
    | [l1],hL,hN,hadd =>
      obtain ⟨a1,a2,a3⟩:=hadd [] l1 (x.b.tmod 4) 0 (.head _) (by omega) (ts _).1 (ts _).2 b0 (Nat.zero_le _)
      rw [grow_step0 hE c x hx [l1] (gDim x) [] (by simp) hL a1]
      exact ⟨1,grow_end hE c x [l1] (gDim x) _ 1 (.inl (Nat.le_refl _)) (by omega)⟩
    | [l1,l2],hL,hN,hadd =>
      obtain ⟨a1,a2,a3⟩:=hadd [] l1 (x.b.tmod 4) 0 (.head _) (by omega) (ts _).1 (ts _).2 b0 (Nat.zero_le _)
      obtain ⟨c1,c2,c3⟩:=hadd (add26 [] l1 (x.b.tmod 4)) l2 (x.c.tmod 4) 1 (.tail _ (.head _)) (by omega) (ts _).1 (ts _).2 a2 a3
      rw [grow_step0 hE c x hx [l1,l2] (gDim x) [] (by simp) hL a1]
      refine ⟨2,?_⟩
      have:=grow_step1 hE c x hx [l1,l2] (gDim x) (add26 [] l1 (x.b.tmod 4)) (by simp) hL c1
      exact this.trans (grow_end hE c x [l1,l2] (gDim x) _ 2 (.inl (Nat.le_refl _)) (by omega))
    | l1 :: l2 :: l3 :: r,hL,hN,hadd =>
      obtain ⟨a1,a2,a3⟩:=hadd [] l1 (x.b.tmod 4) 0 (.head _) (by omega) (ts _).1 (ts _).2 b0 (Nat.zero_le _)
      obtain ⟨c1,c2,c3⟩:=hadd (add26 [] l1 (x.b.tmod 4)) l2 (x.c.tmod 4) 1 (.tail _ (.head _)) (by omega) (ts _).1 (ts _).2 a2 a3
      obtain ⟨d1,d2,d3⟩:=hadd (add26 (add26 [] l1 (x.b.tmod 4)) l2 (x.c.tmod 4)) l3 (x.d.tmod 4) 2 (.tail _ (.tail _ (.head _))) (by omega) (ts _).1 (ts _).2 c2 c3
      rw [grow_step0 hE c x hx (l1 :: l2 :: l3 :: r) (gDim x) [] (by simp) hL a1]
      refine ⟨3,?_⟩
      have e1:=grow_step1 hE c x hx (l1 :: l2 :: l3 :: r) (gDim x) (add26 [] l1 (x.b.tmod 4)) (by simp) hL c1
      have e2:=grow_step2 hE c x hx (l1 :: l2 :: l3 :: r) (gDim x) (add26 (add26 [] l1 (x.b.tmod 4)) l2 (x.c.tmod 4)) (by simp) hL d1
      exact e1.trans (e2.trans (by simpa using grow_end hE c x (l1 :: l2 :: l3 :: r) (gDim x) _ 3 (.inr rfl) (by omega)))
  obtain ⟨i,hl⟩:=loop
  have hu:=u8w x.a
  have td1:=Int.tmod_lt_of_pos (IntKind.u8.wrap x.a) (show (0:Int) < 4 by omega)
  have td2:=Int.tmod_nonneg 4 hu.1
  have wd:IntKind.i64.wrap ((IntKind.u8.wrap x.a).tmod 4) = gDim x:=i64w (by omega)
  have wd1:IntKind.i64.wrap (gDim x - 1) = gDim x - 1:=i64w (by unfold gDim; omega)
  have hr1:=refs_cA c
  have hs1:=solids_cA c
  have hr2:=refs_chA L
  have hr3:=refs_fA (gB L x.cs)
  have hs3:=solids_fA (gB L x.cs)
  have hk:=gB L x.cs
  unfold grown gId
  rw [List.map_append]
  generalize gB L x.cs = gb at *
  have hz1:∀ n H,(c.map cA).map (fz n H 7) = c.map cA:=fun n H=>by
    rw [List.map_map]; apply List.map_congr_left; intro y _; exact fz_cA n H 1 y
  have hsz:headSize 3 (c.map cA) = true:=by cases c <;> rfl
  unfold gst gA at hl
  simp only [List.map_nil] at hl
  by_cases h0:c.length = 0
  · have hc0:c = []:=List.length_eq_zero_iff.1 h0
    rw [if_pos h0]
    subst hc0
    have hg:¬ ((0:Int) > 0):=by omega
    simp only [List.map_nil,List.map_cons,List.nil_append,cA] at hl hcyc ⊢
    unfold gA
    simp (maxSteps:=1000000) only [si,simprocAttr,doBox,a28,a28R,hr1,hr2,hr3,hs3,hcyc,hl,wd,wd1,List.length_nil,maxLenA,List.nil_append,fz_fAs7,List.map_nil,fz_fAs]
  · rw [if_neg h0]
    have hg:(c.length:Int) > 0:=by omega
    have hlt:c.length - 1 < c.length:=by omega
    have hgl:=cA_get hlt
    have hidl:=hid _ (List.getElem_mem hlt)
    have egd:c.getD (c.length - 1) zC = c[c.length - 1]:=by simp [List.getD,hlt]
    rw [egd]
    have wl:IntKind.i64.wrap ((c.length:Int) - 1) = ((c.length - 1:Nat):Int):=by rw [i64w (by omega)]; omega
    generalize c[c.length - 1] = last at *
    have hq1:=Int.tdiv_nonneg hu.1 (show (0:Int) ≤ 128 by omega)
    have hq2:(IntKind.u8.wrap x.a).tdiv 128 ≤ 1:=by
      rw [Int.tdiv_eq_ediv_of_nonneg hu.1]; omega
    have w2:IntKind.u8.wrap ((IntKind.u8.wrap x.a).tdiv 128) = (IntKind.u8.wrap x.a).tdiv 128:=u8id (by omega)
    have w3:IntKind.i64.wrap ((IntKind.u8.wrap x.a).tdiv 128) = (IntKind.u8.wrap x.a).tdiv 128:=i64w (by omega)
    have w4:IntKind.i64.wrap (last.id + 1) = last.id + 1:=i64w (by omega)
    have w5:IntKind.i64.wrap (last.id + 1 + (IntKind.u8.wrap x.a).tdiv 128) = last.id + 1 + (IntKind.u8.wrap x.a).tdiv 128:=i64w (by omega)
    have hm1:c.length ≤ 4294967296:=by omega
    have hm2:c.length + 1 ≤ 4294967296:=by omega
    have hW:∃ W:List AV,W = c.map cA ++ [⟨last.id + 1 + (IntKind.u8.wrap x.a).tdiv 128,gDim x,gb⟩].map cA ∧ W.length = c.length + 1 ∧ AV.hasRefs W = false ∧ AV.solids W = true ∧ ∀ n H,W.map (fz n H 7) = W:=by
      refine ⟨_,rfl,by simp,?_,?_,fun n H=>?_⟩
      · rw [← List.map_append]; exact refs_cA _
      · rw [← List.map_append]; exact solids_cA _
      · rw [← List.map_append,List.map_map]; apply List.map_congr_left; intro y _; exact fz_cA n H 1 y
    obtain ⟨W,hW,hW1,hW2,hW3,hW4⟩:=hW
    rw [← hW]
    simp only [List.map_cons,List.map_nil,cA] at hW
    have hWl:c.length + 1 ≤ W.length:=by omega
    have hWt:List.take (c.length + 1) W = W:=List.take_of_length_le (by omega)
    unfold gA
    simp (maxSteps:=1000000) only [← hW,hWl,hWt,hW2,hW3,hW4,si,simprocAttr,doBox,a28,a28R,hr1,hs1,hr2,hr3,hs3,hcyc,hl,wd,wd1,hg,hgl,wl,w2,w3,w4,w5,hm1,hm2,hsz,hz1,maxLenA,List.nil_append,fz_fAs7,List.map_nil,List.map_cons,cA]
end Tor
namespace Tor
open Go
def Sha (R C:Nat) (M:List (List Int)):Prop:=M.length = R ∧ ∀ i,i < R → (M.getD i []).length = C
theorem at2_out {R C:Nat} {M:List (List Int)} (h:Sha R C M) {i t:Nat} (ho:R ≤ i ∨ C ≤ t):at2 M i t = 0:=by
  unfold at2
  rcases Nat.lt_or_ge i R with hi | hi
  · have hw:=h.2 i hi
    have ht:C ≤ t:=by omega
    rw [List.getD,List.getElem?_eq_none (by omega)]; rfl
  · have:M.getD i [] = []:=by rw [List.getD,List.getElem?_eq_none (by rw [h.1]; exact hi)]; rfl
    rw [this]; rfl
theorem shp_set {R C:Nat} {M:List (List Int)} (h:Sha R C M) (i:Nat) {r:List Int} (hr:r.length = C):Sha R C (M.set i r):=by
  refine ⟨by simp [h.1],fun j hj=>?_⟩
  by_cases hij:i = j
  · subst hij; rw [gets_self _ _ _ _ (by rw [h.1]; exact hj)]; exact hr
  · rw [gets_ne _ _ _ _ _ hij]; exact h.2 j hj
theorem shp_map {R C:Nat} {M:List (List Int)} (h:Sha R C M) (f:List Int → List Int) (hf:∀ x,(f x).length = x.length):Sha R C (M.map f):=by
  refine ⟨by simp [h.1],fun j hj=>?_⟩
  have hl:j < M.length:=by rw [h.1]; exact hj
  have:=h.2 j hj
  simp only [List.getD,List.getElem?_map,List.getElem?_eq_getElem hl,Option.map_some,Option.getD_some] at this ⊢
  rw [hf]; exact this
theorem shp_addRow {R C:Nat} {M:List (List Int)} (h:Sha R C M) {i j:Nat} (hi:i < R) (hj:j < R) (k:Int):Sha R C (addRow M i j k) :=
  shp_set h i (by rw [List.length_zipWith,h.2 i hi,h.2 j hj,Nat.min_self])
theorem shp_swap {R C:Nat} {M:List (List Int)} (h:Sha R C M) {i j:Nat} (hi:i < R) (hj:j < R):Sha R C (swapL [] M i j) :=
  shp_set (shp_set h i (h.2 j hj)) j (h.2 i hi)
theorem shp_neg {R C:Nat} {M:List (List Int)} (h:Sha R C M) {i:Nat} (hi:i < R):Sha R C (negRow M i) :=
  shp_set h i (by rw [List.length_map]; exact h.2 i hi)
theorem shp_subCol {R C:Nat} {M:List (List Int)} (h:Sha R C M) (i j:Nat) (k:Int):Sha R C (subCol M i j k):=shp_map h _ (by simp)
theorem shp_swapCol {R C:Nat} {M:List (List Int)} (h:Sha R C M) (i j:Nat):Sha R C (swapCol M i j):=shp_map h _ (fun x=>swapL_len 0 x i j)
theorem shp_negCol {R C:Nat} {M:List (List Int)} (h:Sha R C M) (i:Nat):Sha R C (negColA M i):=shp_map h _ (by simp)
theorem at2_addRow {R C:Nat} {M:List (List Int)} (h:Sha R C M) {i j:Nat} (hi:i < R) (hj:j < R) (k:Int) (a t:Nat) :
    at2 (addRow M i j k) a t = if a = i then at2 M i t + k * at2 M j t else at2 M a t:=by
  split
  · rename_i ha
    subst ha
    rcases Nat.lt_or_ge t C with ht | ht
    · exact addRow_same k (by rw [h.1]; exact hi) (by rw [h.2 a hi]; exact ht) (by rw [h.2 j hj]; exact ht)
    · rw [at2_out (shp_addRow h hi hj k) (.inr ht),at2_out h (.inr ht),at2_out h (.inr ht)]; simp
  · rename_i ha
    unfold at2; rw [addRow_other k ha]
def sw (i j a:Nat):Nat:=if a = j then i else if a = i then j else a
theorem at2_swap {R C:Nat} {M:List (List Int)} (h:Sha R C M) {i j:Nat} (hi:i < R) (hj:j < R) (a t:Nat):at2 (swapL [] M i j) a t = at2 M (sw i j a) t:=by
  unfold at2 sw; rw [swapL_get [] M i j a (by rw [h.1]; exact hi) (by rw [h.1]; exact hj)]
theorem at2_neg {R C:Nat} {M:List (List Int)} (h:Sha R C M) {i:Nat} (hi:i < R) (a t:Nat):at2 (negRow M i) a t = if a = i then -at2 M i t else at2 M a t:=by
  unfold at2 negRow
  split
  · rename_i ha
    subst ha
    rw [gets_self _ _ _ _ (by rw [h.1]; exact hi)]
    simp only [List.getD,List.getElem?_map]
    cases (M[a]?.getD [])[t]? <;> simp
  · rename_i ha
    rw [gets_ne _ _ _ _ _ (fun e=>ha e.symm)]
theorem at2_subCol {R C:Nat} {M:List (List Int)} (h:Sha R C M) {i j:Nat} (hj:j < C) (k:Int) (a t:Nat) :
    at2 (subCol M i j k) a t = if t = j then at2 M a j - k * at2 M a i else at2 M a t:=by
  unfold at2 subCol
  rcases Nat.lt_or_ge a R with ha | ha
  · have hl:a < M.length:=by rw [h.1]; exact ha
    have hw:=h.2 a ha
    have e:(M.map fun x=>x.set j (x.getD j 0 - k * x.getD i 0)).getD a [] = (M.getD a []).set j ((M.getD a []).getD j 0 - k * (M.getD a []).getD i 0):=by
      simp [List.getD,List.getElem?_map,List.getElem?_eq_getElem hl]
    rw [e]
    generalize M.getD a [] = x at *
    split
    · rename_i ht; subst ht; rw [gets_self _ _ _ _ (by omega)]
    · rename_i ht; rw [gets_ne _ _ _ _ _ (fun e=>ht e.symm)]
  · have e1:M.getD a [] = []:=by rw [List.getD,List.getElem?_eq_none (by rw [h.1]; exact ha)]; rfl
    have e2:(M.map fun x=>x.set j (x.getD j 0 - k * x.getD i 0)).getD a [] = []:=by rw [List.getD,List.getElem?_eq_none (by rw [List.length_map,h.1]; exact ha)]; rfl
    rw [e1,e2]; simp [List.getD]
theorem at2_swapCol {R C:Nat} {M:List (List Int)} (h:Sha R C M) {i j:Nat} (hi:i < C) (hj:j < C) (a t:Nat):at2 (swapCol M i j) a t = at2 M a (sw i j t):=by
  unfold at2 swapCol sw
  rcases Nat.lt_or_ge a R with ha | ha
  · have hl:a < M.length:=by rw [h.1]; exact ha
    have hw:=h.2 a ha
    have e:(M.map fun x=>swapL 0 x i j).getD a [] = swapL 0 (M.getD a []) i j:=by simp [List.getD,List.getElem?_map,List.getElem?_eq_getElem hl]
    rw [e,swapL_get 0 _ i j t (by omega) (by omega)]
  · have e1:M.getD a [] = []:=by rw [List.getD,List.getElem?_eq_none (by rw [h.1]; exact ha)]; rfl
    have e2:(M.map fun x=>swapL 0 x i j).getD a [] = []:=by rw [List.getD,List.getElem?_eq_none (by rw [List.length_map,h.1]; exact ha)]; rfl
    rw [e1,e2]; simp [List.getD]
theorem at2_negCol {R C:Nat} {M:List (List Int)} (h:Sha R C M) {i:Nat} (hi:i < C) (a t:Nat):at2 (negColA M i) a t = if t = i then -at2 M a i else at2 M a t:=by
  unfold at2 negColA
  rcases Nat.lt_or_ge a R with ha | ha
  · have hl:a < M.length:=by rw [h.1]; exact ha
    have hw:=h.2 a ha
    have e:(M.map fun x=>x.set i (-x.getD i 0)).getD a [] = (M.getD a []).set i (-(M.getD a []).getD i 0):=by
      simp [List.getD,List.getElem?_map,List.getElem?_eq_getElem hl]
    rw [e]
    generalize M.getD a [] = x at *
    split
    · rename_i ht; subst ht; rw [gets_self _ _ _ _ (by omega)]
    · rename_i ht; rw [gets_ne _ _ _ _ _ (fun e=>ht e.symm)]
  · have e1:M.getD a [] = []:=by rw [List.getD,List.getElem?_eq_none (by rw [h.1]; exact ha)]; rfl
    have e2:(M.map fun x=>x.set i (-x.getD i 0)).getD a [] = []:=by rw [List.getD,List.getElem?_eq_none (by rw [List.length_map,h.1]; exact ha)]; rfl
    rw [e1,e2]; simp [List.getD]
theorem euc_w {t y fl:Int} {m p q:Nat} (hy:y ≠ 0) (hf:fl = t / y) (hq:1 ≤ q) :
    (p + fl.natAbs * q) * y.natAbs + q * (t % y).natAbs ≤ p * y.natAbs + q * t.natAbs + 2 * (q * (t % y).natAbs) ∧
    (0 ≤ t → 0 ≤ y → (p + fl.natAbs * q) * y.natAbs + q * (t % y).natAbs = p * y.natAbs + q * t.natAbs):=by
  have e:=Int.emod_add_mul_ediv t y
  have n0:=Int.emod_nonneg t hy
  have e1:(p + fl.natAbs * q) * y.natAbs = p * y.natAbs + q * (fl.natAbs * y.natAbs):=by
    rw [Nat.add_mul,Nat.mul_comm fl.natAbs q,Nat.mul_assoc]
  have e2:fl.natAbs * y.natAbs = (y * (t / y)).natAbs:=by rw [hf,Int.natAbs_mul,Nat.mul_comm]
  generalize hw:y * (t / y) = w at *
  generalize t % y = r at *
  rw [e1,e2]
  constructor
  · have:w.natAbs ≤ t.natAbs + r.natAbs:=by omega
    have:=Nat.mul_le_mul_left q this
    rw [Nat.mul_add] at this; omega
  · intro h1 h2
    have hwn:0 ≤ w:=by rw [← hw]; exact Int.mul_nonneg h2 (Int.ediv_nonneg h1 h2)
    have:w.natAbs + r.natAbs = t.natAbs:=by omega
    have h3:q * (w.natAbs + r.natAbs) = q * t.natAbs:=by rw [this]
    rw [Nat.mul_add] at h3; omega
end Tor
namespace Tor
open Go
structure RelOk (R C:Nat) (Rl:MP):Prop where
  add:∀ M U V i j k,Sha R C M → Sha R R U → Sha R R V → i < R → j < R → i ≠ j → Rl M U V → Rl (addRow M i j k) (addRow U i j k) (subCol V i j k)
  swap:∀ M U V i j,Sha R C M → Sha R R U → Sha R R V → i < R → j < R → i ≠ j → Rl M U V → Rl (swapL [] M i j) (swapL [] U i j) (swapCol V i j)
  neg:∀ M U V i,Sha R C M → Sha R R U → Sha R R V → i < R → Rl M U V → Rl (negRow M i) (negRow U i) (negColA V i)
structure Base (R C:Nat) (Rl:MP) (c top:Nat) (M U V:List (List Int)):Prop where
  sM:Sha R C M
  sU:Sha R R U
  sV:Sha R R V
  rl:Rl M U V
  z:∀ a t,top ≤ a → t < c → at2 M a t = 0
  nz:∀ j,j < top → ∃ p,p < c ∧ at2 M j p ≠ 0
def Bm (M:List (List Int)) (m:Nat):Prop:=∀ a t,(at2 M a t).natAbs ≤ m
def B3 (M U V:List (List Int)) (m:Nat):Prop:=Bm M m ∧ Bm U m ∧ Bm V m
theorem bm_mono {M m n} (h:m ≤ n) (hb:Bm M m):Bm M n:=fun a t=>Nat.le_trans (hb a t) h
theorem b3_mono {M U V m n} (h:m ≤ n) (hb:B3 M U V m):B3 M U V n:=⟨bm_mono h hb.1,bm_mono h hb.2.1,bm_mono h hb.2.2⟩
theorem fit_big {x:Int} (h:x.natAbs < BIG):Fit x:=by
  have:=big_len h
  unfold Fit; omega
theorem fits_b3 {M U V m} (hm:m < BIG) (h:B3 M U V m):Fits3 M U V :=
  ⟨fun i t=>fit_big (Nat.lt_of_le_of_lt (h.1 i t) hm),fun i t=>fit_big (Nat.lt_of_le_of_lt (h.2.1 i t) hm),fun i t=>fit_big (Nat.lt_of_le_of_lt (h.2.2 i t) hm)⟩
def flq (M:List (List Int)) (top i c:Nat):Int:=at2 M top c / at2 M i c
theorem at2_eucG {R C:Nat} {X M:List (List Int)} (h:Sha R C X) {top i c:Nat} (ht:top < R) (hi:i < R) (hne:top ≠ i) (a s:Nat) :
    at2 (if at2 M top c = 0 then swapL [] X top i else swapL [] (addRow X top i (-(at2 M top c / at2 M i c))) top i) a s =
      if a = i then at2 X top s - flq M top i c * at2 X i s else if a = top then at2 X i s else at2 X a s:=by
  unfold flq
  by_cases h0:at2 M top c = 0
  · rw [if_pos h0,at2_swap h ht hi,h0,Int.zero_ediv,Int.zero_mul,Int.sub_zero]
    unfold sw; split
    · rfl
    · split <;> rfl
  · rw [if_neg h0,at2_swap (shp_addRow h ht hi _) ht hi,at2_addRow h ht hi]
    unfold sw
    by_cases e1:a = i
    · rw [if_pos e1,if_pos rfl,if_pos e1,Int.neg_mul]; rfl
    · rw [if_neg e1,if_neg e1]
      by_cases e2:a = top
      · rw [if_pos e2,if_pos e2,if_neg (fun e=>hne e.symm)]
      · rw [if_neg e2,if_neg e2,if_neg e2]
theorem at2_eucV {R:Nat} {V M:List (List Int)} (h:Sha R R V) {top i c:Nat} (ht:top < R) (hi:i < R) (hne:top ≠ i) (a s:Nat) :
    at2 (eucV M V top i c) a s = if s = top then at2 V a i + flq M top i c * at2 V a top else if s = i then at2 V a top else at2 V a s:=by
  unfold flq eucV
  by_cases h0:at2 M top c = 0
  · rw [if_pos h0,at2_swapCol h ht hi,h0,Int.zero_ediv,Int.zero_mul,Int.add_zero]
    unfold sw
    by_cases e1:s = i
    · rw [if_pos e1,if_neg (by omega),if_pos e1]
    · rw [if_neg e1,if_neg e1]; split <;> rfl
  · rw [if_neg h0,at2_swapCol (shp_subCol h _ _ _) ht hi,at2_subCol h hi]
    unfold sw
    by_cases e1:s = i
    · rw [if_pos e1,if_neg hne,if_neg (by omega),if_pos e1]
    · rw [if_neg e1,if_neg e1]
      by_cases e2:s = top
      · rw [if_pos e2,if_pos rfl,if_pos e2,Int.neg_mul,Int.sub_neg]
      · rw [if_neg e2,if_neg e1,if_neg e2]
def Wt (M:List (List Int)) (m top i p q:Nat):Prop:=∀ a t,(at2 M a t).natAbs ≤ (if a = top then p else if a = i then q else 1) * m
def WtC (V:List (List Int)) (m top i p q:Nat):Prop:=∀ a t,(at2 V a t).natAbs ≤ (if t = top then q else if t = i then p else 1) * m
theorem lin_le {x y f:Int} {p q m:Nat} (hx:x.natAbs ≤ p * m) (hy:y.natAbs ≤ q * m):(x - f * y).natAbs ≤ (p + f.natAbs * q) * m ∧ (x + f * y).natAbs ≤ (p + f.natAbs * q) * m:=by
  have h1:(f * y).natAbs ≤ f.natAbs * (q * m):=by rw [Int.natAbs_mul]; exact Nat.mul_le_mul_left _ hy
  have h2:(p + f.natAbs * q) * m = p * m + f.natAbs * (q * m):=by rw [Nat.add_mul,Nat.mul_assoc]
  constructor <;> omega
theorem wt_euc {R C:Nat} {X M:List (List Int)} (h:Sha R C X) {top i c:Nat} (ht:top < R) (hi:i < R) (hne:top ≠ i) {m p q:Nat} (hw:Wt X m top i p q) :
    Wt (if at2 M top c = 0 then swapL [] X top i else swapL [] (addRow X top i (-(at2 M top c / at2 M i c))) top i) m top i q (p + (flq M top i c).natAbs * q):=by
  intro a s
  rw [at2_eucG h ht hi hne]
  have h1:=hw top s
  have h2:=hw i s
  have h3:=hw a s
  rw [if_pos rfl] at h1
  rw [if_neg (fun e=>hne e.symm),if_pos rfl] at h2
  by_cases e1:a = i
  · rw [if_pos e1,if_neg (by omega),if_pos e1]; exact (lin_le h1 h2).1
  · rw [if_neg e1]
    by_cases e2:a = top
    · rw [if_pos e2,if_pos e2]; exact h2
    · rw [if_neg e2,if_neg e1] at h3
      rw [if_neg e2,if_neg e2,if_neg e1]; exact h3
theorem wtC_euc {R:Nat} {V M:List (List Int)} (h:Sha R R V) {top i c:Nat} (ht:top < R) (hi:i < R) (hne:top ≠ i) {m p q:Nat} (hw:WtC V m top i p q) :
    WtC (eucV M V top i c) m top i q (p + (flq M top i c).natAbs * q):=by
  intro a s
  rw [at2_eucV h ht hi hne]
  have h1:=hw a top
  have h2:=hw a i
  have h3:=hw a s
  rw [if_pos rfl] at h1
  rw [if_neg (fun e=>hne e.symm),if_pos rfl] at h2
  by_cases e2:s = top
  · rw [if_pos e2,if_pos e2]; exact (lin_le h2 h1).2
  · rw [if_neg e2,if_neg e2]
    by_cases e1:s = i
    · rw [if_pos e1,if_pos e1]; exact h1
    · rw [if_neg e2,if_neg e1] at h3
      rw [if_neg e1,if_neg e1]; exact h3
theorem base_euc {R C:Nat} {Rl:MP} (hR:RelOk R C Rl) {c top i:Nat} {M U V} (ht:top < R) (hi:i < R) (hti:top < i) (h:Base R C Rl c top M U V) :
    Base R C Rl c top (eucM M top i c) (eucU M U top i c) (eucV M V top i c):=by
  have hne:top ≠ i:=by omega
  have hm:∀ a s,at2 (eucM M top i c) a s = if a = i then at2 M top s - flq M top i c * at2 M i s else if a = top then at2 M i s else at2 M a s:=fun a s=>by
    unfold eucM; exact at2_eucG h.sM ht hi hne a s
  refine ⟨?_,?_,?_,?_,fun a t ha htc=>?_,fun j hj=>?_⟩
  · unfold eucM; split
    · exact shp_swap h.sM ht hi
    · exact shp_swap (shp_addRow h.sM ht hi _) ht hi
  · unfold eucU; split
    · exact shp_swap h.sU ht hi
    · exact shp_swap (shp_addRow h.sU ht hi _) ht hi
  · unfold eucV; split
    · exact shp_swapCol h.sV _ _
    · exact shp_swapCol (shp_subCol h.sV _ _ _) _ _
  · unfold eucM eucU eucV; split
    · exact hR.swap _ _ _ _ _ h.sM h.sU h.sV ht hi hne h.rl
    · exact hR.swap _ _ _ _ _ (shp_addRow h.sM ht hi _) (shp_addRow h.sU ht hi _) (shp_subCol h.sV _ _ _) ht hi hne (hR.add _ _ _ _ _ _ h.sM h.sU h.sV ht hi hne h.rl)
  · rw [hm,h.z top t (Nat.le_refl _) htc,h.z i t (by omega) htc,h.z a t ha htc]; simp
  · obtain ⟨p,hp,hv⟩:=h.nz j hj
    exact ⟨p,hp,by rw [hm,if_neg (by omega),if_neg (by omega)]; exact hv⟩
structure Mid (R C:Nat) (Rl:MP) (c top i m:Nat) (M U V:List (List Int)):Prop where
  b:Base R C Rl c top M U V
  zc:∀ a,top < a → a < i → at2 M a c = 0
  t0:at2 M top c ≠ 0
  y0:0 ≤ at2 M i c
  w:∃ p q,p ≤ 12 * m ∧ q ≤ 12 * m ∧ Wt M m top i p q ∧ Wt U m top i p q ∧ WtC V m top i p q ∧
    ((p * (at2 M i c).natAbs + q * (at2 M top c).natAbs ≤ 4 * m ∧ (at2 M i c).natAbs ≤ (at2 M top c).natAbs) ∨
     (p * (at2 M i c).natAbs + q * (at2 M top c).natAbs ≤ 12 * m ∧ 0 ≤ at2 M top c))
theorem wt_bm {M m top i p q} (hp:p ≤ 12 * m) (hq:q ≤ 12 * m) (hm:1 ≤ m) (h:Wt M m top i p q):Bm M (12 * m * m):=by
  intro a t
  refine Nat.le_trans (h a t) (Nat.mul_le_mul_right m ?_)
  split
  · exact hp
  · split
    · exact hq
    · omega
theorem wtC_bm {M m top i p q} (hp:p ≤ 12 * m) (hq:q ≤ 12 * m) (hm:1 ≤ m) (h:WtC M m top i p q):Bm M (12 * m * m):=by
  intro a t
  refine Nat.le_trans (h a t) (Nat.mul_le_mul_right m ?_)
  split
  · exact hq
  · split
    · exact hp
    · omega
theorem mid_b3 {R C Rl c top i m M U V} (hm:1 ≤ m) (h:Mid R C Rl c top i m M U V):B3 M U V (12 * m * m):=by
  obtain ⟨p,q,hp,hq,w1,w2,w3,_⟩:=h.w
  exact ⟨wt_bm hp hq hm w1,wt_bm hp hq hm w2,wtC_bm hp hq hm w3⟩
theorem q_le {q t w:Nat} (ht:t ≠ 0) (h:q * t ≤ w):q ≤ w:=Nat.le_trans (Nat.le_mul_of_pos_right q (by omega)) h
theorem mid_first {R C:Nat} {Rl:MP} (hR:RelOk R C Rl) {c top i m:Nat} {M U V} (ht:top < R) (hi:i < R) (hti:top < i) (hm:1 ≤ m) (h:Base R C Rl c top M U V) (hz:∀ a,top < a → a < i → at2 M a c = 0)
    (hb:B3 M U V m) (hy:at2 M i c ≠ 0):Mid R C Rl c top i m (eucM M top i c) (eucU M U top i c) (eucV M V top i c):=by
  have hne:top ≠ i:=by omega
  have hmm:∀ a s,at2 (eucM M top i c) a s = if a = i then at2 M top s - flq M top i c * at2 M i s else if a = top then at2 M i s else at2 M a s:=fun a s=>by
    unfold eucM; exact at2_eucG h.sM ht hi hne a s
  have et:at2 (eucM M top i c) top c = at2 M i c:=by rw [hmm,if_neg (by omega),if_pos rfl]
  have ey:at2 (eucM M top i c) i c = at2 M top c % at2 M i c:=by
    rw [hmm,if_pos rfl,Int.emod_def]; unfold flq; rw [Int.mul_comm]
  have n0:=Int.emod_nonneg (at2 M top c) hy
  have n1:=Int.emod_lt (a:=at2 M top c) hy
  have W1:∀ X:List (List Int),Bm X m → Wt X m top i 1 1:=fun X hX a t=>by
    have:=hX a t; simp only [ite_self,Nat.one_mul]; exact this
  have W2:∀ X:List (List Int),Bm X m → WtC X m top i 1 1:=fun X hX a t=>by
    have:=hX a t; simp only [ite_self,Nat.one_mul]; exact this
  have k1:=(euc_w (t:=at2 M top c) (y:=at2 M i c) (fl:=flq M top i c) (m:=m) (p:=1) (q:=1) hy rfl (Nat.le_refl _)).1
  have b1:=hb.1 top c
  have b2:=hb.1 i c
  refine ⟨base_euc hR ht hi hti h,fun a h1 h2=>by rw [hmm,if_neg (by omega),if_neg (by omega)]; exact hz a h1 h2,by rw [et]; exact hy,by rw [ey]; exact n0,
    1,1 + (flq M top i c).natAbs * 1,by omega,?_,wt_euc h.sM ht hi hne (W1 _ hb.1),wt_euc h.sU ht hi hne (W1 _ hb.2.1),wtC_euc h.sV ht hi hne (W2 _ hb.2.2),.inl ?_⟩
  · have hn:(at2 M i c).natAbs ≠ 0:=by omega
    have:(1 + (flq M top i c).natAbs * 1) * (at2 M i c).natAbs ≤ 12 * m:=by omega
    exact q_le hn this
  · rw [et,ey]
    constructor
    · omega
    · omega
theorem mid_next {R C:Nat} {Rl:MP} (hR:RelOk R C Rl) {c top i m:Nat} {M U V} (ht:top < R) (hi:i < R) (hti:top < i) (hm:1 ≤ m) (h:Mid R C Rl c top i m M U V)
    (hy:at2 M i c ≠ 0):Mid R C Rl c top i m (eucM M top i c) (eucU M U top i c) (eucV M V top i c):=by
  have hne:top ≠ i:=by omega
  have hmm:∀ a s,at2 (eucM M top i c) a s = if a = i then at2 M top s - flq M top i c * at2 M i s else if a = top then at2 M i s else at2 M a s:=fun a s=>by
    unfold eucM; exact at2_eucG h.b.sM ht hi hne a s
  have et:at2 (eucM M top i c) top c = at2 M i c:=by rw [hmm,if_neg (by omega),if_pos rfl]
  have ey:at2 (eucM M top i c) i c = at2 M top c % at2 M i c:=by
    rw [hmm,if_pos rfl,Int.emod_def]; unfold flq; rw [Int.mul_comm]
  have n0:=Int.emod_nonneg (at2 M top c) hy
  have n1:=Int.emod_lt (a:=at2 M top c) hy
  have y0:=h.y0
  obtain ⟨p,q,hp,hq,w1,w2,w3,hs⟩:=h.w
  have hq1:1 ≤ q ∨ q = 0:=by omega
  have kk:=euc_w (t:=at2 M top c) (y:=at2 M i c) (fl:=flq M top i c) (m:=m) (p:=p) (q:=q) hy rfl
  have fin:(p + (flq M top i c).natAbs * q) * (at2 M i c).natAbs + q * (at2 M top c % at2 M i c).natAbs ≤ 12 * m:=by
    rcases hq1 with hq1 | hq0
    · rcases hs with ⟨s1,s2⟩ | ⟨s1,s2⟩
      · have k1:=(kk hq1).1
        have:q * (at2 M top c % at2 M i c).natAbs ≤ q * (at2 M top c).natAbs:=Nat.mul_le_mul_left _ (by omega)
        omega
      · have k1:=(kk hq1).2 s2 y0
        omega
    · subst hq0
      simp only [Nat.mul_zero,Nat.zero_mul,Nat.add_zero] at *
      rcases hs with ⟨s1,s2⟩ | ⟨s1,s2⟩ <;> omega
  refine ⟨base_euc hR ht hi hti h.b,fun a h1 h2=>by rw [hmm,if_neg (by omega),if_neg (by omega)]; exact h.zc a h1 h2,by rw [et]; exact hy,by rw [ey]; exact n0,
    q,p + (flq M top i c).natAbs * q,hq,?_,wt_euc h.b.sM ht hi hne w1,wt_euc h.b.sU ht hi hne w2,wtC_euc h.b.sV ht hi hne w3,.inr ?_⟩
  · have hn:(at2 M i c).natAbs ≠ 0:=by omega
    exact q_le hn (Nat.le_trans (Nat.le_add_right _ _) fin)
  · rw [et,ey]
    exact ⟨by omega,y0⟩
end Tor
namespace Tor
open Go
def ek (b:Nat):Nat → Nat
  | 0=>b
  | n + 1=>2 * ek b n + 4
theorem ek_mono (b n:Nat):∀ k,ek b n ≤ ek b (n + k)
  | 0=>Nat.le_refl _
  | k + 1=>by have:=ek_mono b n k; rw [← Nat.add_assoc]; simp only [ek]; omega
theorem ek_le (b:Nat) {n m:Nat} (h:n ≤ m):ek b n ≤ ek b m:=by
  have:=ek_mono b n (m - n); rwa [Nat.add_sub_cancel' h] at this
def pk (b n:Nat):Nat:=2 ^ ek b n
theorem pk_le (b:Nat) {n m:Nat} (h:n ≤ m):pk b n ≤ pk b m:=Nat.pow_le_pow_right (by decide) (ek_le b h)
theorem pk_pos (b n:Nat):1 ≤ pk b n:=Nat.one_le_two_pow
theorem pk_step (b n:Nat):12 * pk b n * pk b n ≤ pk b (n + 1):=by
  unfold pk
  rw [show ek b (n + 1) = 4 + (ek b n + ek b n) by simp only [ek]; omega,Nat.pow_add,Nat.pow_add,Nat.mul_assoc]
  exact Nat.mul_le_mul_right _ (by decide)
theorem pk_step2 (b n:Nat):pk b (n + 1) = 16 * (pk b n * pk b n):=by
  unfold pk
  rw [show ek b (n + 1) = 4 + (ek b n + ek b n) by simp only [ek]; omega,Nat.pow_add,Nat.pow_add]
def pE (R:Nat):Nat → Nat
  | 0=>0
  | t + 1=>pE R t + (R - 1 - t) + min t 1
theorem pE_le (R:Nat) {n m:Nat} (h:n ≤ m):pE R n ≤ pE R m:=by
  obtain ⟨k,rfl⟩:=Nat.exists_eq_add_of_le h
  clear h
  induction k with
  | zero=>exact Nat.le_refl _
  | succ k ih=>rw [← Nat.add_assoc]; simp only [pE]; omega
theorem pE_succ (R t:Nat):pE R (t + 1) = pE R t + (R - 1 - t) + min t 1:=rfl
def OO (R C:Nat) (Rl:MP) (b c top:Nat):MP:=fun M U V=>(top ≤ c ∧ c ≤ C) ∧ Base R C Rl c top M U V ∧ B3 M U V (pk b (pE R top))
def PO (R C:Nat) (Rl:MP) (b c top i:Nat):MP:=fun M U V=>Base R C Rl c top M U V ∧ (∀ a,top < a → a < i → at2 M a c = 0) ∧
  (B3 M U V (pk b (pE R top)) ∨ (at2 M top c ≠ 0 ∧ B3 M U V (pk b (pE R top + (i - top - 1)))))
def RB (i top m:Nat) (M U V:List (List Int)):Prop:=(∀ a t,(at2 M a t).natAbs ≤ if a < i then m + m * m else m) ∧ (∀ a t,(at2 U a t).natAbs ≤ if a < i then m + m * m else m) ∧ (∀ a t,(at2 V a t).natAbs ≤ if t = top then m + i * (m * m) else m)
theorem rb_b3 {i top m:Nat} {M U V} (hi:i ≤ 15) (hm:1 ≤ m) (h:RB i top m M U V):B3 M U V (16 * (m * m)):=by
  have h2:m * 1 ≤ m * m:=Nat.mul_le_mul_left _ hm
  have h3:i * (m * m) ≤ 15 * (m * m):=Nat.mul_le_mul_right _ hi
  refine ⟨fun a t=>Nat.le_trans (h.1 a t) ?_,fun a t=>Nat.le_trans (h.2.1 a t) ?_,fun a t=>Nat.le_trans (h.2.2 a t) ?_⟩ <;> split <;> omega
theorem rb_b0 {top m:Nat} {M U V} (h:RB 0 top m M U V):B3 M U V m:=by
  refine ⟨fun a t=>Nat.le_trans (h.1 a t) ?_,fun a t=>Nat.le_trans (h.2.1 a t) ?_,fun a t=>Nat.le_trans (h.2.2 a t) ?_⟩ <;> split <;> omega
def QO (R C:Nat) (Rl:MP) (b c top i:Nat):MP:=fun M U V=>Base R C Rl c top M U V ∧ (∀ a,top < a → at2 M a c = 0) ∧ at2 M top c ≠ 0 ∧
  RB i top (pk b (pE R top + (R - 1 - top))) M U V
theorem po_b3 {R C Rl b c top i M U V} (h:PO R C Rl b c top i M U V):B3 M U V (pk b (pE R top + (i - top - 1))):=by
  rcases h.2.2 with h | ⟨_,h⟩
  · exact b3_mono (pk_le b (Nat.le_add_right _ _)) h
  · exact h
theorem elim_ok {R C:Nat} {Rl:MP} (hR:RelOk R C Rl) {b c top:Nat} (ht:top < R) (hbig:pk b (pE R (top + 1)) < BIG):ElimOk R top c (PO R C Rl b c top):=by
  intro i M U V hti hi hp
  have hn:pE R top + (i - top - 1) + 1 ≤ pE R (top + 1):=by rw [pE_succ]; omega
  have hs:=pk_step b (pE R top + (i - top - 1))
  have hpos:=pk_pos b (pE R top + (i - top - 1))
  have hle:=pk_le b hn
  refine ⟨fun M U V=>PO R C Rl b c top i M U V ∨ Mid R C Rl c top i (pk b (pE R top + (i - top - 1))) M U V,.inl hp,fun M U V h=>?_,fun M U V h hy=>.inr ?_,fun M U V h hy=>?_⟩
  · rcases h with h | h
    · exact fits_b3 (Nat.lt_of_le_of_lt (pk_le b (by omega)) hbig) (po_b3 h)
    · exact fits_b3 (by omega) (mid_b3 hpos h)
  · rcases h with h | h
    · exact mid_first hR ht hi hti hpos h.1 h.2.1 (po_b3 h) hy
    · exact mid_next hR ht hi hti hpos h hy
  · have ez:∀ M:List (List Int),at2 M i c = 0 → (∀ a,top < a → a < i → at2 M a c = 0) → ∀ a,top < a → a < i + 1 → at2 M a c = 0:=fun M h0 h a h1 h2=>by
      by_cases e:a = i
      · rw [e]; exact h0
      · exact h a h1 (by omega)
    have en:i + 1 - top - 1 = i - top - 1 + 1:=by omega
    rcases h with h | h
    · refine ⟨h.1,ez M hy h.2.1,?_⟩
      rcases h.2.2 with g | ⟨g1,g2⟩
      · exact .inl g
      · exact .inr ⟨g1,b3_mono (pk_le b (by omega)) g2⟩
    · refine ⟨h.b,ez M hy h.zc,.inr ⟨h.t0,b3_mono ?_ (mid_b3 hpos h)⟩⟩
      rw [en,← Nat.add_assoc]; exact hs
theorem ediv_abs (a b:Int) (hb:b ≠ 0):(a / b).natAbs ≤ a.natAbs:=by
  have e:=Int.emod_add_mul_ediv a b
  have n0:=Int.emod_nonneg a hb
  have n1:=Int.emod_lt (a:=a) hb
  rcases Int.lt_trichotomy a 0 with h | h | h
  · by_cases hb0:0 < b
    · have h1:a ≤ a / b:=by
        have:=(Int.le_ediv_iff_mul_le (a:=a) (b:=a) hb0).2 (by
          have:a * b ≤ a * 1:=Int.mul_le_mul_of_nonpos_left (by omega) (by omega)
          omega)
        exact this
      have h2:a / b ≤ 0:=by
        have:=Int.ediv_le_ediv hb0 (show a ≤ 0 by omega)
        rwa [Int.zero_ediv] at this
      omega
    · have hb1:0 < -b:=by omega
      rw [← Int.neg_neg b,Int.ediv_neg,Int.natAbs_neg]
      have h1:a ≤ a / (-b):=by
        have:=(Int.le_ediv_iff_mul_le (a:=a) (b:=a) hb1).2 (by
          have:a * (-b) ≤ a * 1:=Int.mul_le_mul_of_nonpos_left (by omega) (by omega)
          omega)
        exact this
      have h2:a / (-b) ≤ 0:=by
        have:=Int.ediv_le_ediv hb1 (show a ≤ 0 by omega)
        rwa [Int.zero_ediv] at this
      omega
  · subst h; simp
  · by_cases hb0:0 < b
    · have h1:=Int.ediv_nonneg (show 0 ≤ a by omega) (show 0 ≤ b by omega)
      have h2:=Int.ediv_le_self b (show 0 ≤ a by omega)
      omega
    · rw [← Int.neg_neg b,Int.ediv_neg,Int.natAbs_neg]
      have h1:=Int.ediv_nonneg (show 0 ≤ a by omega) (show 0 ≤ -b by omega)
      have h2:=Int.ediv_le_self (-b) (show 0 ≤ a by omega)
      omega
theorem reduce_ok {R C:Nat} {Rl:MP} (hR:RelOk R C Rl) {b c top:Nat} (hR16:R ≤ 16) (ht:top < R) (hbig:pk b (pE R (top + 1)) < BIG):ReduceOk top c (QO R C Rl b c top):=by
  intro i M U V hi ⟨hB,hz,h0,hb⟩
  have hiR:i < R:=by omega
  have hne:i ≠ top:=by omega
  have hn:pE R top + (R - 1 - top) + 1 ≤ pE R (top + 1):=by rw [pE_succ]; omega
  have hs:=pk_step2 b (pE R top + (R - 1 - top))
  have hpos:=pk_pos b (pE R top + (R - 1 - top))
  have hle:=pk_le b hn
  have hf:(at2 M i c / at2 M top c).natAbs ≤ pk b (pE R top + (R - 1 - top)):=Nat.le_trans (ediv_abs _ _ h0) (by have:=hb.1 i c; rwa [if_neg (by omega)] at this)
  have he:∀ a t,at2 (addRow M i top (-(at2 M i c / at2 M top c))) a t = if a = i then at2 M i t + -(at2 M i c / at2 M top c) * at2 M top t else at2 M a t:=fun a t=>at2_addRow hB.sM hiR ht _ a t
  have hfit:B3 M U V (pk b (pE R top + (R - 1 - top) + 1)):=by rw [hs]; exact rb_b3 (by omega) hpos hb
  refine ⟨fits_b3 (Nat.lt_of_le_of_lt hle hbig) hfit,h0,⟨shp_addRow hB.sM hiR ht _,shp_addRow hB.sU hiR ht _,shp_subCol hB.sV _ _ _,hR.add _ _ _ _ _ _ hB.sM hB.sU hB.sV hiR ht hne hB.rl,fun a t h1 h2=>?_,fun j hj=>?_⟩,fun a ha=>?_,?_,?_⟩
  · rw [he,if_neg (by omega)]; exact hB.z a t h1 h2
  · obtain ⟨p,hp,hv⟩:=hB.nz j hj
    refine ⟨p,hp,?_⟩
    rw [he]
    split
    · rename_i e
      subst e
      rw [hB.z top p (Nat.le_refl _) hp,Int.mul_zero,Int.add_zero]; exact hv
    · exact hv
  · rw [he,if_neg (by omega)]; exact hz a ha
  · rw [he,if_neg (by omega)]; exact h0
  · generalize pk b (pE R top + (R - 1 - top)) = m at *
    generalize at2 M i c / at2 M top c = f at *
    have key:∀ {X:List (List Int)} {C:Nat},Sha R C X → (∀ a t,(at2 X a t).natAbs ≤ if a < i then m + m * m else m) → ∀ a t,(at2 (addRow X i top (-f)) a t).natAbs ≤ if a < i + 1 then m + m * m else m:=by
      intro X C sX hX a t
      rw [at2_addRow sX hiR ht]
      by_cases e:a = i
      · subst e
        rw [if_pos rfl,if_pos (by omega),Int.neg_mul]
        have h1:=hX a t
        have h2:=hX top t
        rw [if_neg (by omega)] at h1 h2
        have h3:(f * at2 X top t).natAbs ≤ m * m:=by rw [Int.natAbs_mul]; exact Nat.mul_le_mul hf h2
        omega
      · rw [if_neg e]
        have h1:=hX a t
        by_cases ha:a < i
        · rw [if_pos ha] at h1; rw [if_pos (by omega)]; exact h1
        · rw [if_neg ha] at h1; rw [if_neg (by omega)]; exact h1
    refine ⟨key hB.sM hb.1,key hB.sU hb.2.1,fun a t=>?_⟩
    rw [at2_subCol hB.sV ht]
    by_cases e:t = top
    · subst e
      rw [if_pos rfl,if_pos rfl,Int.neg_mul]
      have h1:=hb.2.2 a t
      have h2:=hb.2.2 a i
      rw [if_pos rfl] at h1
      rw [if_neg (by omega)] at h2
      have h3:(f * at2 V a i).natAbs ≤ m * m:=by rw [Int.natAbs_mul]; exact Nat.mul_le_mul hf h2
      have h4:(i + 1) * (m * m) = i * (m * m) + m * m:=Nat.succ_mul _ _
      omega
    · rw [if_neg e,if_neg e]
      have h1:=hb.2.2 a t
      rwa [if_neg e] at h1
theorem form_ok {R C:Nat} {Rl:MP} (hR:RelOk R C Rl) {b:Nat} (hR16:R ≤ 16) (hbig:pk b (pE R (min R C)) < BIG):FormOk R C (OO R C Rl b):=by
  intro c top M U V hc ht ⟨⟨htc,_⟩,hB,hb⟩
  have hbig2:pk b (pE R (top + 1)) < BIG:=Nat.lt_of_le_of_lt (pk_le b (pE_le R (by omega))) hbig
  have hsm:=pE_succ R top
  refine ⟨PO R C Rl b c top,⟨hB,fun a h1 h2=>by omega,.inl hb⟩,elim_ok hR ht hbig2,fun M U V hp=>⟨fits_b3 (Nat.lt_of_le_of_lt (pk_le b (by omega)) hbig2) (po_b3 hp),fun h0=>?_,fun h0=>?_⟩⟩
  · obtain ⟨g1,g2,g3⟩:=hp
    refine ⟨⟨by omega,by omega⟩,⟨g1.sM,g1.sU,g1.sV,g1.rl,fun a t h1 h2=>?_,fun j hj=>?_⟩,?_⟩
    · by_cases e:t = c
      · subst e
        by_cases e2:a = top
        · rw [e2]; exact h0
        · rcases Nat.lt_or_ge a R with h3 | h3
          · exact g2 a (by omega) h3
          · exact at2_out g1.sM (.inl h3)
      · exact g1.z a t h1 (by omega)
    · obtain ⟨p,hp,hv⟩:=g1.nz j hj
      exact ⟨p,by omega,hv⟩
    · rcases g3 with g3 | ⟨g3,_⟩
      · exact g3
      · exact absurd h0 g3
  · have hpb:=po_b3 hp
    obtain ⟨g1,g2,g3⟩:=hp
    have g2':∀ a,top < a → at2 M a c = 0:=fun a ha=>by
      rcases Nat.lt_or_ge a R with h3 | h3
      · exact g2 a ha h3
      · exact at2_out g1.sM (.inl h3)
    refine ⟨QO R C Rl b c top,reduce_ok hR hR16 ht hbig2,?_,fun M U V ⟨k1,k2,k3,k4⟩=>⟨⟨by omega,by omega⟩,⟨k1.sM,k1.sU,k1.sV,k1.rl,fun a t h1 h2=>?_,fun j hj=>?_⟩,?_⟩⟩
    · have hlev:B3 M U V (pk b (pE R top + (R - 1 - top))):=b3_mono (pk_le b (by omega)) hpb
      unfold sgnRow sgnCol
      by_cases hs:at2 M top c < 0
      · rw [if_pos hs,if_pos hs,if_pos hs]
        have e1:=fun a t=>at2_neg g1.sM ht a t
        have e2:=fun a t=>at2_neg g1.sU ht a t
        have e3:=fun a t=>at2_negCol g1.sV ht a t
        refine ⟨⟨shp_neg g1.sM ht,shp_neg g1.sU ht,shp_negCol g1.sV _,hR.neg _ _ _ _ g1.sM g1.sU g1.sV ht g1.rl,fun a t h1 h2=>?_,fun j hj=>?_⟩,fun a ha=>?_,?_,fun a t=>?_,fun a t=>?_,fun a t=>?_⟩
        · rw [e1,g1.z top t (Nat.le_refl _) h2,g1.z a t h1 h2]; simp
        · obtain ⟨p,hp,hv⟩:=g1.nz j hj
          exact ⟨p,hp,by rw [e1,if_neg (by omega)]; exact hv⟩
        · rw [e1,if_neg (by omega)]; exact g2' a ha
        · rw [e1,if_pos rfl]; omega
        · rw [if_neg (Nat.not_lt_zero _),e1]; split
          · rw [Int.natAbs_neg]; exact hlev.1 top t
          · exact hlev.1 a t
        · rw [if_neg (Nat.not_lt_zero _),e2]; split
          · rw [Int.natAbs_neg]; exact hlev.2.1 top t
          · exact hlev.2.1 a t
        · rw [Nat.zero_mul,Nat.add_zero,ite_self,e3]; split
          · rw [Int.natAbs_neg]; exact hlev.2.2 a top
          · exact hlev.2.2 a t
      · rw [if_neg hs,if_neg hs,if_neg hs]
        refine ⟨g1,g2',h0,fun a t=>?_,fun a t=>?_,fun a t=>?_⟩
        · rw [if_neg (Nat.not_lt_zero _)]; exact hlev.1 a t
        · rw [if_neg (Nat.not_lt_zero _)]; exact hlev.2.1 a t
        · rw [Nat.zero_mul,Nat.add_zero,ite_self]; exact hlev.2.2 a t
    · by_cases e:t = c
      · subst e; exact k2 a (by omega)
      · exact k1.z a t (by omega) (by omega)
    · by_cases e:j = top
      · subst e; exact ⟨c,by omega,k3⟩
      · obtain ⟨p,hp,hv⟩:=k1.nz j (by omega)
        exact ⟨p,by omega,hv⟩
    · rcases Nat.eq_zero_or_pos top with e | e
      · subst e
        exact b3_mono (pk_le b (by omega)) (rb_b0 k4)
      · have:=rb_b3 (by omega) (pk_pos b _) k4
        rw [← pk_step2] at this
        exact b3_mono (pk_le b (by omega)) this
end Tor
namespace Tor
open Go
def sumN:Nat → (Nat → Int) → Int
  | 0,_=>0
  | n + 1,f=>sumN n f + f n
theorem sumN_congr {n:Nat} {f g:Nat → Int} (h:∀ k,k < n → f k = g k):sumN n f = sumN n g:=by
  induction n with
  | zero=>rfl
  | succ n ih=>rw [sumN,sumN,ih (fun k hk=>h k (by omega)),h n (by omega)]
theorem sumN_zero {n:Nat} {f:Nat → Int} (h:∀ k,k < n → f k = 0):sumN n f = 0:=by
  induction n with
  | zero=>rfl
  | succ n ih=>rw [sumN,ih (fun k hk=>h k (by omega)),h n (by omega)]; rfl
theorem sumN_add (n:Nat) (f g:Nat → Int):sumN n (fun k=>f k + g k) = sumN n f + sumN n g:=by
  induction n with
  | zero=>rfl
  | succ n ih=>simp only [sumN,ih]; omega
theorem sumN_mul (n:Nat) (c:Int) (f:Nat → Int):sumN n (fun k=>c * f k) = c * sumN n f:=by
  induction n with
  | zero=>simp [sumN]
  | succ n ih=>simp only [sumN,ih,Int.mul_add]
theorem sumN_mulr (n:Nat) (c:Int) (f:Nat → Int):sumN n (fun k=>f k * c) = sumN n f * c:=by
  induction n with
  | zero=>simp [sumN]
  | succ n ih=>simp only [sumN,ih,Int.add_mul]
theorem sumN_neg (n:Nat) (f:Nat → Int):sumN n (fun k=>-f k) = -sumN n f:=by
  induction n with
  | zero=>rfl
  | succ n ih=>simp only [sumN,ih]; omega
theorem sumN_one {n i:Nat} {f g:Nat → Int} (hi:i < n) (h:∀ k,k < n → k ≠ i → g k = f k):sumN n g = sumN n f + (g i - f i):=by
  induction n with
  | zero=>omega
  | succ n ih =>
    rw [sumN,sumN]
    by_cases e:i = n
    · subst e
      rw [sumN_congr (fun k hk=>h k (by omega) (by omega))]; omega
    · rw [ih (by omega) (fun k hk=>h k (by omega)),h n (by omega) (fun e2=>e e2.symm)]; omega
theorem sumN_two {n i j:Nat} {f g:Nat → Int} (hi:i < n) (hj:j < n) (hij:i ≠ j) (h:∀ k,k < n → k ≠ i → k ≠ j → g k = f k):sumN n g = sumN n f + (g i - f i) + (g j - f j):=by
  have h1:=sumN_one (f:=f) (g:=fun k=>if k = i then g i else f k) hi (fun k _ hk=>if_neg hk)
  have h2:=sumN_one (f:=fun k=>if k = i then g i else f k) (g:=g) hj (fun k hk hkj=>by
    by_cases e:k = i
    · subst e; simp
    · simp only [if_neg e]; exact h k hk e hkj)
  rw [h2,h1]
  simp only [if_pos rfl,if_neg (fun e:j = i=>hij e.symm),if_true]
theorem sumN_comm (m n:Nat) (f:Nat → Nat → Int):sumN m (fun a=>sumN n (f a)) = sumN n (fun b=>sumN m (fun a=>f a b)):=by
  induction m with
  | zero=>simp only [sumN]; rw [sumN_zero (fun _ _=>rfl)]
  | succ m ih=>simp only [sumN,ih,sumN_add]
def mulE (n:Nat) (X Y:List (List Int)) (i t:Nat):Int:=sumN n fun k=>at2 X i k * at2 Y k t
def RlA (R:Nat) (A:List (List Int)):MP:=fun M U V=>(∀ i t,at2 M i t = mulE R U A i t) ∧ (∀ i t,at2 A i t = mulE R V M i t)
theorem rlA_ok (R C:Nat) (A:List (List Int)):RelOk R C (RlA R A) where
  add:=fun M U V i j k sM sU sV hi hj hij h=>by
    refine ⟨fun a t=>?_,fun a t=>?_⟩
    · rw [at2_addRow sM hi hj]
      by_cases e:a = i
      · subst e
        rw [if_pos rfl,h.1 a t,h.1 j t]
        unfold mulE
        rw [← sumN_mul,← sumN_add]
        apply sumN_congr
        intro s _
        rw [at2_addRow sU hi hj,if_pos rfl,Int.add_mul,Int.mul_assoc]
      · rw [if_neg e,h.1 a t]
        apply sumN_congr
        intro s _
        rw [at2_addRow sU hi hj,if_neg e]
    · rw [h.2 a t]
      unfold mulE
      symm
      rw [sumN_two (f:=fun s=>at2 V a s * at2 M s t) hi hj hij (fun s _ h1 h2=>by rw [at2_subCol sV hj,if_neg h2,at2_addRow sM hi hj,if_neg h1])]
      rw [at2_subCol sV hj,if_neg hij,at2_addRow sM hi hj,if_pos rfl,at2_subCol sV hj,if_pos rfl,at2_addRow sM hi hj,if_neg (fun e=>hij e.symm)]
      rw [Int.mul_add,Int.sub_mul]
      have:at2 V a i * (k * at2 M j t) = k * at2 V a i * at2 M j t:=by rw [← Int.mul_assoc,Int.mul_comm (at2 V a i) k]
      omega
  swap:=fun M U V i j sM sU sV hi hj hij h=>by
    refine ⟨fun a t=>?_,fun a t=>?_⟩
    · rw [at2_swap sM hi hj,h.1]
      apply sumN_congr
      intro s _
      rw [at2_swap sU hi hj]
    · rw [h.2 a t]
      unfold mulE
      symm
      rw [sumN_two (f:=fun s=>at2 V a s * at2 M s t) hi hj hij (fun s _ h1 h2=>by
        rw [at2_swapCol sV hi hj,at2_swap sM hi hj]; unfold sw; rw [if_neg h2,if_neg h1])]
      rw [at2_swapCol sV hi hj,at2_swap sM hi hj,at2_swapCol sV hi hj,at2_swap sM hi hj]
      unfold sw
      rw [if_neg hij,if_pos rfl,if_pos rfl]
      omega
  neg:=fun M U V i sM sU sV hi h=>by
    refine ⟨fun a t=>?_,fun a t=>?_⟩
    · rw [at2_neg sM hi]
      by_cases e:a = i
      · subst e
        rw [if_pos rfl,h.1 a t]
        unfold mulE
        rw [← sumN_neg]
        apply sumN_congr
        intro s _
        rw [at2_neg sU hi,if_pos rfl,Int.neg_mul]
      · rw [if_neg e,h.1 a t]
        apply sumN_congr
        intro s _
        rw [at2_neg sU hi,if_neg e]
    · rw [h.2 a t]
      apply sumN_congr
      intro s _
      rw [at2_negCol sV hi,at2_neg sM hi]
      by_cases e:s = i
      · subst e; rw [if_pos rfl,if_pos rfl,Int.neg_mul_neg]
      · rw [if_neg e,if_neg e]
theorem at2_id (R:Nat) (i t:Nat):at2 (idMat R) i t = if i = t ∧ i < R then 1 else 0:=by
  unfold at2 idMat
  rcases Nat.lt_or_ge i R with hi | hi
  · have e:((List.range R).map (idRow R)).getD i [] = idRow R i:=by simp [List.getD,hi]
    rw [e]; unfold idRow
    by_cases ht:i = t
    · subst ht; rw [if_pos ⟨rfl,hi⟩,gets_self _ _ _ _ (by simpa using hi)]
    · rw [if_neg (fun h=>ht h.1),gets_ne _ _ _ _ _ ht]
      simp only [List.getD,List.getElem?_replicate]; split <;> rfl
  · have e:((List.range R).map (idRow R)).getD i [] = []:=by rw [List.getD,List.getElem?_eq_none (by simpa using hi)]; rfl
    rw [e,if_neg (fun h=>by omega)]; rfl
theorem shp_id (R:Nat):Sha R R (idMat R):=by
  refine ⟨by simp [idMat],fun i hi=>?_⟩
  have e:(idMat R).getD i [] = idRow R i:=by simp [idMat,List.getD,hi]
  rw [e]; simp [idRow]
theorem mulE_idl {R C:Nat} {A:List (List Int)} (h:Sha R C A) (i t:Nat):mulE R (idMat R) A i t = at2 A i t:=by
  unfold mulE
  rcases Nat.lt_or_ge i R with hi | hi
  · rw [sumN_one (f:=fun _=>0) hi (fun k _ hk=>by rw [at2_id,if_neg (fun e=>hk e.1.symm),Int.zero_mul])]
    rw [sumN_zero (fun _ _=>rfl),at2_id,if_pos ⟨rfl,hi⟩]; omega
  · rw [at2_out h (.inl hi),sumN_zero (fun k _=>by rw [at2_id,if_neg (fun e=>by omega),Int.zero_mul])]
theorem rlA_id {R C:Nat} {A:List (List Int)} (h:Sha R C A):RlA R A A (idMat R) (idMat R) :=
  ⟨fun i t=>(mulE_idl h i t).symm,fun i t=>(mulE_idl h i t).symm⟩
theorem bm_id (R:Nat) {m:Nat} (hm:1 ≤ m):Bm (idMat R) m:=by
  intro i t; rw [at2_id]; split <;> simp; exact hm
theorem nz_row {R C:Nat} {M:List (List Int)} (h:Sha R C M) (i:Nat):nz (M.getD i []) = true ↔ ∃ t,at2 M i t ≠ 0:=by
  unfold nz at2
  generalize M.getD i [] = x
  rw [List.any_eq_true]
  constructor
  · rintro ⟨y,hy,hv⟩
    obtain ⟨t,ht,rfl⟩:=List.mem_iff_getElem.1 hy
    exact ⟨t,by simp only [List.getD,List.getElem?_eq_getElem ht,Option.getD_some]; simpa using hv⟩
  · rintro ⟨t,ht⟩
    rcases Nat.lt_or_ge t x.length with h1 | h1
    · refine ⟨x[t],List.getElem_mem h1,?_⟩
      simpa [List.getD,List.getElem?_eq_getElem h1] using ht
    · rw [List.getD,List.getElem?_eq_none h1] at ht; exact absurd rfl ht
theorem rank_is {R C:Nat} {M:List (List Int)} (h:Sha R C M) {r:Nat} (hr:r ≤ R) (h1:∀ a,a < r → ∃ t,at2 M a t ≠ 0) (h2:∀ a t,r ≤ a → at2 M a t = 0):rankOf M = r:=by
  unfold rankOf
  have e:M = M.take r ++ M.drop r:=(List.take_append_drop r M).symm
  rw [e,List.filter_append]
  have a1:(M.take r).filter nz = M.take r:=by
    rw [List.filter_eq_self]
    intro x hx
    obtain ⟨i,hi,rfl⟩:=List.mem_iff_getElem.1 hx
    have hl:i < r ∧ i < M.length:=by simpa [List.length_take,Nat.lt_min] using hi
    have:=(nz_row h i).2 (h1 i hl.1)
    simpa [List.getD,List.getElem?_eq_getElem hl.2] using this
  have a2:(M.drop r).filter nz = []:=by
    rw [List.filter_eq_nil_iff]
    intro x hx hn
    obtain ⟨i,hi,rfl⟩:=List.mem_iff_getElem.1 hx
    have hl:r + i < M.length:=by rw [List.length_drop] at hi; omega
    rw [List.getElem_drop] at hn
    have:nz (M.getD (r + i) []) = true:=by simpa [List.getD,List.getElem?_eq_getElem hl] using hn
    obtain ⟨t,ht⟩:=(nz_row h (r + i)).1 this
    exact ht (h2 (r + i) t (by omega))
  rw [a1,a2,List.append_nil,List.length_take,h.1]; omega
end Tor
namespace Tor
open Go
theorem bm_fit {R C:Nat} {A:List (List Int)} (h:Sha R C A) {m:Nat} (hm:m < BIG) (hb:Bm A m):∀ i,i < R → ∀ y ∈ A.getD i [],Fit y:=by
  intro i hi y hy
  obtain ⟨t,ht,rfl⟩:=List.mem_iff_getElem.1 hy
  have:=hb i t
  have e:at2 A i t = (A.getD i [])[t]:=by
    unfold at2
    generalize A.getD i [] = x at *
    simp [List.getD,ht]
  rw [e] at this
  exact fit_big (Nat.lt_of_le_of_lt this hm)
variable {E:CallF} (hE:Free E)
include hE
theorem form_sized (R C b:Nat) (hR16:R ≤ 16) (hC:C < 2147483648) {A:List (List Int)} (hA:Sha R C A) (hb:Bm A (2 ^ b)) (hbig:pk b (pE R (min R C)) < BIG) :
    ∃ M U V,rankOf M ≤ R ∧ rankOf M ≤ C ∧ Sha R C M ∧ Sha R R U ∧ Sha R R V ∧ B3 M U V (pk b (pE R (rankOf M))) ∧ RlA R A M U V ∧ (∀ a t,rankOf M ≤ a → at2 M a t = 0) ∧
      ∀ H,call E GP 74 [MI R C A] H = some (.agg [MI R C M,MI R R U,MI R R V],H,false):=by
  have hR:R < 2147483648:=by omega
  have h0:OO R C (RlA R A) b 0 0 A (idMat R) (idMat R):=by
    refine ⟨⟨Nat.le_refl _,Nat.zero_le _⟩,⟨hA,shp_id R,shp_id R,rlA_id hA,fun a t _ h=>by omega,fun j h=>by omega⟩,?_⟩
    have e:pk b (pE R 0) = 2 ^ b:=rfl
    rw [e]
    exact ⟨hb,bm_id R Nat.one_le_two_pow,bm_id R Nat.one_le_two_pow⟩
  have hlt:2 ^ b < BIG:=Nat.lt_of_le_of_lt (pk_le b (Nat.zero_le _)) hbig
  obtain ⟨c,top,M,U,V,⟨⟨o1,o1'⟩,o2,o3⟩,q1,q2,q3,q4,q5,q6,q7,q8⟩:=r12_form hE R C hR hC A hA.1 hA.2 (bm_fit hA hlt hb) (OO R C (RlA R A) b) (form_ok (rlA_ok R C A) hR16 hbig) h0
  have htop:top ≤ R:=by
    rcases Nat.lt_or_ge R top with h | h
    · obtain ⟨p,_,hp⟩:=o2.nz R h
      exact absurd (at2_out o2.sM (.inl (Nat.le_refl _))) hp
    · exact h
  have hz:∀ a t,top ≤ a → at2 M a t = 0:=by
    intro a t ha
    rcases q1 with q1 | q1
    · rcases Nat.lt_or_ge t c with h | h
      · exact o2.z a t ha h
      · exact at2_out o2.sM (.inr (by omega))
    · exact at2_out o2.sM (.inl (by omega))
  have hrk:rankOf M = top:=rank_is o2.sM htop (fun a ha=>by obtain ⟨p,_,hp⟩:=o2.nz a ha; exact ⟨p,hp⟩) hz
  exact ⟨M,U,V,by omega,by omega,o2.sM,o2.sU,o2.sV,by rw [hrk]; exact o3,o2.rl,by rw [hrk]; exact hz,q8⟩
omit hE in
theorem at2_zero_id {R:Nat} {V:List (List Int)} (h:Sha R R V) (i j:Nat):subCol V i j 0 = V:=by
  unfold subCol
  conv=>rhs; rw [← List.map_id V]
  apply List.map_congr_left
  intro x hx
  rw [Int.zero_mul,Int.sub_zero]
  apply List.ext_getElem (by simp)
  intro n h1 h2
  by_cases e:j = n
  · subst e; simp [List.getD,show j < x.length by simpa using h2]
  · simp [List.getElem_set_ne e]
omit hE in
theorem addRow_zero {R C:Nat} {M:List (List Int)} (h:Sha R C M) {i j:Nat} (hi:i < R) (hj:j < R):addRow M i j 0 = M:=by
  unfold addRow
  have e:List.zipWith (fun a b=>a + 0 * b) (M.getD i []) (M.getD j []) = M.getD i []:=by
    have l1:=h.2 i hi
    have l2:=h.2 j hj
    apply List.ext_getElem (by rw [List.length_zipWith,l1,l2,Nat.min_self])
    intro n h1 h2
    simp
  rw [e]
  apply List.ext_getElem (by simp)
  intro n h1 h2
  by_cases e:i = n
  · subst e; simp [List.getD,h2]
  · simp [List.getElem_set_ne e]
omit hE in
theorem fit_one:Fit 1:=by unfold Fit; decide
omit hE in
theorem fits_id (R:Nat):AllFit (idMat R):=fun i t=>by
  have:Fit (at2 (idMat R) i t):=by rw [at2_id]; split; exact fit_one; exact fit_zero
  exact this
theorem form_zero (R C:Nat) (hR:R < 2147483648) (hC:C < 2147483648) {A:List (List Int)} (hA:Sha R C A) (hz:∀ i t,at2 A i t = 0) (H:Heap) :
    call E GP 74 [MI R C A] H = some (.agg [MI R C A,MI R R (idMat R),MI R R (idMat R)],H,false):=by
  have hfA:AllFit A:=fun i t=>by
    have:Fit (at2 A i t):=by rw [hz]; exact fit_zero
    exact this
  have hO:FormOk R C (fun c top M U V=>M = A ∧ U = idMat R ∧ V = idMat R):=by
    intro c top M U V hc ht ⟨e1,e2,e3⟩
    subst e1 e2 e3
    refine ⟨fun _ M' U V=>M' = M ∧ U = idMat R ∧ V = idMat R,⟨rfl,rfl,rfl⟩,fun i M' U V h1 h2 h3=>⟨fun M' U V=>M' = M ∧ U = idMat R ∧ V = idMat R,h3,fun M' U V h=>?_,fun M' U V h hn=>?_,fun M' U V h _=>h⟩,fun M' U V h=>⟨?_,fun _=>h,fun hn=>?_⟩⟩
    · obtain ⟨e1,e2,e3⟩:=h; subst e1 e2 e3; exact ⟨hfA,fits_id R,fits_id R⟩
    · obtain ⟨e1,e2,e3⟩:=h; subst e1; exact absurd (hz _ _) hn
    · obtain ⟨e1,e2,e3⟩:=h; subst e1 e2 e3; exact ⟨hfA,fits_id R,fits_id R⟩
    · obtain ⟨e1,e2,e3⟩:=h; subst e1; exact absurd (hz _ _) hn
  obtain ⟨c,top,M,U,V,⟨e1,e2,e3⟩,_,_,_,_,_,_,_,q⟩:=r12_form hE R C hR hC A hA.1 hA.2 (fun i hi y hy=>by
    obtain ⟨t,ht,rfl⟩:=List.mem_iff_getElem.1 hy
    have:=hz i t
    unfold at2 at this
    generalize A.getD i [] = x at *
    rw [List.getD,List.getElem?_eq_getElem ht,Option.getD_some] at this
    rw [this]; exact fit_zero) _ hO ⟨rfl,rfl,rfl⟩
  subst e1 e2 e3
  exact q H
theorem form_id (R:Nat) (hR:R < 2147483648) (H:Heap) :
    call E GP 74 [MI R R (idMat R)] H = some (.agg [MI R R (idMat R),MI R R (idMat R),MI R R (idMat R)],H,false):=by
  have hI:=shp_id R
  have hO:FormOk R R (fun c top M U V=>c = top ∧ M = idMat R ∧ U = idMat R ∧ V = idMat R):=by
    intro c top M U V hc ht ⟨e0,e1,e2,e3⟩
    subst e0 e1 e2 e3
    have hd:at2 (idMat R) c c = 1:=by rw [at2_id,if_pos ⟨rfl,ht⟩]
    refine ⟨fun _ M' U V=>M' = idMat R ∧ U = idMat R ∧ V = idMat R,⟨rfl,rfl,rfl⟩,fun i M' U V h1 h2 h3=>⟨fun M' U V=>M' = idMat R ∧ U = idMat R ∧ V = idMat R,h3,fun M' U V h=>?_,fun M' U V h hn=>?_,fun M' U V h _=>h⟩,fun M' U V h=>⟨?_,fun hn=>?_,fun hn=>?_⟩⟩
    · obtain ⟨e1,e2,e3⟩:=h; subst e1 e2 e3; exact ⟨fits_id R,fits_id R,fits_id R⟩
    · obtain ⟨e1,e2,e3⟩:=h; subst e1
      exact absurd (by rw [at2_id,if_neg (fun e=>by omega)]) hn
    · obtain ⟨e1,e2,e3⟩:=h; subst e1 e2 e3; exact ⟨fits_id R,fits_id R,fits_id R⟩
    · obtain ⟨e1,e2,e3⟩:=h; subst e1; rw [hd] at hn; cases hn
    · obtain ⟨e1,e2,e3⟩:=h; subst e1 e2 e3
      refine ⟨fun _ M' U V=>M' = idMat R ∧ U = idMat R ∧ V = idMat R,fun i M' U V hi h=>?_,?_,fun M' U V h=>⟨rfl,h⟩⟩
      · obtain ⟨e1,e2,e3⟩:=h; subst e1 e2 e3
        have hq:-(at2 (idMat R) i c / at2 (idMat R) c c) = 0:=by rw [hd,at2_id,if_neg (fun e=>by omega)]; rfl
        refine ⟨⟨fits_id R,fits_id R,fits_id R⟩,by rw [hd]; decide,?_⟩
        rw [hq,addRow_zero hI (by omega) ht,at2_zero_id hI]
        exact ⟨rfl,rfl,rfl⟩
      · rw [hd]
        unfold sgnRow sgnCol
        rw [if_neg (by decide),if_neg (by decide)]
        exact ⟨rfl,rfl,rfl⟩
  obtain ⟨c,top,M,U,V,⟨e0,e1,e2,e3⟩,_,_,_,_,_,_,_,q⟩:=r12_form hE R R hR hR (idMat R) hI.1 hI.2 (fun i hi y hy=>by
    obtain ⟨t,ht,rfl⟩:=List.mem_iff_getElem.1 hy
    have:=fits_id R i t
    generalize (idMat R).getD i [] = x at *
    rwa [List.getD,List.getElem?_eq_getElem ht,Option.getD_some] at this) _ hO ⟨rfl,rfl,rfl,rfl⟩
  subst e1 e2 e3
  exact q H
omit hE in
theorem shp_drop {R C:Nat} {M:List (List Int)} (h:Sha R C M) (r:Nat):Sha (R - r) C (M.drop r):=by
  refine ⟨by rw [List.length_drop,h.1],fun i hi=>?_⟩
  have:=h.2 (r + i) (by omega)
  simpa [List.getD,List.getElem?_drop] using this
omit hE in
theorem at2_drop (M:List (List Int)) (r i t:Nat):at2 (M.drop r) i t = at2 M (r + i) t:=by
  unfold at2; simp [List.getD,List.getElem?_drop]
omit hE in
theorem shp_take {R C:Nat} {M:List (List Int)} (h:Sha R C M) {r:Nat} (hr:r ≤ R):Sha r C (M.take r):=by
  refine ⟨by rw [List.length_take,h.1]; omega,fun i hi=>?_⟩
  have:=h.2 i (by omega)
  simpa [List.getD,List.getElem?_take,hi] using this
omit hE in
theorem at2_take (M:List (List Int)) (r i t:Nat):at2 (M.take r) i t = if i < r then at2 M i t else 0:=by
  unfold at2
  split
  · rename_i h; simp [List.getD,List.getElem?_take,h]
  · rename_i h; simp [List.getD,List.getElem?_take,h]
def lbGo (R b:Nat):Nat → Nat
  | 0=>0
  | r + 1=>max (lbGo R b r) (ek (ek b (pE R (r + 1))) (pE (R - (r + 1)) (R - (r + 1))))
omit hE in
theorem lbGo_le (R b:Nat) {r m:Nat} (h1:1 ≤ r) (h2:r ≤ m):ek (ek b (pE R r)) (pE (R - r) (R - r)) ≤ lbGo R b m:=by
  induction m with
  | zero=>omega
  | succ m ih =>
    rw [lbGo]
    by_cases e:r = m + 1
    · subst e; exact Nat.le_max_right _ _
    · exact Nat.le_trans (ih (by omega)) (Nat.le_max_left _ _)
omit hE in
theorem mulE_zero_row {n:Nat} {X Y:List (List Int)} {i:Nat} (h:∀ k,at2 X i k = 0) (t:Nat):mulE n X Y i t = 0 :=
  sumN_zero fun k _=>by rw [h k,Int.zero_mul]
theorem left_sized (R C b:Nat) (hR16:R ≤ 16) (hC:C < 2147483648) {A:List (List Int)} (hA:Sha R C A) (hb:Bm A (2 ^ b)) (hbig:2 ^ lbGo R b (min R C) < BIG) :
    ∃ K B,K ≤ R ∧ Sha K R B ∧ Bm B (2 ^ lbGo R b (min R C)) ∧ (∀ i t,mulE R B A i t = 0) ∧ ∀ H,call E GP 62 [MI R C A] H = some (MI K R B,H,false):=by
  have hR:R < 2147483648:=by omega
  by_cases hz:∀ i t,at2 A i t = 0
  · have hI:=shp_id R
    have h1:=fun H=>form_zero hE R C hR hC hA hz H
    have hr0:rankOf A = 0:=rank_is hA (Nat.zero_le _) (fun a h=>by omega) (fun a t _=>hz a t)
    have hrR:rankOf (idMat R) = R:=rank_is hI (Nat.le_refl _) (fun a h=>⟨a,by rw [at2_id,if_pos ⟨rfl,h⟩]; decide⟩) (fun a t h=>by rw [at2_id,if_neg (fun e=>by omega)])
    have h2:=fun H=>r12_basis hE R R hR hR (idMat R) (idMat R) (idMat R) (idMat R) hI.1 hI.2 (fun H=>form_id hE R hR H) H
    rw [hrR,List.take_of_length_le (by rw [hI.1]; exact Nat.le_refl _)] at h2
    have h3:=fun H=>r15_left hE R C hR hC A A (idMat R) (idMat R) (idMat R) R hA.1 hA.2 hI.1 h1 (by rw [hr0,List.drop_zero]; exact h2) H
    exact ⟨R,idMat R,Nat.le_refl _,hI,bm_id R Nat.one_le_two_pow,fun i t=>by rw [mulE_idl hA,hz],h3⟩
  · have hmin:min R C ≠ 0:=by
      intro e
      apply hz
      intro i t
      exact at2_out hA (by omega)
    have hle:=lbGo_le R b (r:=min R C) (m:=min R C) (by omega) (Nat.le_refl _)
    have hek:ek b (pE R (min R C)) ≤ lbGo R b (min R C):=Nat.le_trans (ek_mono _ 0 _ |> fun h=>by rw [Nat.zero_add] at h; exact h) hle
    obtain ⟨M,U,V,f1,f2,f3,f4,f5,f6,f7,f8,f9⟩:=form_sized hE R C b hR16 hC hA hb (Nat.lt_of_le_of_lt (Nat.pow_le_pow_right (by decide) hek) hbig)
    have hr1:1 ≤ rankOf M:=by
      rcases Nat.eq_zero_or_pos (rankOf M) with h | h
      · exfalso
        apply hz
        intro i t
        rw [f7.2 i t]
        exact sumN_zero fun k _=>by rw [f8 k t (by omega),Int.mul_zero]
      · exact h
    generalize hr:rankOf M = r at *
    have hle2:=lbGo_le R b (r:=r) (m:=min R C) hr1 (by omega)
    have hK:=shp_drop f4 r
    have hKb:Bm (U.drop r) (2 ^ ek b (pE R r)):=fun i t=>by rw [at2_drop]; exact f6.2.1 _ _
    have hmn:min (R - r) R = R - r:=by omega
    have hbig2:pk (ek b (pE R r)) (pE (R - r) (min (R - r) R)) < BIG:=by
      rw [hmn]; exact Nat.lt_of_le_of_lt (Nat.pow_le_pow_right (by decide) hle2) hbig
    obtain ⟨M',U',V',g1,g2,g3,g4,g5,g6,g7,g8,g9⟩:=form_sized hE (R - r) R (ek b (pE R r)) (by omega) hR hK hKb hbig2
    have hbas:=fun H=>r12_basis hE (R - r) R (by omega) hR (U.drop r) M' U' V' g3.1 g3.2 g9 H
    have hleft:=fun H=>r15_left hE R C hR hC A M U V (M'.take (rankOf M')) (rankOf M') f3.1 f3.2 f4.1 f9 (by rw [hr]; exact hbas) H
    refine ⟨rankOf M',M'.take (rankOf M'),by omega,shp_take g3 (by omega),fun i t=>?_,fun i t=>?_,hleft⟩
    · rw [at2_take]
      split
      · refine Nat.le_trans (g6.1 i t) (Nat.pow_le_pow_right (by decide) (Nat.le_trans (ek_le _ ?_) hle2))
        exact pE_le _ g1
      · exact Nat.zero_le _
    · by_cases hi:i < rankOf M'
      · have e1:mulE R (M'.take (rankOf M')) A i t = sumN R fun k=>sumN (R - r) fun s=>at2 U' i s * (at2 (U.drop r) s k * at2 A k t):=by
          apply sumN_congr
          intro k _
          rw [at2_take,if_pos hi,g7.1 i k]
          unfold mulE
          rw [← sumN_mulr]
          exact sumN_congr fun s _=>Int.mul_assoc _ _ _
        rw [e1,sumN_comm]
        apply sumN_zero
        intro s hs
        rw [sumN_mul]
        have:sumN R (fun k=>at2 (U.drop r) s k * at2 A k t) = 0:=by
          have:=f7.1 (r + s) t
          rw [f8 (r + s) t (by omega)] at this
          rw [this]
          exact sumN_congr fun k _=>by rw [at2_drop]
        rw [this,Int.mul_zero]
      · exact mulE_zero_row (fun k=>by rw [at2_take,if_neg hi]) t
end Tor
namespace Tor
open Go
def lin (f:Int → Int):List (Int × Int) → Int
  | []=>0
  | p :: r=>p.2 * f p.1 + lin f r
theorem lin_ins (f:Int → Int) (q:Int × Int):∀ (l:List (Int × Int)),lin f (insR q false l) = lin f l + q.2 * f q.1
  | []=>by simp [insR,lin]
  | x :: r=>by
    simp only [insR,insR_true,true_and]
    by_cases c1:x.1 > q.1
    · rw [if_pos c1]; simp only [lin]; omega
    · rw [if_neg c1]
      by_cases c2:x.1 = q.1
      · rw [if_pos c2]
        have e:(x.2 + q.2) * f q.1 = x.2 * f q.1 + q.2 * f q.1:=Int.add_mul _ _ _
        split
        · simp only [lin]; rw [c2,e]; omega
        · rename_i h
          have h:x.2 + q.2 = 0:=by omega
          rw [h,Int.zero_mul] at e
          simp only [lin]; rw [c2]; omega
      · rw [if_neg c2]; simp only [lin]; rw [lin_ins f q r]; omega
theorem lin_insert (f:Int → Int) (q:Int × Int) (l:List (Int × Int)):lin f (insert26 l q) = lin f l + q.2 * f q.1:=by
  unfold insert26
  by_cases h:q.2 = 0
  · rw [show decide (q.2 = 0) = true by simpa using h,insR_true,h]; simp
  · rw [show decide (q.2 = 0) = false by simpa using h]; exact lin_ins f q l
theorem lin_fold (f:Int → Int):∀ (l a:List (Int × Int)),lin f (l.foldl insert26 a) = lin f a + lin f l
  | [],a=>by simp [lin]
  | p :: r,a=>by rw [List.foldl_cons,lin_fold f r,lin_insert]; simp only [lin]; omega
theorem lin_add (f:Int → Int) (c:Int):∀ (l a:List (Int × Int)),lin f (add26 a l c) = lin f a + c * lin f l
  | [],a=>by simp [lin,add26]
  | p :: r,a=>by
    have:=lin_add f c r (insert26 a (p.1,c * p.2))
    unfold add26 at this ⊢
    rw [List.foldl_cons,this,lin_insert]
    simp only [lin]
    rw [Int.mul_add,Int.mul_assoc]; omega
theorem insR_keys {P:Int → Prop} {q:Int × Int} (hq:P q.1):∀ (l:List (Int × Int)) (d:Bool),(∀ p ∈ l,P p.1) → ∀ p ∈ insR q d l,P p.1
  | [],d,_=>by
    cases d <;> intro p hp <;> simp [insR] at hp
    subst hp; exact hq
  | x :: r,d,h=>by
    have hx:P x.1:=h x (.head _)
    have i:=fun d=>insR_keys hq r d (fun p hp=>h p (.tail _ hp))
    rw [insR]
    split
    · intro p hp
      cases hp with
      | head=>exact hq
      | tail _ hp=>cases hp with
        | head=>exact hx
        | tail _ hp=>exact i _ p hp
    · split
      · split
        · intro p hp
          cases hp with
          | head=>exact hq
          | tail _ hp=>exact i _ p hp
        · exact i _
      · intro p hp
        cases hp with
        | head=>exact hx
        | tail _ hp=>exact i _ p hp
theorem fold_keys {P:Int → Prop}:∀ (l a:List (Int × Int)),(∀ p ∈ l,P p.1) → (∀ p ∈ a,P p.1) → ∀ p ∈ l.foldl insert26 a,P p.1
  | [],a,_,ha=>ha
  | q :: r,a,hl,ha=>fold_keys r _ (fun p hp=>hl p (.tail _ hp)) (insR_keys (hl q (.head _)) a _ ha)
theorem add_keys {P:Int → Prop} (c:Int):∀ (l a:List (Int × Int)),(∀ p ∈ l,P p.1) → (∀ p ∈ a,P p.1) → ∀ p ∈ add26 a l c,P p.1
  | [],a,_,ha=>ha
  | q :: r,a,hl,ha=>by
    unfold add26
    rw [List.foldl_cons]
    exact add_keys c r _ (fun p hp=>hl p (.tail _ hp)) (insR_keys (q:=(q.1,c * q.2)) (hl q (.head _)) a _ ha)
theorem look_mem {k:Int}:∀ {l:List (Int × Int)},lookL k l ≠ 0 → (k,lookL k l) ∈ l
  | [],h=>absurd rfl h
  | (j,x) :: r,h=>by
    simp only [lookL] at h ⊢
    by_cases e:k = j
    · subst e; rw [if_pos rfl]; exact .head _
    · rw [if_neg e] at h ⊢; exact .tail _ (look_mem h)
theorem canon_look {b:Option Int}:∀ {l:List (Int × Int)} {p:Int × Int},Canon b l → p ∈ l → lookL p.1 l = p.2
  | (j,x) :: r,p,h,hp=>by
    simp only [lookL]
    cases hp with
    | head=>rw [if_pos rfl]
    | tail _ hp =>
      have h1:=(canon_all r _ h.2.2).2.2 j rfl p hp
      rw [if_neg (by omega)]
      exact canon_look h.2.2 hp
theorem canon_bd {l:List (Int × Int)} (h:Canon none l) {N:Nat} (hb:∀ k,(lookL k l).natAbs ≤ N):Bd N l:=fun p hp=>by
  have:=canon_look h hp
  have h2:=hb p.1
  rw [this] at h2; exact h2
theorem bd_look {l:List (Int × Int)} {N:Nat} (h:Bd N l) (k:Int):(lookL k l).natAbs ≤ N:=by
  by_cases e:lookL k l = 0
  · rw [e]; exact Nat.zero_le _
  · exact h _ (look_mem e)
theorem lin_look {l:List (Int × Int)} (h:Canon none l) (k:Int):lin (fun i=>if i = k then 1 else 0) l = lookL k l:=by
  have:∀ (l:List (Int × Int)) (b:Option Int),Canon b l → lin (fun i=>if i = k then 1 else 0) l = lookL k l:=by
    intro l
    induction l with
    | nil=>intro b _; rfl
    | cons p r ih =>
      obtain ⟨j,x⟩:=p
      intro b h
      simp only [lin,lookL]
      rw [ih _ h.2.2]
      by_cases e:j = k
      · subst e
        rw [if_pos rfl,if_pos rfl,look_below h.2.2 (by omega)]; omega
      · rw [if_neg e,if_neg (fun e2=>e e2.symm)]; omega
  exact this l none h
theorem tot_zip_out {k:Int}:∀ (ids r:List Int),k ∉ ids → tot k (ids.zip r) = 0
  | [],_,_=>rfl
  | i :: ids,[],_=>rfl
  | i :: ids,y :: r,h=>by
    simp only [List.zip_cons_cons,tot]
    rw [if_neg (fun e=>h (by rw [e]; exact .head _)),tot_zip_out ids r (fun e=>h (.tail _ e))]; rfl
theorem tot_zip:∀ (ids r:List Int),ids.Nodup → ∀ j,j < ids.length → tot (ids.getD j 0) (ids.zip r) = r.getD j 0
  | [],_,_,j,hj=>by simp at hj
  | i :: ids,[],_,j,hj=>by simp [tot]
  | i :: ids,y :: r,hn,j,hj=>by
    obtain ⟨h1,h2⟩:=List.nodup_cons.1 hn
    simp only [List.zip_cons_cons,tot]
    cases j with
    | zero=>simp only [List.getD_cons_zero,if_true]; rw [tot_zip_out ids r h1]; omega
    | succ j =>
      simp only [List.getD_cons_succ]
      have hj:j < ids.length:=by simpa using hj
      rw [if_neg (fun e=>h1 (by rw [← e]; simp [List.getD,hj])),tot_zip ids r h2 j hj]; omega
theorem chR_canon (ids r:List Int):Canon none (chR ids r):=(make_law (ids.zip r) [] trivial).1
theorem chR_look {ids r:List Int} (hn:ids.Nodup) {j:Nat} (hj:j < ids.length):lookL (ids.getD j 0) (chR ids r) = r.getD j 0:=by
  unfold chR
  rw [(make_law (ids.zip r) [] trivial).2,tot_zip ids r hn j hj]; simp [lookL]
theorem chR_out {ids r:List Int} {k:Int} (h:k ∉ ids):lookL k (chR ids r) = 0:=by
  unfold chR
  rw [(make_law (ids.zip r) [] trivial).2,tot_zip_out ids r h]; simp [lookL]
theorem chR_bd {ids r:List Int} (hn:ids.Nodup) {N:Nat} (h:∀ y ∈ r,y.natAbs ≤ N):Bd N (chR ids r):=by
  refine canon_bd (chR_canon ids r) fun k=>?_
  by_cases hk:k ∈ ids
  · obtain ⟨j,hj,rfl⟩:=List.mem_iff_getElem.1 hk
    have:=chR_look (r:=r) hn hj
    rw [show ids.getD j 0 = ids[j] by simp [List.getD,hj]] at this
    rw [this]
    rcases Nat.lt_or_ge j r.length with h1 | h1
    · exact h _ (by simp [List.getD,h1])
    · rw [List.getD,List.getElem?_eq_none h1]; exact Nat.zero_le _
  · rw [chR_out hk]; exact Nat.zero_le _
theorem zip_keys {ids r:List Int}:∀ p ∈ ids.zip r,p.1 ∈ ids:=fun p hp=>(List.of_mem_zip hp).1
theorem chR_keys (ids r:List Int):∀ p ∈ chR ids r,p.1 ∈ ids:=fold_keys (P:=(· ∈ ids)) _ _ zip_keys (fun p hp=>by cases hp)
theorem chR_len (ids r:List Int):(chR ids r).length ≤ ids.length:=by
  have h1:∀ (l a:List (Int × Int)),(l.foldl insert26 a).length ≤ a.length + l.length:=by
    intro l
    induction l with
    | nil=>intro a; simp
    | cons p r ih =>
      intro a
      rw [List.foldl_cons]
      have:=ih (insert26 a p)
      have h2:=insR_len p a (decide (p.2 = 0))
      rw [List.length_cons]
      unfold insert26 at this ⊢; omega
  have:=h1 (ids.zip r) []
  unfold chR
  simp at this
  omega
theorem chR_lin (f:Int → Int) (ids r:List Int):lin f (chR ids r) = lin f (ids.zip r):=by
  unfold chR; rw [lin_fold]; simp [lin]
theorem rowL_get (ids:List Int):∀ (x:List (Int × Int)) (out:List Int) (t:Nat),out.length = ids.length → t < ids.length →
    (x.foldl (fun out p=>putL p ids out) out).getD t 0 = x.foldl (lastF (ids.getD t 0)) (out.getD t 0)
  | [],out,t,_,_=>rfl
  | p :: r,out,t,ho,ht=>by
    rw [List.foldl_cons,rowL_get ids r _ t (putL_len p ids out ho) ht,List.foldl_cons]
    congr 1
    unfold putL lastF
    have h2:t < out.length:=by omega
    simp only [List.getD,List.getElem?_zipWith,List.getElem?_eq_getElem ht,List.getElem?_eq_getElem h2,Option.getD_some]
    by_cases e:ids[t] = p.1
    · rw [if_pos e,if_pos e.symm]
    · rw [if_neg e,if_neg (fun h=>e h.symm)]
theorem last_canon {k:Int}:∀ (l:List (Int × Int)) (b:Option Int) (v:Int),Canon b l → l.foldl (lastF k) v = if k ∈ l.map (·.1) then lookL k l else v
  | [],_,v,_=>by simp
  | (j,x) :: r,b,v,h=>by
    rw [List.foldl_cons,last_canon r _ _ h.2.2]
    simp only [lastF,List.map_cons,List.mem_cons,lookL]
    by_cases e:k = j
    · subst e
      have hn:¬ k ∈ r.map (·.1):=by
        intro hk
        obtain ⟨p,hp,e⟩:=List.mem_map.1 hk
        have:=(canon_all r _ h.2.2).2.2 k rfl p hp
        omega
      rw [if_neg hn]; simp
    · by_cases hk:k ∈ r.map (·.1)
      · rw [if_pos hk,if_pos (.inr hk),if_neg e]
      · rw [if_neg hk,if_neg (fun e2:j = k=>e e2.symm),if_neg (fun h:k = j ∨ _=>h.elim e hk)]
theorem last_look {l:List (Int × Int)} (h:Canon none l) (k:Int):lastL k l = lookL k l:=by
  unfold lastL
  rw [last_canon l none 0 h]
  split
  · rfl
  · rename_i hk; exact (look_out hk).symm
theorem rowL_look {x:List (Int × Int)} (h:Canon none x) (ids:List Int) {t:Nat} (ht:t < ids.length):(rowL x ids).getD t 0 = lookL (ids.getD t 0) x:=by
  unfold rowL
  rw [rowL_get ids x _ t (by simp) ht]
  have:(List.replicate ids.length (0:Int)).getD t 0 = 0:=by simp [List.getD,ht]
  rw [this]
  exact last_look h _
end Tor
namespace Tor
open Go
structure GS where
  n0:Nat
  n1:Nat
  n2:Nat
  n3:Nat
  b1:Nat
  b2:Nat
  b3:Nat
def GS.n (s:GS):Nat → Nat
  | 0=>s.n0
  | 1=>s.n1
  | 2=>s.n2
  | 3=>s.n3
  | _=>0
def GS.b (s:GS):Nat → Nat
  | 1=>s.b1
  | 2=>s.b2
  | 3=>s.b3
  | _=>0
def GS.kb (s:GS):Nat → Nat
  | 1=>lbGo s.n1 s.b1 (min s.n1 s.n0)
  | 2=>lbGo s.n2 s.b2 (min s.n2 s.n1)
  | 3=>lbGo s.n3 s.b3 (min s.n3 s.n2)
  | _=>0
def GS.grow (s:GS):Nat → GS
  | 0=>{ s with n0:=s.n0 + 1 }
  | 1=>{ s with n1:=s.n1 + 1,b1:=max s.b1 (s.kb 0 + 8) }
  | 2=>{ s with n2:=s.n2 + 1,b2:=max s.b2 (s.kb 1 + 8) }
  | 3=>{ s with n3:=s.n3 + 1,b3:=max s.b3 (s.kb 2 + 8) }
  | _=>s
theorem two_big' (q e:Nat) (hq:q ≤ 500000000) (he:e ≤ 32 * q):2 ^ e ≤ BIG:=by
  refine Nat.le_trans (Nat.pow_le_pow_right (by decide) he) ?_
  rw [Nat.pow_mul]
  exact big_pow hq
theorem two_big {e:Nat} (he:e ≤ 16000000000):2 ^ e ≤ BIG:=two_big' 500000000 e (Nat.le_refl _) he
theorem mul_big {e N m j:Nat} (hN:N ≤ 2 ^ e) (hm:m < 2 ^ j) (he:e + j ≤ 16000000000):N * m < BIG:=by
  have h1:=two_big he
  rw [Nat.pow_add] at h1
  have h2:N * m ≤ 2 ^ e * m:=Nat.mul_le_mul_right _ hN
  have h3:2 ^ e * m < 2 ^ e * 2 ^ j:=Nat.mul_lt_mul_of_pos_left hm (Nat.two_pow_pos e)
  omega
structure Good (c:List Cel) (s:GS) (m:Nat):Prop where
  len:c.length ≤ m
  ids:c.Pairwise (fun x y=>x.id < y.id)
  idr:∀ x ∈ c,1 ≤ x.id ∧ x.id ≤ 2 * m
  dims:∀ x ∈ c,0 ≤ x.dim ∧ x.dim ≤ 3
  cnt:∀ k:Nat,k ≤ 3 → (cellsC c k).length = s.n k
  bd:∀ x ∈ c,Bd (2 ^ s.b x.dim.toNat) x.b
  cn:∀ x ∈ c,Canon none x.b
  key:∀ x ∈ c,∀ p ∈ x.b,p.1 ∈ cellsC c (x.dim - 1)
  bl:∀ x ∈ c,x.b.length ≤ 150
  bb:∀ x ∈ c,∀ id,lin (fun i=>lookL id (cellOf? c i).b) x.b = 0
theorem find_mem {c:List Cel} (h:c.Pairwise (fun x y=>x.id < y.id)) {x:Cel} (hx:x ∈ c):findC c x.id = some x:=by
  induction c with
  | nil=>cases hx
  | cons y r ih =>
    obtain ⟨h1,h2⟩:=List.pairwise_cons.1 h
    unfold findC
    rw [List.find?_cons]
    cases hx with
    | head=>simp
    | tail _ hx =>
      have:=h1 x hx
      rw [show decide (y.id = x.id) = false by simp; omega]
      exact ih h2 hx
theorem cellC_mem {c:List Cel} (h:c.Pairwise (fun x y=>x.id < y.id)) {x:Cel} (hx:x ∈ c):cellOf? c x.id = x:=by unfold cellOf?; rw [find_mem h hx]; rfl
theorem cells_mem {c:List Cel} {k id:Int}:id ∈ cellsC c k ↔ ∃ x ∈ c,x.dim = k ∧ x.id = id:=by
  unfold cellsC
  simp only [List.mem_map,List.mem_filter,decide_eq_true_eq]
  constructor
  · rintro ⟨x,⟨h1,h2⟩,h3⟩; exact ⟨x,h1,h2,h3⟩
  · rintro ⟨x,h1,h2,h3⟩; exact ⟨x,⟨h1,h2⟩,h3⟩
theorem cells_lt {c:List Cel} (h:c.Pairwise (fun x y=>x.id < y.id)) (k:Int):(cellsC c k).Pairwise (· < ·):=by
  unfold cellsC
  rw [List.pairwise_map]
  exact h.filter _
theorem cells_nodup {c:List Cel} (h:c.Pairwise (fun x y=>x.id < y.id)) (k:Int):(cellsC c k).Nodup :=
  (cells_lt h k).imp (fun h e=>by omega)
theorem shp_bnd (c:List Cel) (k:Int):Sha (cellsC c k).length (cellsC c (IntKind.i64.wrap (k - 1))).length (bndC c k):=by
  refine ⟨by simp [bndC],fun i hi=>?_⟩
  have e:(bndC c k).getD i [] = rowL ((findC c ((cellsC c k)[i])).getD zC).b (cellsC c (IntKind.i64.wrap (k - 1))):=by
    simp [bndC,List.getD,hi]
  rw [e]; exact rowL_len _ _
theorem bnd_at {c:List Cel} {s:GS} {m:Nat} (h:Good c s m) (k:Nat) (hk:k ≤ 3) {i t:Nat} (hi:i < (cellsC c k).length) (ht:t < (cellsC c ((k:Int) - 1)).length) :
    at2 (bndC c k) i t = lookL ((cellsC c ((k:Int) - 1)).getD t 0) (cellOf? c ((cellsC c k).getD i 0)).b:=by
  have w:IntKind.i64.wrap ((k:Int) - 1) = (k:Int) - 1:=i64w (by omega)
  have e:(bndC c k).getD i [] = rowL (cellOf? c ((cellsC c k).getD i 0)).b (cellsC c ((k:Int) - 1)):=by
    simp [bndC,List.getD,hi,w,cellOf?]
  unfold at2
  rw [e,rowL_look _ _ ht]
  have hm:(cellsC c k).getD i 0 ∈ cellsC c k:=by simp [List.getD,hi]
  obtain ⟨x,hx,_,hid⟩:=cells_mem.1 hm
  rw [← hid,cellC_mem h.ids hx]
  exact h.cn x hx
theorem bnd_bm {c:List Cel} {s:GS} {m:Nat} (h:Good c s m) (k:Nat) (hk:k ≤ 3):Bm (bndC c k) (2 ^ s.b k):=by
  intro i t
  have w:IntKind.i64.wrap ((k:Int) - 1) = (k:Int) - 1:=i64w (by omega)
  have hs:=shp_bnd c k
  rw [w] at hs
  rcases Nat.lt_or_ge i (cellsC c k).length with hi | hi
  · rcases Nat.lt_or_ge t (cellsC c ((k:Int) - 1)).length with ht | ht
    · rw [bnd_at h k hk hi ht]
      have hm:(cellsC c k).getD i 0 ∈ cellsC c k:=by simp [List.getD,hi]
      obtain ⟨x,hx,hd,hid⟩:=cells_mem.1 hm
      rw [← hid,cellC_mem h.ids hx]
      have:=bd_look (h.bd x hx) ((cellsC c ((k:Int) - 1)).getD t 0)
      rw [hd] at this; exact this
    · rw [at2_out hs (.inr ht)]; exact Nat.zero_le _
  · rw [at2_out hs (.inl hi)]; exact Nat.zero_le _
theorem lin_zip (f:Int → Int):∀ (ids r:List Int),ids.length = r.length → lin f (ids.zip r) = sumN ids.length fun j=>r.getD j 0 * f (ids.getD j 0):=by
  have snoc:∀ (n:Nat) (g:Nat → Int),sumN (n + 1) g = g 0 + sumN n (fun j=>g (j + 1)):=by
    intro n g
    induction n with
    | zero=>simp [sumN]
    | succ n ih=>rw [sumN,ih,sumN]; omega
  intro ids
  induction ids with
  | nil=>intro r _; simp [lin,sumN]
  | cons i ids ih =>
    intro r hr
    cases r with
    | nil=>simp at hr
    | cons y r =>
      simp only [List.zip_cons_cons,lin,List.length_cons]
      rw [ih r (by simpa using hr),snoc]
      simp
theorem cells_neg {c:List Cel} {s:GS} {m:Nat} (h:Good c s m) {k:Int} (hk:k < 0):cellsC c k = []:=by
  rw [List.eq_nil_iff_forall_not_mem]
  intro id hid
  obtain ⟨x,hx,hd,_⟩:=cells_mem.1 hid
  have:=(h.dims x hx).1
  omega
theorem ker_chain {c:List Cel} {s:GS} {m:Nat} (h:Good c s m) (k:Nat) (hk:k ≤ 3) {K:Nat} {B:List (List Int)} {e:Nat} (hB:Sha K (cellsC c k).length B) (hb:Bm B (2 ^ e))
    (hz:∀ i t,mulE (cellsC c k).length B (bndC c k) i t = 0):∀ l ∈ cycOf c k B,Bd (2 ^ e) l ∧ l.length ≤ m ∧ Canon none l ∧ (∀ p ∈ l,p.1 ∈ cellsC c k) ∧ ∀ id,lin (fun i=>lookL id (cellOf? c i).b) l = 0:=by
  intro l hl
  simp only [cycOf,List.mem_map] at hl
  obtain ⟨r,hr,rfl⟩:=hl
  obtain ⟨i,hi,rfl⟩:=List.mem_iff_getElem.1 hr
  have hiK:i < K:=by rw [← hB.1]; exact hi
  have hrl:(B[i]).length = (cellsC c k).length:=by
    have:=hB.2 i hiK; simpa [List.getD,hi] using this
  have hat:∀ j,(B[i]).getD j 0 = at2 B i j:=fun j=>by unfold at2; simp [List.getD,hi]
  have e1:(chain26 c k B[i]).1 = chR (cellsC c k) B[i]:=by unfold chain26; rw [if_neg (by rw [hrl]; simp)]
  rw [e1]
  refine ⟨chR_bd (cells_nodup h.ids _) fun y hy=>?_,Nat.le_trans (chR_len _ _) (Nat.le_trans (cellsC_len c k) h.len),chR_canon _ _,chR_keys _ _,fun id=>?_⟩
  · obtain ⟨j,hj,rfl⟩:=List.mem_iff_getElem.1 hy
    have:=hb i j
    rw [← hat] at this
    simpa [List.getD,hj] using this
  · rw [chR_lin,lin_zip _ _ _ hrl.symm]
    by_cases hid:id ∈ cellsC c ((k:Int) - 1)
    · obtain ⟨t,ht,rfl⟩:=List.mem_iff_getElem.1 hid
      refine Eq.trans ?_ (hz i t)
      apply sumN_congr
      intro j hj
      rw [hat,bnd_at h k (by omega) hj ht]
      simp [List.getD,ht]
    · apply sumN_zero
      intro j hj
      have hm:(cellsC c k).getD j 0 ∈ cellsC c k:=by simp [List.getD,hj]
      obtain ⟨x,hx,hd,hidx⟩:=cells_mem.1 hm
      rw [← hidx,cellC_mem h.ids hx,look_out (fun hk2=>?_),Int.mul_zero]
      obtain ⟨p,hp,rfl⟩:=List.mem_map.1 hk2
      have:=h.key x hx p hp
      rw [hd] at this
      exact hid this
variable {E:CallF} (hE:Free E)
include hE
theorem cycles_good {c:List Cel} {s:GS} {m:Nat} (h:Good c s m) (hm:m ≤ 16) (k:Int) (hk:-1 ≤ k ∧ k ≤ 3) (hbig:∀ k,s.kb k + 16 ≤ 16000000000) :
    ∃ L:List (List (Int × Int)),(∀ H,call E GP 121 [.isl (c.map cA),.int .i64 k] H = some (.isl (L.map chA),H,false)) ∧ L.length ≤ 16 ∧
      ∀ l ∈ L,0 ≤ k ∧ Bd (2 ^ s.kb k.toNat) l ∧ l.length ≤ m ∧ Canon none l ∧ (∀ p ∈ l,p.1 ∈ cellsC c k) ∧ ∀ id,lin (fun i=>lookL id (cellOf? c i).b) l = 0:=by
  have hlen:=h.len
  have hcb:∀ x ∈ c,x.b.length < 2147483648:=fun x hx=>by have:=h.bl x hx; omega
  by_cases h0:k < 0
  · refine ⟨[],fun H=>?_,by simp,fun l hl=>by cases hl⟩
    have:=r26_cycles hE c k 0 0 0 [] (by omega) hcb rfl (by omega) (fun i hi=>by omega) (fun i hi=>by omega) (fun i hi=>by omega) (fun hk=>by omega) H
    rw [if_pos h0] at this
    exact this
  · obtain ⟨n,rfl⟩:∃ n:Nat,k = (n:Int):=⟨k.toNat,by omega⟩
    have hn:n ≤ 3:=by omega
    have w:IntKind.i64.wrap ((n:Int) - 1) = (n:Int) - 1:=i64w (by omega)
    have hs:=shp_bnd c n
    rw [w] at hs
    have hR:=h.cnt n (by omega)
    have hRm:=cellsC_len c n
    have hCm:=cellsC_len c ((n:Int) - 1)
    have hkb:lbGo (cellsC c n).length (s.b n) (min (cellsC c n).length (cellsC c ((n:Int) - 1)).length) = s.kb n:=by
      rcases n with _ | _ | _ | _ | n
      · have:cellsC c (((0:Nat):Int) - 1) = []:=cells_neg h (by omega)
        rw [this]; simp [lbGo,GS.kb]
      · have h1:=h.cnt 0 (by omega)
        rw [show (((0 + 1:Nat):Int) - 1) = ((0:Nat):Int) by omega,hR,h1]; rfl
      · have h1:=h.cnt 1 (by omega)
        rw [show (((0 + 1 + 1:Nat):Int) - 1) = ((1:Nat):Int) by omega,hR,h1]; rfl
      · have h1:=h.cnt 2 (by omega)
        rw [show (((0 + 1 + 1 + 1:Nat):Int) - 1) = ((2:Nat):Int) by omega,hR,h1]; rfl
      · omega
    have hb16:=hbig n
    have hlt:2 ^ s.kb n < BIG:=by
      have:=mul_big (e:=s.kb n) (N:=2 ^ s.kb n) (m:=1) (j:=1) (Nat.le_refl _) (by decide) (by omega)
      rwa [Nat.mul_one] at this
    obtain ⟨K,B,f1,f2,f3,f4,f5⟩:=left_sized hE (cellsC c n).length (cellsC c ((n:Int) - 1)).length (s.b n) (by omega) (by omega) hs (bnd_bm h n (by omega)) (by rw [hkb]; exact hlt)
    rw [hkb] at f3
    have hcy:=r26_cycles hE c n K (cellsC c n).length (2 ^ s.kb n) B (by omega) hcb f2.1 (by omega) (fun i hi=>by rw [f2.2 i hi]; omega) (fun i hi y hy=>by
      obtain ⟨j,hj,rfl⟩:=List.mem_iff_getElem.1 hy
      have:=f3 i j
      unfold at2 at this
      generalize B.getD i [] = r at *
      simpa [List.getD,hj] using this) (fun i hi=>by
      rw [f2.2 i hi]
      exact mul_big (j:=16) (Nat.le_refl _) (by omega) hb16) (fun _ H=>by rw [w]; exact f5 H)
    rw [if_neg h0] at hcy
    refine ⟨cycOf c n B,hcy,by unfold cycOf; rw [List.length_map,f2.1]; omega,fun l hl=>⟨by omega,?_⟩⟩
    exact ker_chain h n hn f2 f3 f4 l hl
end Tor
namespace Tor
open Go
def sp0:List Cel:=[⟨1,0,[]⟩,⟨2,0,[]⟩,⟨3,0,[]⟩,⟨4,1,[(1,-1),(2,1)]⟩,⟨5,1,[(2,-1),(3,1)]⟩,⟨6,1,[(1,1),(3,-1)]⟩]
def spaceC:Nat → List Cel
  | 1=>[⟨1,0,[]⟩]
  | 2=>[⟨1,0,[]⟩,⟨7,0,[]⟩]
  | 3=>[⟨1,0,[]⟩,⟨2,0,[]⟩,⟨3,1,[(1,-1),(2,1)]⟩]
  | 4=>[⟨1,0,[]⟩,⟨2,1,[]⟩]
  | 5=>sp0
  | 6=>sp0 ++ [⟨9,2,[(4,1),(5,1),(6,1)]⟩]
  | 7=>[⟨1,0,[]⟩,⟨2,2,[]⟩]
  | 8=>[⟨1,0,[]⟩,⟨2,1,[]⟩,⟨3,1,[]⟩,⟨4,2,[]⟩]
  | 9=>[⟨1,0,[]⟩,⟨2,1,[]⟩,⟨3,2,[(2,2)]⟩]
  | 10=>[⟨1,0,[]⟩,⟨2,1,[]⟩,⟨3,1,[]⟩,⟨4,2,[(2,2)]⟩]
  | 11=>[⟨1,0,[]⟩,⟨2,1,[]⟩,⟨3,2,[(2,3)]⟩,⟨4,3,[]⟩]
  | 12=>[⟨1,0,[]⟩,⟨2,1,[]⟩,⟨3,2,[(2,4)]⟩,⟨4,2,[(2,6)]⟩]
  | 13=>[⟨1,0,[]⟩,⟨2,1,[]⟩,⟨3,0,[]⟩,⟨5,1,[]⟩,⟨6,2,[(5,2)]⟩]
  | _=>[]
theorem iso_any {E:CallF} {g:Nat} {f:AFun} {args:List AV} {v:AV} (h0:∀ a H,E g a H = none) (hf:GP g = some f) (hp:args.length = f.params) (hm:f.mode = .iso)
    (h:call E GP g args [] = some (v,[],false)) (H:Heap):call E GP g args H = some (v,H,false):=by
  rw [call_fun (h0 _ _) hf hp] at h ⊢
  rw [hm,callFun_i] at h ⊢
  cases hr:runIso (run E GP) f args with
  | none=>rw [hr] at h; simp [withHeap] at h
  | some w=>rw [hr] at h; simp [withHeap] at h ⊢; exact h
theorem spk0:callN E1 GP 1000 21 [.int .i64 1,.int .i64 0,.isl []] [] = some (cA ⟨1,0,[]⟩,[],false):=by kernel_rfl
theorem spc0 (H:Heap):call E1 GP 21 [.int .i64 1,.int .i64 0,.isl []] H = some (.agg [.int .i64 1,.int .i64 0,.isl []],H,false) :=
  iso_any (f:=a21) (fun _ _=>rfl) rfl rfl rfl (call_of spk0) H
theorem spk1:callN E1 GP 1000 21 [.int .i64 2,.int .i64 1,.isl []] [] = some (cA ⟨2,1,[]⟩,[],false):=by kernel_rfl
theorem spc1 (H:Heap):call E1 GP 21 [.int .i64 2,.int .i64 1,.isl []] H = some (.agg [.int .i64 2,.int .i64 1,.isl []],H,false) :=
  iso_any (f:=a21) (fun _ _=>rfl) rfl rfl rfl (call_of spk1) H
theorem spk2:callN E1 GP 1000 21 [.int .i64 2,.int .i64 0,.isl []] [] = some (cA ⟨2,0,[]⟩,[],false):=by kernel_rfl
theorem spc2 (H:Heap):call E1 GP 21 [.int .i64 2,.int .i64 0,.isl []] H = some (.agg [.int .i64 2,.int .i64 0,.isl []],H,false) :=
  iso_any (f:=a21) (fun _ _=>rfl) rfl rfl rfl (call_of spk2) H
theorem spk3:callN E1 GP 1000 21 [.int .i64 3,.int .i64 0,.isl []] [] = some (cA ⟨3,0,[]⟩,[],false):=by kernel_rfl
theorem spc3 (H:Heap):call E1 GP 21 [.int .i64 3,.int .i64 0,.isl []] H = some (.agg [.int .i64 3,.int .i64 0,.isl []],H,false) :=
  iso_any (f:=a21) (fun _ _=>rfl) rfl rfl rfl (call_of spk3) H
theorem spk4:callN E1 GP 1000 21 [.int .i64 4,.int .i64 1,.isl [.int .i64 1,.int .i64 (-1),.int .i64 2,.int .i64 1]] [] = some (cA ⟨4,1,[(1,-1),(2,1)]⟩,[],false):=by kernel_rfl
theorem spc4 (H:Heap):call E1 GP 21 [.int .i64 4,.int .i64 1,.isl [.int .i64 1,.int .i64 (-1),.int .i64 2,.int .i64 1]] H = some (.agg [.int .i64 4,.int .i64 1,.isl [fA (1,-1),fA (2,1)]],H,false) :=
  iso_any (f:=a21) (fun _ _=>rfl) rfl rfl rfl (call_of spk4) H
theorem spk5:callN E1 GP 1000 21 [.int .i64 5,.int .i64 1,.isl [.int .i64 2,.int .i64 (-1),.int .i64 3,.int .i64 1]] [] = some (cA ⟨5,1,[(2,-1),(3,1)]⟩,[],false):=by kernel_rfl
theorem spc5 (H:Heap):call E1 GP 21 [.int .i64 5,.int .i64 1,.isl [.int .i64 2,.int .i64 (-1),.int .i64 3,.int .i64 1]] H = some (.agg [.int .i64 5,.int .i64 1,.isl [fA (2,-1),fA (3,1)]],H,false) :=
  iso_any (f:=a21) (fun _ _=>rfl) rfl rfl rfl (call_of spk5) H
theorem spk6:callN E1 GP 1000 21 [.int .i64 6,.int .i64 1,.isl [.int .i64 1,.int .i64 1,.int .i64 3,.int .i64 (-1)]] [] = some (cA ⟨6,1,[(1,1),(3,-1)]⟩,[],false):=by kernel_rfl
theorem spc6 (H:Heap):call E1 GP 21 [.int .i64 6,.int .i64 1,.isl [.int .i64 1,.int .i64 1,.int .i64 3,.int .i64 (-1)]] H = some (.agg [.int .i64 6,.int .i64 1,.isl [fA (1,1),fA (3,-1)]],H,false) :=
  iso_any (f:=a21) (fun _ _=>rfl) rfl rfl rfl (call_of spk6) H
theorem spk7:callN E1 GP 1000 21 [.int .i64 7,.int .i64 0,.isl []] [] = some (cA ⟨7,0,[]⟩,[],false):=by kernel_rfl
theorem spc7 (H:Heap):call E1 GP 21 [.int .i64 7,.int .i64 0,.isl []] H = some (.agg [.int .i64 7,.int .i64 0,.isl []],H,false) :=
  iso_any (f:=a21) (fun _ _=>rfl) rfl rfl rfl (call_of spk7) H
theorem spk8:callN E1 GP 1000 21 [.int .i64 3,.int .i64 1,.isl [.int .i64 1,.int .i64 (-1),.int .i64 2,.int .i64 1]] [] = some (cA ⟨3,1,[(1,-1),(2,1)]⟩,[],false):=by kernel_rfl
theorem spc8 (H:Heap):call E1 GP 21 [.int .i64 3,.int .i64 1,.isl [.int .i64 1,.int .i64 (-1),.int .i64 2,.int .i64 1]] H = some (.agg [.int .i64 3,.int .i64 1,.isl [fA (1,-1),fA (2,1)]],H,false) :=
  iso_any (f:=a21) (fun _ _=>rfl) rfl rfl rfl (call_of spk8) H
theorem spk9:callN E1 GP 1000 21 [.int .i64 9,.int .i64 2,.isl [.int .i64 4,.int .i64 1,.int .i64 5,.int .i64 1,.int .i64 6,.int .i64 1]] [] = some (cA ⟨9,2,[(4,1),(5,1),(6,1)]⟩,[],false):=by kernel_rfl
theorem spc9 (H:Heap):call E1 GP 21 [.int .i64 9,.int .i64 2,.isl [.int .i64 4,.int .i64 1,.int .i64 5,.int .i64 1,.int .i64 6,.int .i64 1]] H = some (.agg [.int .i64 9,.int .i64 2,.isl [fA (4,1),fA (5,1),fA (6,1)]],H,false) :=
  iso_any (f:=a21) (fun _ _=>rfl) rfl rfl rfl (call_of spk9) H
theorem spk10:callN E1 GP 1000 21 [.int .i64 2,.int .i64 2,.isl []] [] = some (cA ⟨2,2,[]⟩,[],false):=by kernel_rfl
theorem spc10 (H:Heap):call E1 GP 21 [.int .i64 2,.int .i64 2,.isl []] H = some (.agg [.int .i64 2,.int .i64 2,.isl []],H,false) :=
  iso_any (f:=a21) (fun _ _=>rfl) rfl rfl rfl (call_of spk10) H
theorem spk11:callN E1 GP 1000 21 [.int .i64 3,.int .i64 1,.isl []] [] = some (cA ⟨3,1,[]⟩,[],false):=by kernel_rfl
theorem spc11 (H:Heap):call E1 GP 21 [.int .i64 3,.int .i64 1,.isl []] H = some (.agg [.int .i64 3,.int .i64 1,.isl []],H,false) :=
  iso_any (f:=a21) (fun _ _=>rfl) rfl rfl rfl (call_of spk11) H
theorem spk12:callN E1 GP 1000 21 [.int .i64 4,.int .i64 2,.isl []] [] = some (cA ⟨4,2,[]⟩,[],false):=by kernel_rfl
theorem spc12 (H:Heap):call E1 GP 21 [.int .i64 4,.int .i64 2,.isl []] H = some (.agg [.int .i64 4,.int .i64 2,.isl []],H,false) :=
  iso_any (f:=a21) (fun _ _=>rfl) rfl rfl rfl (call_of spk12) H
theorem spk13:callN E1 GP 1000 21 [.int .i64 3,.int .i64 2,.isl [.int .i64 2,.int .i64 2]] [] = some (cA ⟨3,2,[(2,2)]⟩,[],false):=by kernel_rfl
theorem spc13 (H:Heap):call E1 GP 21 [.int .i64 3,.int .i64 2,.isl [.int .i64 2,.int .i64 2]] H = some (.agg [.int .i64 3,.int .i64 2,.isl [fA (2,2)]],H,false) :=
  iso_any (f:=a21) (fun _ _=>rfl) rfl rfl rfl (call_of spk13) H
theorem spk14:callN E1 GP 1000 21 [.int .i64 4,.int .i64 2,.isl [.int .i64 2,.int .i64 2]] [] = some (cA ⟨4,2,[(2,2)]⟩,[],false):=by kernel_rfl
theorem spc14 (H:Heap):call E1 GP 21 [.int .i64 4,.int .i64 2,.isl [.int .i64 2,.int .i64 2]] H = some (.agg [.int .i64 4,.int .i64 2,.isl [fA (2,2)]],H,false) :=
  iso_any (f:=a21) (fun _ _=>rfl) rfl rfl rfl (call_of spk14) H
theorem spk15:callN E1 GP 1000 21 [.int .i64 3,.int .i64 2,.isl [.int .i64 2,.int .i64 3]] [] = some (cA ⟨3,2,[(2,3)]⟩,[],false):=by kernel_rfl
theorem spc15 (H:Heap):call E1 GP 21 [.int .i64 3,.int .i64 2,.isl [.int .i64 2,.int .i64 3]] H = some (.agg [.int .i64 3,.int .i64 2,.isl [fA (2,3)]],H,false) :=
  iso_any (f:=a21) (fun _ _=>rfl) rfl rfl rfl (call_of spk15) H
theorem spk16:callN E1 GP 1000 21 [.int .i64 4,.int .i64 3,.isl []] [] = some (cA ⟨4,3,[]⟩,[],false):=by kernel_rfl
theorem spc16 (H:Heap):call E1 GP 21 [.int .i64 4,.int .i64 3,.isl []] H = some (.agg [.int .i64 4,.int .i64 3,.isl []],H,false) :=
  iso_any (f:=a21) (fun _ _=>rfl) rfl rfl rfl (call_of spk16) H
theorem spk17:callN E1 GP 1000 21 [.int .i64 3,.int .i64 2,.isl [.int .i64 2,.int .i64 4]] [] = some (cA ⟨3,2,[(2,4)]⟩,[],false):=by kernel_rfl
theorem spc17 (H:Heap):call E1 GP 21 [.int .i64 3,.int .i64 2,.isl [.int .i64 2,.int .i64 4]] H = some (.agg [.int .i64 3,.int .i64 2,.isl [fA (2,4)]],H,false) :=
  iso_any (f:=a21) (fun _ _=>rfl) rfl rfl rfl (call_of spk17) H
theorem spk18:callN E1 GP 1000 21 [.int .i64 4,.int .i64 2,.isl [.int .i64 2,.int .i64 6]] [] = some (cA ⟨4,2,[(2,6)]⟩,[],false):=by kernel_rfl
theorem spc18 (H:Heap):call E1 GP 21 [.int .i64 4,.int .i64 2,.isl [.int .i64 2,.int .i64 6]] H = some (.agg [.int .i64 4,.int .i64 2,.isl [fA (2,6)]],H,false) :=
  iso_any (f:=a21) (fun _ _=>rfl) rfl rfl rfl (call_of spk18) H
theorem spk19:callN E1 GP 1000 21 [.int .i64 5,.int .i64 1,.isl []] [] = some (cA ⟨5,1,[]⟩,[],false):=by kernel_rfl
theorem spc19 (H:Heap):call E1 GP 21 [.int .i64 5,.int .i64 1,.isl []] H = some (.agg [.int .i64 5,.int .i64 1,.isl []],H,false) :=
  iso_any (f:=a21) (fun _ _=>rfl) rfl rfl rfl (call_of spk19) H
theorem spk20:callN E1 GP 1000 21 [.int .i64 6,.int .i64 2,.isl [.int .i64 5,.int .i64 2]] [] = some (cA ⟨6,2,[(5,2)]⟩,[],false):=by kernel_rfl
theorem spc20 (H:Heap):call E1 GP 21 [.int .i64 6,.int .i64 2,.isl [.int .i64 5,.int .i64 2]] H = some (.agg [.int .i64 6,.int .i64 2,.isl [fA (5,2)]],H,false) :=
  iso_any (f:=a21) (fun _ _=>rfl) rfl rfl rfl (call_of spk20) H
theorem r26_space (k:Nat) (hk:k < 256) (H:Heap):call E1 GP 27 [.int .u8 k] H = some (.isl ((spaceC (k % 14)).map cA),H,false):=by
  rw [call_fun (by rfl) (f:=a27) rfl rfl]
  have hm:((k:Nat):Int).tmod 14 = ((k % 14:Nat):Int):=rfl
  have hj2:k % 14 < 14:=by omega
  have fzf:=fz_fA
  have rff:=fA_ref
  have sof:=solid_fA
  by_cases h0:k % 14 = 0
  · have hm1:((k:Nat):Int).tmod 14 = 0:=by rw [hm,h0]; rfl
    rw [h0]
    simp (maxSteps:=1000000) only [si,simprocAttr,spaceC,sp0,a27,a27R,spc0,spc1,spc2,spc3,spc4,spc5,spc6,spc7,spc8,spc9,spc10,spc11,spc12,spc13,spc14,spc15,spc16,spc17,spc18,spc19,spc20,hm1,fzf,rff,sof,fA_size,List.map_cons,List.map_nil,List.cons_append,List.nil_append,List.append_nil,cA,maxLenA]
  by_cases h1:k % 14 = 1
  · have hm1:((k:Nat):Int).tmod 14 = 1:=by rw [hm,h1]; rfl
    rw [h1]
    simp (maxSteps:=1000000) only [si,simprocAttr,spaceC,sp0,a27,a27R,spc0,spc1,spc2,spc3,spc4,spc5,spc6,spc7,spc8,spc9,spc10,spc11,spc12,spc13,spc14,spc15,spc16,spc17,spc18,spc19,spc20,hm1,fzf,rff,sof,fA_size,List.map_cons,List.map_nil,List.cons_append,List.nil_append,List.append_nil,cA,maxLenA]
  by_cases h2:k % 14 = 2
  · have hm1:((k:Nat):Int).tmod 14 = 2:=by rw [hm,h2]; rfl
    rw [h2]
    simp (maxSteps:=1000000) only [si,simprocAttr,spaceC,sp0,a27,a27R,spc0,spc1,spc2,spc3,spc4,spc5,spc6,spc7,spc8,spc9,spc10,spc11,spc12,spc13,spc14,spc15,spc16,spc17,spc18,spc19,spc20,hm1,fzf,rff,sof,fA_size,List.map_cons,List.map_nil,List.cons_append,List.nil_append,List.append_nil,cA,maxLenA]
  by_cases h3:k % 14 = 3
  · have hm1:((k:Nat):Int).tmod 14 = 3:=by rw [hm,h3]; rfl
    rw [h3]
    simp (maxSteps:=1000000) only [si,simprocAttr,spaceC,sp0,a27,a27R,spc0,spc1,spc2,spc3,spc4,spc5,spc6,spc7,spc8,spc9,spc10,spc11,spc12,spc13,spc14,spc15,spc16,spc17,spc18,spc19,spc20,hm1,fzf,rff,sof,fA_size,List.map_cons,List.map_nil,List.cons_append,List.nil_append,List.append_nil,cA,maxLenA]
  by_cases h4:k % 14 = 4
  · have hm1:((k:Nat):Int).tmod 14 = 4:=by rw [hm,h4]; rfl
    rw [h4]
    simp (maxSteps:=1000000) only [si,simprocAttr,spaceC,sp0,a27,a27R,spc0,spc1,spc2,spc3,spc4,spc5,spc6,spc7,spc8,spc9,spc10,spc11,spc12,spc13,spc14,spc15,spc16,spc17,spc18,spc19,spc20,hm1,fzf,rff,sof,fA_size,List.map_cons,List.map_nil,List.cons_append,List.nil_append,List.append_nil,cA,maxLenA]
  by_cases h5:k % 14 = 5
  · have hm1:((k:Nat):Int).tmod 14 = 5:=by rw [hm,h5]; rfl
    rw [h5]
    simp (maxSteps:=1000000) only [si,simprocAttr,spaceC,sp0,a27,a27R,spc0,spc1,spc2,spc3,spc4,spc5,spc6,spc7,spc8,spc9,spc10,spc11,spc12,spc13,spc14,spc15,spc16,spc17,spc18,spc19,spc20,hm1,fzf,rff,sof,fA_size,List.map_cons,List.map_nil,List.cons_append,List.nil_append,List.append_nil,cA,maxLenA]
  by_cases h6:k % 14 = 6
  · have hm1:((k:Nat):Int).tmod 14 = 6:=by rw [hm,h6]; rfl
    rw [h6]
    simp (maxSteps:=1000000) only [si,simprocAttr,spaceC,sp0,a27,a27R,spc0,spc1,spc2,spc3,spc4,spc5,spc6,spc7,spc8,spc9,spc10,spc11,spc12,spc13,spc14,spc15,spc16,spc17,spc18,spc19,spc20,hm1,fzf,rff,sof,fA_size,List.map_cons,List.map_nil,List.cons_append,List.nil_append,List.append_nil,cA,maxLenA]
  by_cases h7:k % 14 = 7
  · have hm1:((k:Nat):Int).tmod 14 = 7:=by rw [hm,h7]; rfl
    rw [h7]
    simp (maxSteps:=1000000) only [si,simprocAttr,spaceC,sp0,a27,a27R,spc0,spc1,spc2,spc3,spc4,spc5,spc6,spc7,spc8,spc9,spc10,spc11,spc12,spc13,spc14,spc15,spc16,spc17,spc18,spc19,spc20,hm1,fzf,rff,sof,fA_size,List.map_cons,List.map_nil,List.cons_append,List.nil_append,List.append_nil,cA,maxLenA]
  by_cases h8:k % 14 = 8
  · have hm1:((k:Nat):Int).tmod 14 = 8:=by rw [hm,h8]; rfl
    rw [h8]
    simp (maxSteps:=1000000) only [si,simprocAttr,spaceC,sp0,a27,a27R,spc0,spc1,spc2,spc3,spc4,spc5,spc6,spc7,spc8,spc9,spc10,spc11,spc12,spc13,spc14,spc15,spc16,spc17,spc18,spc19,spc20,hm1,fzf,rff,sof,fA_size,List.map_cons,List.map_nil,List.cons_append,List.nil_append,List.append_nil,cA,maxLenA]
  by_cases h9:k % 14 = 9
  · have hm1:((k:Nat):Int).tmod 14 = 9:=by rw [hm,h9]; rfl
    rw [h9]
    simp (maxSteps:=1000000) only [si,simprocAttr,spaceC,sp0,a27,a27R,spc0,spc1,spc2,spc3,spc4,spc5,spc6,spc7,spc8,spc9,spc10,spc11,spc12,spc13,spc14,spc15,spc16,spc17,spc18,spc19,spc20,hm1,fzf,rff,sof,fA_size,List.map_cons,List.map_nil,List.cons_append,List.nil_append,List.append_nil,cA,maxLenA]
  by_cases h10:k % 14 = 10
  · have hm1:((k:Nat):Int).tmod 14 = 10:=by rw [hm,h10]; rfl
    rw [h10]
    simp (maxSteps:=1000000) only [si,simprocAttr,spaceC,sp0,a27,a27R,spc0,spc1,spc2,spc3,spc4,spc5,spc6,spc7,spc8,spc9,spc10,spc11,spc12,spc13,spc14,spc15,spc16,spc17,spc18,spc19,spc20,hm1,fzf,rff,sof,fA_size,List.map_cons,List.map_nil,List.cons_append,List.nil_append,List.append_nil,cA,maxLenA]
  by_cases h11:k % 14 = 11
  · have hm1:((k:Nat):Int).tmod 14 = 11:=by rw [hm,h11]; rfl
    rw [h11]
    simp (maxSteps:=1000000) only [si,simprocAttr,spaceC,sp0,a27,a27R,spc0,spc1,spc2,spc3,spc4,spc5,spc6,spc7,spc8,spc9,spc10,spc11,spc12,spc13,spc14,spc15,spc16,spc17,spc18,spc19,spc20,hm1,fzf,rff,sof,fA_size,List.map_cons,List.map_nil,List.cons_append,List.nil_append,List.append_nil,cA,maxLenA]
  by_cases h12:k % 14 = 12
  · have hm1:((k:Nat):Int).tmod 14 = 12:=by rw [hm,h12]; rfl
    rw [h12]
    simp (maxSteps:=1000000) only [si,simprocAttr,spaceC,sp0,a27,a27R,spc0,spc1,spc2,spc3,spc4,spc5,spc6,spc7,spc8,spc9,spc10,spc11,spc12,spc13,spc14,spc15,spc16,spc17,spc18,spc19,spc20,hm1,fzf,rff,sof,fA_size,List.map_cons,List.map_nil,List.cons_append,List.nil_append,List.append_nil,cA,maxLenA]
  by_cases h13:k % 14 = 13
  · have hm1:((k:Nat):Int).tmod 14 = 13:=by rw [hm,h13]; rfl
    rw [h13]
    simp (maxSteps:=1000000) only [si,simprocAttr,spaceC,sp0,a27,a27R,spc0,spc1,spc2,spc3,spc4,spc5,spc6,spc7,spc8,spc9,spc10,spc11,spc12,spc13,spc14,spc15,spc16,spc17,spc18,spc19,spc20,hm1,fzf,rff,sof,fA_size,List.map_cons,List.map_nil,List.cons_append,List.nil_append,List.append_nil,cA,maxLenA]
  omega
end Tor
