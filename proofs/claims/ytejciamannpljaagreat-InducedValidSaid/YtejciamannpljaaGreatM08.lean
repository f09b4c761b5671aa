/-
  A part of the proof: an abstract machine for the program, its soundness, and what the functions compute (Gd3, Gd4, Gd5, Pk1, Pk2, Pk3, Pk4, Pk5, Pk6, Gd6, Sim, Ops).
  Conditions: none.
-/
import Derived.Test.YtejciamannpljaaGreatM03
import Derived.Test.YtejciamannpljaaGreatM05
import Derived.Test.YtejciamannpljaaGreatM06
import Derived.Test.YtejciamannpljaaGreatM07
import Derived.MapKept
import GoSem.Dispatch
set_option linter.unusedSectionVars false
set_option linter.unusedVariables false
set_option linter.unusedSimpArgs false
set_option linter.defProp false
namespace Tor
open Go
theorem cellsC_app (c:List Cel) (x:Cel) (k:Int):cellsC (c ++ [x]) k = cellsC c k ++ (if x.dim = k then [x.id] else []):=by
  unfold cellsC
  rw [List.filter_append,List.map_append]
  congr 1
  by_cases h:x.dim = k <;> simp [h]
theorem cell_app {c:List Cel} {x:Cel} {i:Int} (h:∃ y ∈ c,y.id = i):cellOf? (c ++ [x]) i = cellOf? c i:=by
  unfold cellOf? findC
  rw [List.find?_append]
  cases hf:c.find? (fun x=>decide (x.id = i)) with
  | some y=>rfl
  | none =>
    obtain ⟨y,hy,he⟩:=h
    have:=List.find?_eq_none.1 hf y hy
    simp [he] at this
theorem lin_congr {f g:Int → Int}:∀ {l:List (Int × Int)},(∀ p ∈ l,f p.1 = g p.1) → lin f l = lin g l
  | [],_=>rfl
  | p :: r,h=>by simp only [lin]; rw [h p (.head _),lin_congr (fun q hq=>h q (.tail _ hq))]
theorem gB_law (P:Int → Prop) (N Lc:Nat) (f:Int → Int):∀ (L:List (List (Int × Int))) (es:List Int) (i:Nat) (b:List (Int × Int)),(∀ e ∈ es,-3 ≤ e ∧ e ≤ 3) →
    (∀ l ∈ L,Bd N l ∧ l.length ≤ Lc ∧ Canon none l ∧ (∀ p ∈ l,P p.1) ∧ lin f l = 0) → Bd (3 * N * Lc * i) b → b.length ≤ Lc * i → Canon none b → (∀ p ∈ b,P p.1) → lin f b = 0 →
    ∀ b',b' = (L.zip es).foldl (fun b p=>add26 b p.1 p.2) b → Bd (3 * N * Lc * (i + es.length)) b' ∧ b'.length ≤ Lc * (i + es.length) ∧ Canon none b' ∧ (∀ p ∈ b',P p.1) ∧ lin f b' = 0
  | [],es,i,b,he,hL,h1,h2,h3,h4,h5,b',hb=>by
    rw [hb]
    show Bd _ b ∧ b.length ≤ _ ∧ Canon none b ∧ (∀ p ∈ b,P p.1) ∧ lin f b = 0
    exact ⟨bd_mono (Nat.mul_le_mul_left _ (by omega)) h1,Nat.le_trans h2 (Nat.mul_le_mul_left _ (by omega)),h3,h4,h5⟩
  | l :: L,[],i,b,he,hL,h1,h2,h3,h4,h5,b',hb=>by
    rw [hb]
    show Bd _ b ∧ b.length ≤ _ ∧ Canon none b ∧ (∀ p ∈ b,P p.1) ∧ lin f b = 0
    exact ⟨bd_mono (Nat.mul_le_mul_left _ (by omega)) h1,Nat.le_trans h2 (Nat.mul_le_mul_left _ (by omega)),h3,h4,h5⟩
  | l :: L,e :: es,i,b,he,hL,h1,h2,h3,h4,h5,b',hb=>by
    obtain ⟨g1,g2,g3,g4,g5⟩:=hL l (.head _)
    have he1:=he e (.head _)
    have hp:∀ p ∈ l,(e * p.2).natAbs ≤ 3 * N:=fun p hp=>by
      rw [Int.natAbs_mul]; exact Nat.mul_le_mul (by omega) (g1 p hp)
    obtain ⟨a1,a2⟩:=add_bd e l b (3 * N * Lc * i) hp h1
    have mm:3 * N * l.length ≤ 3 * N * Lc:=Nat.mul_le_mul_left _ g2
    have:=gB_law P N Lc f L es (i + 1) (add26 b l e) (fun x hx=>he x (.tail _ hx)) (fun x hx=>hL x (.tail _ hx))
      (bd_mono (by rw [Nat.mul_succ]; omega) a1) (by rw [Nat.mul_succ]; omega) (add_law e l b h3).1 (add_keys e l b g4 h4) (by rw [lin_add,h5,g5]; omega) b' (by rw [hb,List.zip_cons_cons,List.foldl_cons])
    rw [List.length_cons]
    have e1:i + 1 + es.length = i + (es.length + 1):=by omega
    rw [e1] at this
    exact this
theorem last_max {c:List Cel} (h:c.Pairwise (fun x y=>x.id < y.id)) (hc:0 < c.length):∀ y ∈ c,y.id ≤ (c.getD (c.length - 1) zC).id:=by
  intro y hy
  obtain ⟨i,hi,rfl⟩:=List.mem_iff_getElem.1 hy
  have e:c.getD (c.length - 1) zC = c[c.length - 1]:=by simp [List.getD,show c.length - 1 < c.length by omega]
  rw [e]
  rcases Nat.lt_or_ge i (c.length - 1) with h1 | h1
  · have:=List.pairwise_iff_getElem.1 h i (c.length - 1) hi (by omega) h1
    omega
  · have:i = c.length - 1:=by omega
    subst this; exact Int.le_refl _
theorem grow_n (s:GS) (d k:Nat) (hd:d ≤ 3):(s.grow d).n k = s.n k + (if d = k then 1 else 0):=by
  rcases d with _ | _ | _ | _ | d
  · rcases k with _ | _ | _ | _ | k <;> simp [GS.grow,GS.n]
  · rcases k with _ | _ | _ | _ | k <;> simp [GS.grow,GS.n]
  · rcases k with _ | _ | _ | _ | k <;> simp [GS.grow,GS.n]
  · rcases k with _ | _ | _ | _ | k <;> simp [GS.grow,GS.n]
  · omega
theorem grow_b (s:GS) (d k:Nat):s.b k ≤ (s.grow d).b k:=by
  rcases d with _ | _ | _ | _ | d
  · rcases k with _ | _ | _ | _ | k <;> simp [GS.grow,GS.b]
  · rcases k with _ | _ | _ | _ | k <;> simp [GS.grow,GS.b] <;> omega
  · rcases k with _ | _ | _ | _ | k <;> simp [GS.grow,GS.b] <;> omega
  · rcases k with _ | _ | _ | _ | k <;> simp [GS.grow,GS.b] <;> omega
  · exact Nat.le_refl _
theorem grow_k (s:GS) (d:Nat) (h1:1 ≤ d) (h3:d ≤ 3):s.kb (d - 1) + 8 ≤ (s.grow d).b d:=by
  rcases d with _ | _ | _ | _ | d
  · omega
  · simp [GS.grow,GS.b]; omega
  · simp [GS.grow,GS.b]; omega
  · simp [GS.grow,GS.b]; omega
  · omega
variable {E:CallF} (hE:Free E)
include hE
theorem good_grow {c:List Cel} {s:GS} {m:Nat} (h:Good c s m) (h1m:1 ≤ m) (hm:m ≤ 15) (hbig:∀ k,s.kb k + 16 ≤ 16000000000) (x:Dg) (hx:x.ok) :
    ∃ y,Good (c ++ [y]) (s.grow (gDim x).toNat) (m + 1) ∧ ∀ H,call E GP 28 [.isl (c.map cA),gA x] H = some (.isl ((c ++ [y]).map cA),H,false):=by
  have hu:=u8w x.a
  have td1:=Int.tmod_lt_of_pos (IntKind.u8.wrap x.a) (show (0:Int) < 4 by omega)
  have td2:=Int.tmod_nonneg 4 hu.1
  have hlen:=h.len
  obtain ⟨L,l1,l2,l3⟩:=cycles_good hE h (by omega) (gDim x - 1) (by unfold gDim; omega) hbig
  have hkb:=hbig (gDim x - 1).toNat
  generalize hK:(gDim x - 1).toNat = kk at *
  have hgr:=r26_grown hE c x hx L (2 ^ s.kb kk) m (by omega) (fun y hy=>by have:=h.idr y hy; omega) (by omega) l1 (fun l hl=>⟨(l3 l hl).2.1,(l3 l hl).2.2.1⟩)
    (by
      have:12 * 2 ^ s.kb kk * (m + 1) = 2 ^ s.kb kk * (12 * (m + 1)):=by rw [Nat.mul_comm 12,Nat.mul_assoc]
      rw [this]
      exact mul_big (j:=8) (Nat.le_refl _) (by omega) (by omega)) (by omega)
  suffices hG:Good (grown c x L) (s.grow (gDim x).toNat) (m + 1) from ⟨_,hG,hgr⟩
  have hgB:∀ id,Bd (3 * 2 ^ s.kb kk * m * (0 + 3)) (gB L x.cs) ∧ (gB L x.cs).length ≤ m * (0 + 3) ∧ Canon none (gB L x.cs) ∧ (∀ p ∈ gB L x.cs,p.1 ∈ cellsC c (gDim x - 1)) ∧ lin (fun i=>lookL id (cellOf? c i).b) (gB L x.cs) = 0:=fun id =>
    gB_law (· ∈ cellsC c (gDim x - 1)) (2 ^ s.kb kk) m (fun i=>lookL id (cellOf? c i).b) L x.cs 0 [] (fun e he=>by
      unfold Dg.cs at he
      have ts:∀ y:Int,-3 ≤ y.tmod 4 ∧ y.tmod 4 ≤ 3:=fun y=>by
        have t1:=Int.tmod_lt_of_pos y (show (0:Int) < 4 by omega)
        have t2:=Int.lt_tmod_of_pos y (show (0:Int) < 4 by omega)
        omega
      simp only [List.mem_cons,List.not_mem_nil,or_false] at he
      rcases he with rfl | rfl | rfl <;> exact ts _) (fun l hl=>by
        obtain ⟨_,a1,a2,a3,a4,a5⟩:=l3 l hl
        exact ⟨a1,a2,a3,a4,a5 id⟩) (fun p hp=>by cases hp) (Nat.zero_le _) trivial (fun p hp=>by cases hp) rfl _ rfl
  have hold:∀ i,(∃ k,i ∈ cellsC c k) → cellOf? (grown c x L) i = cellOf? c i:=fun i ⟨k,hi⟩=>by
    obtain ⟨y,hy,_,he⟩:=cells_mem.1 hi
    exact cell_app ⟨y,hy,he⟩
  have hL0:¬ 1 ≤ gDim x → L = []:=fun hd=>by
    cases L with
    | nil=>rfl
    | cons l r=>have:=(l3 l (.head _)).1; omega
  have hdn:(gDim x).toNat ≤ 3:=by unfold gDim; omega
  refine ⟨?_,?_,?_,?_,?_,?_,?_,?_,?_,?_⟩
  · unfold grown; simp; omega
  · unfold grown
    rw [List.pairwise_append]
    refine ⟨h.ids,List.pairwise_singleton _ _,fun y hy z hz=>?_⟩
    simp only [List.mem_singleton] at hz
    subst hz
    have hpos:0 < c.length:=List.length_pos_of_mem hy
    have:=last_max h.ids hpos y hy
    show y.id < gId c x
    unfold gId
    rw [if_neg (by omega)]
    have:=Int.tdiv_nonneg hu.1 (show (0:Int) ≤ 128 by omega)
    omega
  · intro y hy
    unfold grown at hy
    rcases List.mem_append.1 hy with hy | hy
    · have:=h.idr y hy; omega
    · simp only [List.mem_singleton] at hy
      subst hy
      show 1 ≤ gId c x ∧ gId c x ≤ 2 * (((m + 1:Nat)):Int)
      unfold gId
      split
      · omega
      · have hpos:0 < c.length:=by omega
        have hl:c.getD (c.length - 1) zC ∈ c:=by simp [List.getD,show c.length - 1 < c.length by omega]
        have:=h.idr _ hl
        have h1:=Int.tdiv_nonneg hu.1 (show (0:Int) ≤ 128 by omega)
        have h2:(IntKind.u8.wrap x.a).tdiv 128 ≤ 1:=by
          rw [Int.tdiv_eq_ediv_of_nonneg hu.1]; omega
        omega
  · intro y hy
    unfold grown at hy
    rcases List.mem_append.1 hy with hy | hy
    · exact h.dims y hy
    · simp only [List.mem_singleton] at hy
      subst hy
      show 0 ≤ gDim x ∧ gDim x ≤ 3
      unfold gDim; omega
  · intro k hk
    unfold grown
    rw [cellsC_app,List.length_append,h.cnt k hk,grow_n s _ k hdn]
    show s.n k + (if gDim x = (k:Int) then [gId c x] else []).length = _
    by_cases e:gDim x = (k:Int)
    · rw [if_pos e,if_pos (by omega)]; rfl
    · rw [if_neg e,if_neg (by unfold gDim at *; omega)]; rfl
  · intro y hy
    unfold grown at hy
    rcases List.mem_append.1 hy with hy | hy
    · exact bd_mono (Nat.pow_le_pow_right (by decide) (grow_b s _ _)) (h.bd y hy)
    · simp only [List.mem_singleton] at hy
      subst hy
      show Bd (2 ^ (s.grow (gDim x).toNat).b (gDim x).toNat) (gB L x.cs)
      by_cases hd:1 ≤ gDim x
      · refine bd_mono ?_ (hgB 0).1
        have hk8:=grow_k s (gDim x).toNat (by omega) hdn
        rw [show (gDim x).toNat - 1 = kk by omega] at hk8
        refine Nat.le_trans ?_ (Nat.pow_le_pow_right (by decide) hk8)
        rw [Nat.pow_add]
        have:3 * 2 ^ s.kb kk * m * (0 + 3) = 2 ^ s.kb kk * (9 * m):=by
          rw [Nat.mul_comm 3,Nat.mul_assoc,Nat.mul_assoc]; congr 1; omega
        rw [this]
        exact Nat.mul_le_mul_left _ (by omega)
      · have:=hL0 hd
        subst this
        intro p hp
        simp [gB] at hp
  · intro y hy
    unfold grown at hy
    rcases List.mem_append.1 hy with hy | hy
    · exact h.cn y hy
    · simp only [List.mem_singleton] at hy
      subst hy; exact (hgB 0).2.2.1
  · intro y hy p hp
    unfold grown at hy ⊢
    rw [cellsC_app]
    rcases List.mem_append.1 hy with hy | hy
    · exact List.mem_append_left _ (h.key y hy p hp)
    · simp only [List.mem_singleton] at hy
      subst hy
      exact List.mem_append_left _ ((hgB 0).2.2.2.1 p hp)
  · intro y hy
    unfold grown at hy
    rcases List.mem_append.1 hy with hy | hy
    · exact h.bl y hy
    · simp only [List.mem_singleton] at hy
      subst hy
      have:=(hgB 0).2.1
      show (gB L x.cs).length ≤ 150
      omega
  · intro y hy id
    have hy':=hy
    unfold grown at hy
    rcases List.mem_append.1 hy with hy | hy
    · rw [← h.bb y hy id]
      exact lin_congr fun p hp=>by rw [hold _ ⟨_,h.key y hy p hp⟩]
    · simp only [List.mem_singleton] at hy
      subst hy
      rw [← (hgB id).2.2.2.2]
      exact lin_congr fun p hp=>by rw [hold _ ⟨_,(hgB id).2.2.2.1 p hp⟩]
end Tor
namespace Tor
open Go
def gsp:Nat → GS
  | 1=>⟨1,0,0,0,0,0,0⟩
  | 2=>⟨2,0,0,0,0,0,0⟩
  | 3=>⟨2,1,0,0,0,0,0⟩
  | 4=>⟨1,1,0,0,0,0,0⟩
  | 5=>⟨3,3,0,0,0,0,0⟩
  | 6=>⟨3,3,1,0,0,0,0⟩
  | 7=>⟨1,0,1,0,0,0,0⟩
  | 8=>⟨1,2,1,0,0,0,0⟩
  | 9=>⟨1,1,1,0,0,1,0⟩
  | 10=>⟨1,2,1,0,0,1,0⟩
  | 11=>⟨1,1,1,1,0,2,0⟩
  | 12=>⟨1,1,2,0,0,3,0⟩
  | 13=>⟨2,2,1,0,0,1,0⟩
  | _=>⟨0,0,0,0,0,0,0⟩
def GS.kok (s:GS):Bool:=decide (s.kb 1 + 16 ≤ 1000000000) && decide (s.kb 2 + 16 ≤ 1000000000) && decide (s.kb 3 + 16 ≤ 1000000000)
def GS.fin (s:GS):Bool:=decide (s.b1 ≤ 1000000000) && decide (s.b2 ≤ 1000000000) && decide (s.b3 ≤ 1000000000) && s.kok
def okT:Nat → GS → Bool
  | 0,s=>s.fin
  | f + 1,s=>s.fin && (s.kok && (okT f (s.grow 0) && (okT f (s.grow 1) && (okT f (s.grow 2) && okT f (s.grow 3)))))
theorem ok_all:((List.range 14).all fun j=>okT 4 (gsp j)) = true:=by kernel_rfl
theorem kok_sm {s:GS} (h:s.kok = true):∀ k,s.kb k + 16 ≤ 1000000000:=by
  unfold GS.kok at h
  simp only [Bool.and_eq_true,decide_eq_true_eq] at h
  intro k
  rcases k with _ | _ | _ | _ | k
  · simp [GS.kb]
  · exact h.1.1
  · exact h.1.2
  · exact h.2
  · simp [GS.kb]
theorem kok_all {s:GS} (h:s.kok = true):∀ k,s.kb k + 16 ≤ 16000000000:=fun k=>Nat.le_trans (kok_sm h k) (by decide)
theorem gs_good (j:Nat) (hj:j < 14):Good (spaceC j) (gsp j) 7:=by
  have mk:∀ (c:List Cel) (s:GS),c.length ≤ 7 → c.Pairwise (fun x y=>x.id < y.id) → (∀ x ∈ c,(1 ≤ x.id ∧ x.id ≤ 14) ∧ (0 ≤ x.dim ∧ x.dim ≤ 3) ∧ Bd (2 ^ s.b x.dim.toNat) x.b ∧ Canon none x.b ∧ (∀ p ∈ x.b,p.1 ∈ cellsC c (x.dim - 1)) ∧ x.b.length ≤ 150 ∧ ∀ id,lin (fun i=>lookL id (cellOf? c i).b) x.b = 0) →
      (∀ k:Nat,k ≤ 3 → (cellsC c k).length = s.n k) → Good c s 7:=fun c s h1 h2 h3 h4 =>
    ⟨h1,h2,fun x hx=>by have:=(h3 x hx).1; omega,fun x hx=>(h3 x hx).2.1,h4,fun x hx=>(h3 x hx).2.2.1,fun x hx=>(h3 x hx).2.2.2.1,fun x hx=>(h3 x hx).2.2.2.2.1,fun x hx=>(h3 x hx).2.2.2.2.2.1,fun x hx=>(h3 x hx).2.2.2.2.2.2⟩
  have hk4:∀ k:Nat,k ≤ 3 → k = 0 ∨ k = 1 ∨ k = 2 ∨ k = 3:=fun k h=>by omega
  have cases14:j = 0 ∨ j = 1 ∨ j = 2 ∨ j = 3 ∨ j = 4 ∨ j = 5 ∨ j = 6 ∨ j = 7 ∨ j = 8 ∨ j = 9 ∨ j = 10 ∨ j = 11 ∨ j = 12 ∨ j = 13:=by omega
  rcases cases14 with rfl | rfl | rfl | rfl | rfl | rfl | rfl | rfl | rfl | rfl | rfl | rfl | rfl | rfl
  all_goals
    refine mk _ _ (by decide) (by simp [spaceC,sp0]) ?_ (fun k hk=>by rcases hk4 k hk with rfl | rfl | rfl | rfl <;> rfl)
    intro x hx
    simp only [spaceC,sp0,List.cons_append,List.nil_append,List.mem_cons,List.not_mem_nil,or_false,false_or] at hx
  all_goals
    first
    | (rcases hx with rfl | rfl | rfl | rfl | rfl | rfl | rfl <;> (refine ⟨by decide,by decide,?_,?_,?_,by decide,?_⟩ <;> simp [Bd,Canon,gsp,GS.b,spaceC,sp0,cellsC,lin,cellOf?,findC,zC,lookL] <;> (try (intro id; repeat' split)) <;> (try omega)))
    | (rcases hx with rfl | rfl | rfl | rfl | rfl | rfl <;> (refine ⟨by decide,by decide,?_,?_,?_,by decide,?_⟩ <;> simp [Bd,Canon,gsp,GS.b,spaceC,sp0,cellsC,lin,cellOf?,findC,zC,lookL] <;> (try (intro id; repeat' split)) <;> (try omega)))
    | (rcases hx with rfl | rfl | rfl | rfl | rfl <;> (refine ⟨by decide,by decide,?_,?_,?_,by decide,?_⟩ <;> simp [Bd,Canon,gsp,GS.b,spaceC,sp0,cellsC,lin,cellOf?,findC,zC,lookL] <;> (try (intro id; repeat' split)) <;> (try omega)))
    | (rcases hx with rfl | rfl | rfl | rfl <;> (refine ⟨by decide,by decide,?_,?_,?_,by decide,?_⟩ <;> simp [Bd,Canon,gsp,GS.b,spaceC,sp0,cellsC,lin,cellOf?,findC,zC,lookL] <;> (try (intro id; repeat' split)) <;> (try omega)))
    | (rcases hx with rfl | rfl | rfl <;> (refine ⟨by decide,by decide,?_,?_,?_,by decide,?_⟩ <;> simp [Bd,Canon,gsp,GS.b,spaceC,sp0,cellsC,lin,cellOf?,findC,zC,lookL] <;> (try (intro id; repeat' split)) <;> (try omega)))
    | (rcases hx with rfl | rfl <;> (refine ⟨by decide,by decide,?_,?_,?_,by decide,?_⟩ <;> simp [Bd,Canon,gsp,GS.b,spaceC,sp0,cellsC,lin,cellOf?,findC,zC,lookL] <;> (try (intro id; repeat' split)) <;> (try omega)))
    | (rcases hx with rfl <;> (refine ⟨by decide,by decide,?_,?_,?_,by decide,?_⟩ <;> simp [Bd,Canon,gsp,GS.b,spaceC,sp0,cellsC,lin,cellOf?,findC,zC,lookL] <;> (try (intro id; repeat' split)) <;> (try omega)))
end Tor
namespace Tor
open Go
theorem gA_get {l:List Dg} {i:Nat} (h:i < l.length):(l.map gA)[i]? = some (gA l[i]):=by simp [h]
theorem refs_gA:∀ l:List Dg,AV.hasRefs (l.map gA) = false
  | []=>rfl
  | x :: r=>by simp only [List.map_cons,AV.hasRefs,gA,AV.hasRef,refs_gA r,Bool.or_self]
def mdst (k:Int) (ds:List Dg) (c:List Cel) (i:Int) (w4:AV):St :=
  { vars:=[.agg [.int .u8 k,.isl (ds.map gA)],.isl [],.isl (c.map cA),.int .i64 i,w4,.agg [.int .u8 k,.isl (ds.map gA)]],heap:=[],rs:=false }
def Pre (c:List Cel) (t:Nat):Prop:=∀ j,j ≤ t → j ≤ 2 → ∃ s m,Good (c.take (c.length - j)) s m ∧ m ≤ 11 ∧ s.fin = true
theorem pre_step {c:List Cel} {t:Nat} {y:Cel} {s:GS} {m:Nat} (h:Pre c t) (g:Good (c ++ [y]) s m) (hm:m ≤ 11) (hf:s.fin = true):Pre (c ++ [y]) (t + 1):=by
  intro j hj hj2
  cases j with
  | zero=>exact ⟨s,m,by rw [Nat.sub_zero,List.take_length]; exact g,hm,hf⟩
  | succ j =>
    obtain ⟨s2,m2,h1,h2,h3⟩:=h j (by omega) (by omega)
    refine ⟨s2,m2,?_,h2,h3⟩
    have:(c ++ [y]).length - (j + 1) = c.length - j:=by simp only [List.length_append,List.length_cons,List.length_nil]; omega
    rw [this,List.take_append_of_le_length (by omega)]
    exact h1
variable {E:CallF} (hE:Free E)
include hE
theorem made26_loop (k:Int) (ds:List Dg) (hds:∀ x ∈ ds,x.ok):∀ (n i:Nat) (c:List Cel) (s:GS),4 = i + n → okT n s = true → Good c s (7 + i) → i ≤ ds.length → Pre c i →
    ∃ c' s' m' j,Good c' s' m' ∧ m' ≤ 11 ∧ s'.fin = true ∧ Pre c' (min 4 ds.length) ∧ run E GP a1l0 (mdst k ds c i .u) = some (.exit 0,mdst k ds c' j (.bool false)):=by
  intro n
  induction n with
  | zero =>
    intro i c s h4 hok hg hil hpre
    have hi:i = 4:=by omega
    subst hi
    refine ⟨c,s,11,4,hg,Nat.le_refl _,hok,by rw [Nat.min_eq_left hil]; exact hpre,?_⟩
    unfold mdst
    rw [a1l0_run]
    by_cases hl:(4:Int) < (ds.length:Int)
    · simp (maxSteps:=1000000) only [si,simprocAttr,a1b0,a1R,hl]
    · simp (maxSteps:=1000000) only [si,simprocAttr,a1b0,a1R,hl]
  | succ n ih =>
    intro i c s h4 hok hg hil hpre
    rw [okT] at hok
    simp only [Bool.and_eq_true] at hok
    obtain ⟨f1,f2,o0,o1,o2,o3⟩:=hok
    by_cases hl:(i:Int) < (ds.length:Int)
    · have hlt:i < ds.length:=by omega
      have g1:=gA_get hlt
      obtain ⟨y2,q1,q2⟩:=good_grow hE hg (by omega) (by omega) (kok_all f2) ds[i] (hds _ (List.getElem_mem hlt))
      have hok2:okT n (s.grow (gDim ds[i]).toNat) = true:=by
        have hu:=u8w ds[i].a
        have td1:=Int.tmod_lt_of_pos (IntKind.u8.wrap ds[i].a) (show (0:Int) < 4 by omega)
        have td2:=Int.tmod_nonneg 4 hu.1
        have:(gDim ds[i]).toNat = 0 ∨ (gDim ds[i]).toNat = 1 ∨ (gDim ds[i]).toNat = 2 ∨ (gDim ds[i]).toNat = 3:=by unfold gDim; omega
        rcases this with h | h | h | h <;> rw [h] <;> assumption
      have hf2:(s.grow (gDim ds[i]).toNat).fin = true:=by
        cases n with
        | zero=>exact hok2
        | succ n=>rw [okT] at hok2; simp only [Bool.and_eq_true] at hok2; exact hok2.1
      obtain ⟨c',s',m',j,r1,r2,r3,r5,r4⟩:=ih (i + 1) (c ++ [y2]) _ (by omega) hok2 q1 (by omega) (pre_step hpre q1 (by omega) hf2)
      refine ⟨c',s',m',j,r1,r2,r3,r5,?_⟩
      rw [← r4]
      generalize c ++ [y2] = c2 at *
      have wi:IntKind.i64.wrap ((i:Int) + 1) = ((i + 1:Nat):Int):=i64a (by omega)
      have k4:(i:Int) < 4:=by omega
      have hr:=refs_gA ds
      have hrc:=refs_cA c2
      rw [show gA ds[i] = .agg [.int .i8 ds[i].a,.int .i8 ds[i].b,.int .i8 ds[i].c,.int .i8 ds[i].d] from rfl] at g1 q2
      unfold mdst
      conv=>lhs; rw [a1l0_run]
      simp (maxSteps:=1000000) only [si,simprocAttr,a1b0,a1R,hl,k4,g1,q2,wi,hr,hrc]
    · refine ⟨c,s,7 + i,i,hg,by omega,f1,by rw [show min 4 ds.length = i by omega]; exact hpre,?_⟩
      unfold mdst
      rw [a1l0_run]
      simp (maxSteps:=1000000) only [si,simprocAttr,a1b0,a1R,hl]
omit hE in
theorem r26_made2 (k:Nat) (hk:k < 256) (ds:List Dg) (hds:∀ x ∈ ds,x.ok) :
    ∃ c s m,Good c s m ∧ m ≤ 11 ∧ s.fin = true ∧ Pre c (min 4 ds.length) ∧ ∀ H,call E1 GP 1 [.agg [.int .u8 k,.isl (ds.map gA)]] H = some (.isl (c.map cA),H,false):=by
  have hj:k % 14 < 14:=Nat.mod_lt _ (by decide)
  have hok:=List.all_eq_true.1 ok_all (k % 14) (List.mem_range.2 hj)
  have g0:=gs_good _ hj
  have hok0:=hok
  rw [okT] at hok0
  simp only [Bool.and_eq_true] at hok0
  obtain ⟨c,s,m,j,r1,r2,r3,r5,r4⟩:=made26_loop free1 (k:Int) ds hds 4 0 _ _ (by omega) hok g0 (Nat.zero_le _) (fun j hj _=>⟨_,7,by rw [show j = 0 by omega,Nat.sub_zero,List.take_length]; exact g0,by omega,hok0.1⟩)
  refine ⟨c,s,m,r1,r2,r3,r5,fun H=>?_⟩
  rw [call_fun (by rfl) (f:=a1) rfl rfl]
  have hsp:=fun H=>r26_space k hk H
  have hr:=refs_gA ds
  have hr0:=refs_cA (spaceC (k % 14))
  have hrc:=refs_cA c
  have hsc:=solids_cA c
  have hz:∀ n H,(c.map cA).map (fz n H 7) = c.map cA:=fun n H=>by
    rw [List.map_map]; apply List.map_congr_left; intro y _; exact fz_cA n H 1 y
  unfold mdst at r4
  simp only [Int.ofNat_zero] at r4
  simp (maxSteps:=1000000) only [si,simprocAttr,a1,a1R,hsp,hr,hr0,r4,hrc,hsc,hz]
end Tor
namespace Tor
open Go
variable {E:CallF} (hE:Free E)
include hE
theorem c_place1 (x:Cel) (id:Int) (H:Heap):call E GP 77 [.agg [.int .i64 x.id,.int .i64 x.dim,.isl (x.b.map fA)],.int .i64 id] H = some (.int .i64 (cmp3 x.id id),H,false):=by
  rw [call_fun (hE _ _ _ (by decide)) (f:=a77) rfl rfl]
  have h1:=c_cmp64 hE x.id id
  have h2:=refs_fA x.b
  simp (maxSteps:=1000000) only [si,simprocAttr,a77,a77R,h1,h2]
theorem bs_loop (c:List Cel) (id:Int) (hc:c.length < 2147483648) (hs:c.Pairwise (fun x y=>x.id < y.id)) (H:Heap) (b:Bool):∀ (n i j:Nat),j - i < n → i ≤ j → j ≤ c.length →
    (∀ a,a < i → (c.getD a zC).id < id) → (∀ a,j ≤ a → a < c.length → id ≤ (c.getD a zC).id) →
    ∃ p:Nat,p ≤ c.length ∧ (∀ a,a < p → (c.getD a zC).id < id) ∧ (∀ a,p ≤ a → a < c.length → id ≤ (c.getD a zC).id) ∧
      run E GP a78l0 { vars:=[.isl (c.map cA),.int .i64 id,.fn 77 [],.int .i64 0,.bool false,.int .i64 c.length,.int .i64 i,.int .i64 j,.u,.u,.u],heap:=H,rs:=b } =
        some (.exit 0,{ vars:=[.isl (c.map cA),.int .i64 id,.fn 77 [],.int .i64 0,.bool false,.int .i64 c.length,.int .i64 p,.int .i64 p,.u,.bool false,.u],heap:=H,rs:=b }):=by
  intro n
  induction n with
  | zero=>intro i j h; omega
  | succ n ih =>
    intro i j h hij hj h1 h2
    by_cases hlt:i < j
    · have k1:(i:Int) < (j:Int):=by omega
      have w1:IntKind.i64.wrap ((i:Int) + (j:Int)) = ((i + j:Nat):Int):=by rw [i64w (by omega)]; omega
      have w2:IntKind.u64.wrap ((i + j:Nat):Int) = ((i + j:Nat):Int):=by
        simp [IntKind.wrap,IntKind.bits,IntKind.signed]; omega
      have w3:((i + j:Nat):Int).fdiv (2 ^ Nat.min 1 IntKind.u64.bits) = (((i + j) / 2:Nat):Int):=by
        rw [show (2:Int) ^ Nat.min 1 IntKind.u64.bits = 2 from rfl,Int.fdiv_eq_ediv_of_nonneg _ (by decide)]; rfl
      have hh:(i + j) / 2 < c.length:=by omega
      have w4:IntKind.i64.wrap (((i + j) / 2:Nat):Int) = (((i + j) / 2:Nat):Int):=i64w (by omega)
      have w5:IntKind.i64.wrap ((((i + j) / 2:Nat):Int) + 1) = (((i + j) / 2 + 1:Nat):Int):=i64a (by omega)
      have e0:c.getD ((i + j) / 2) zC = c[(i + j) / 2]:=by simp [List.getD,hh]
      have g1:=cA_get hh
      have hp:=fun H=>c_place1 hE c[(i + j) / 2] id H
      have hrc:=refs_cA c
      have htk:List.take H.length H = H:=List.take_length
      have hsort:∀ a b,a < b → b < c.length → (c.getD a zC).id < (c.getD b zC).id:=fun a b hab hb=>by
        have:=List.pairwise_iff_getElem.1 hs a b (by omega) hb hab
        simpa [List.getD,show a < c.length by omega,hb] using this
      by_cases hlow:c[(i + j) / 2].id < id
      · have hc3:cmp3 c[(i + j) / 2].id id < 0:=by unfold cmp3; rw [if_pos hlow]; decide
        obtain ⟨p,p1,p2,p3,p4⟩:=ih ((i + j) / 2 + 1) j (by omega) (by omega) hj (fun a ha=>by
          rcases Nat.lt_or_ge a ((i + j) / 2) with h | h
          · have:=hsort a _ h hh; rw [e0] at this; omega
          · have:a = (i + j) / 2:=by omega
            subst this; rw [e0]; exact hlow) h2
        refine ⟨p,p1,p2,p3,?_⟩
        rw [← p4]
        generalize (i + j) / 2 = q at *
        generalize c[q] = x at *
        conv=>lhs; rw [a78l0_run]
        simp (maxSteps:=1000000) only [si,simprocAttr,a78b0,a78R,k1,w1,w2,w3,w4,w5,g1,hp,hrc,htk,hc3]
      · have hc3:¬ cmp3 c[(i + j) / 2].id id < 0:=by unfold cmp3; rw [if_neg hlow]; split <;> decide
        obtain ⟨p,p1,p2,p3,p4⟩:=ih i ((i + j) / 2) (by omega) (by omega) (by omega) h1 (fun a ha ha2=>by
          rcases Nat.eq_or_lt_of_le ha with h | h
          · subst h; rw [e0]; omega
          · have:=hsort _ a h ha2; rw [e0] at this; omega)
        refine ⟨p,p1,p2,p3,?_⟩
        rw [← p4]
        generalize (i + j) / 2 = q at *
        generalize c[q] = x at *
        conv=>lhs; rw [a78l0_run]
        simp (maxSteps:=1000000) only [si,simprocAttr,a78b0,a78R,k1,w1,w2,w3,w4,w5,g1,hp,hrc,htk,hc3]
    · have hij2:i = j:=by omega
      subst hij2
      have k1:¬ (i:Int) < (i:Int):=by omega
      refine ⟨i,hj,h1,h2,?_⟩
      rw [a78l0_run]
      simp (maxSteps:=1000000) only [si,simprocAttr,a78b0,a78R,k1]
theorem c_search (c:List Cel) (id:Int) (hc:c.length < 2147483648) (hs:c.Pairwise (fun x y=>x.id < y.id)) :
    ∃ p:Nat,p ≤ c.length ∧ (∀ a,a < p → (c.getD a zC).id < id) ∧ (∀ a,p ≤ a → a < c.length → id ≤ (c.getD a zC).id) ∧
      ∀ H,call E GP 78 [.isl (c.map cA),.int .i64 id,.fn 77 []] H = some (.tup [.int .i64 p,.bool (decide (p < c.length ∧ (c.getD p zC).id = id))],H,false):=by
  obtain ⟨p,p1,p2,p3,_⟩:=bs_loop hE c id hc hs [] false (c.length + 1) 0 c.length (by omega) (by omega) (Nat.le_refl _) (fun a h=>by omega) (fun a h h2=>by omega)
  have uni:∀ q:Nat,q ≤ c.length → (∀ a,a < q → (c.getD a zC).id < id) → (∀ a,q ≤ a → a < c.length → id ≤ (c.getD a zC).id) → q = p:=fun q q1 q2 q3=>by
    rcases Nat.lt_trichotomy p q with h | h | h
    · have a1:=q2 p h
      have a2:=p3 p (Nat.le_refl _) (by omega)
      omega
    · exact h.symm
    · have a1:=p2 q h
      have a2:=q3 q (Nat.le_refl _) (by omega)
      omega
  refine ⟨p,p1,p2,p3,fun H=>?_⟩
  obtain ⟨q,q1,q2,q3,hl⟩:=bs_loop hE c id hc hs H false (c.length + 1) 0 c.length (by omega) (by omega) (Nat.le_refl _) (fun a h=>by omega) (fun a h h2=>by omega)
  have:=uni q q1 q2 q3
  subst this
  rw [call_fun (hE _ _ _ (by decide)) (f:=a78) rfl rfl]
  have hrc:=refs_cA c
  simp only [Int.ofNat_zero] at hl
  have hmode:a78.mode = .shr:=rfl
  by_cases hlt:q < c.length
  · have k1:(q:Int) < (c.length:Int):=by omega
    have e0:c.getD q zC = c[q]:=by simp [List.getD,hlt]
    have g1:=cA_get hlt
    rw [e0]
    generalize c[q] = x at *
    have hp:=fun H=>c_place1 hE x id H
    have e1:decide (q < c.length ∧ x.id = id) = decide (cmp3 x.id id = 0):=by
      by_cases h:x.id = id
      · have:cmp3 x.id id = 0:=by unfold cmp3; rw [if_neg (by omega),if_neg (by omega)]
        simp [h,hlt] at this ⊢; exact this
      · have:=cmp3_ne h
        simp [h,this]
    rw [e1]
    simp (maxSteps:=1000000) only [hmode,si,simprocAttr,a78,a78R,hl,hrc,k1,g1,hp]
  · have k1:¬ (q:Int) < (c.length:Int):=by omega
    have e1:decide (q < c.length ∧ (c.getD q zC).id = id) = false:=by simp; intro h; omega
    rw [e1]
    simp (maxSteps:=1000000) only [hmode,si,simprocAttr,a78,a78R,hl,hrc,k1]
omit hE in
theorem find_pos {c:List Cel} {id:Int} (hs:c.Pairwise (fun x y=>x.id < y.id)) {p:Nat} (h1:p ≤ c.length) (h2:∀ a,a < p → (c.getD a zC).id < id) (h3:∀ a,p ≤ a → a < c.length → id ≤ (c.getD a zC).id) :
    findC c id = if p < c.length ∧ (c.getD p zC).id = id then some (c.getD p zC) else none:=by
  split
  · rename_i h
    have e0:c.getD p zC = c[p]:=by simp [List.getD,h.1]
    rw [e0] at h ⊢
    have:=find_mem hs (List.getElem_mem h.1)
    exact (congrArg (findC c) h.2).symm.trans this
  · rename_i h
    unfold findC
    rw [List.find?_eq_none]
    intro x hx hid
    simp only [decide_eq_true_eq] at hid
    obtain ⟨a,ha,rfl⟩:=List.mem_iff_getElem.1 hx
    have ea:c.getD a zC = c[a]:=by simp [List.getD,ha]
    rcases Nat.lt_or_ge a p with h4 | h4
    · have:=h2 a h4; rw [ea] at this; omega
    · rcases Nat.eq_or_lt_of_le h4 with h5 | h5
      · subst h5; exact h ⟨ha,by rw [ea]; exact hid⟩
      · have hp:p < c.length:=by omega
        have ep:c.getD p zC = c[p]:=by simp [List.getD,hp]
        have a1:=h3 p (Nat.le_refl _) hp
        have a2:=List.pairwise_iff_getElem.1 hs p a hp ha h5
        rw [ep] at a1
        omega
theorem c_find (c:List Cel) (id:Int) (hc:c.length < 2147483648) (hs:c.Pairwise (fun x y=>x.id < y.id)) (H:Heap) :
    call E GP 50 [.isl (c.map cA),.int .i64 id] H = some (.tup [cA ((findC c id).getD zC),.bool (findC c id).isSome],H,false):=by
  obtain ⟨p,p1,p2,p3,p4⟩:=c_search hE c id hc hs
  rw [call_fun (hE _ _ _ (by decide)) (f:=a50) rfl rfl]
  have hf:=find_pos hs p1 p2 p3
  have hrc:=refs_cA c
  have h65:∀ H,call E GP 65 [.isl (c.map cA),.int .i64 id] H = some (.tup [.int .i64 p,.bool (decide (p < c.length ∧ (c.getD p zC).id = id))],H,false):=fun H=>by
    rw [call_fun (hE _ _ _ (by decide)) (f:=a65) rfl rfl]
    simp (maxSteps:=1000000) only [si,simprocAttr,a65,a65R,hrc,p4]
  by_cases h:p < c.length ∧ (c.getD p zC).id = id
  · rw [if_pos h] at hf
    rw [hf]
    simp only [Option.getD_some,Option.isSome_some]
    have hd:decide (p < c.length ∧ (c.getD p zC).id = id) = true:=decide_eq_true h
    rw [hd] at h65
    have g1:=cA_get h.1
    have e0:c.getD p zC = c[p]:=by simp [List.getD,h.1]
    rw [e0]
    generalize c[p] = x at *
    have r1:=refs_fA x.b
    have r2:=solids_fA x.b
    unfold cA at hrc h65 g1 ⊢
    simp (maxSteps:=1000000) only [si,simprocAttr,a50,a50R,hrc,h65,g1,r1,r2,fz_fAs]
  · rw [if_neg h] at hf
    rw [hf,Option.getD_none,Option.isSome_none,show cA zC = .agg [.int .i64 0,.int .i64 0,.isl []] from rfl]
    have hd:decide (p < c.length ∧ (c.getD p zC).id = id) = false:=decide_eq_false h
    rw [hd] at h65
    simp (maxSteps:=1000000) only [si,simprocAttr,a50,a50R,hrc,h65]
end Tor
namespace Tor
open Go
variable {E:CallF} (hE:Free E)
include hE
theorem pcells_loop (c:List Cel) (k:Int) (hc:c.length < 2147483648):∀ (n i:Nat) (out:List Int),c.length = i + n → out.length ≤ i →
    run E GP a35l0 { vars:=[.isl (c.map cA),.int .i64 k,.isl [],.sl 0 out.length 1 0 out.length,.isl (c.map cA),.int .i64 c.length,.int .i64 i,.u,.u,.u],heap:=[.arr out.length 1 (out.map iA)],rs:=false } =
      some (.exit 0,{ vars:=[.isl (c.map cA),.int .i64 k,.isl [],.sl 0 (out ++ cellsC (c.drop i) k).length 1 0 (out ++ cellsC (c.drop i) k).length,.isl (c.map cA),.int .i64 c.length,.int .i64 c.length,.bool false,.u,.u],heap:=[.arr (out ++ cellsC (c.drop i) k).length 1 ((out ++ cellsC (c.drop i) k).map iA)],rs:=false }):=by
  intro n
  induction n with
  | zero =>
    intro i out h ho
    have hi:i = c.length:=by omega
    subst hi
    have k1:¬ (c.length:Int) < (c.length:Int):=by omega
    have e:out ++ cellsC (c.drop c.length) k = out:=by simp [cellsC]
    rw [e,a35l0_run]
    simp (maxSteps:=1000000) only [si,simprocAttr,a35b0,a35R,k1]
  | succ n ih =>
    intro i out h ho
    have hi:i < c.length:=by omega
    have k1:(i:Int) < (c.length:Int):=by omega
    have wi:IntKind.i64.wrap ((i:Int) + 1) = ((i + 1:Nat):Int):=i64a (by omega)
    have g1:=cA_get hi
    have hm:out.length + 1 ≤ 4294967296:=by omega
    have hrc:=refs_cA c
    have rb:=refs_fA c[i].b
    by_cases he:c[i].dim = k
    · have hb:decide (c[i].dim = k) = true:=decide_eq_true he
      have e:out ++ cellsC (c.drop i) k = (out ++ [c[i].id]) ++ cellsC (c.drop (i + 1)) k:=by
        rw [List.drop_eq_getElem_cons hi]; unfold cellsC; rw [List.filter_cons_of_pos (by simpa using he)]; simp
      rw [e,← ih (i + 1) (out ++ [c[i].id]) (by omega) (by simp; omega)]
      have el:(out ++ [c[i].id]).length = out.length + 1:=by simp
      have em:(out ++ [c[i].id]).map iA = out.map iA ++ [.int .i64 c[i].id]:=by simp [iA]
      rw [el,em]
      conv=>lhs; rw [a35l0_run]
      simp (maxSteps:=1000000) only [si,simprocAttr,a35b0,a35R,k1,g1,hb,wi,hm,hrc,rb,maxLenA]
    · have hb:decide (c[i].dim = k) = false:=decide_eq_false he
      have e:out ++ cellsC (c.drop i) k = out ++ cellsC (c.drop (i + 1)) k:=by
        rw [List.drop_eq_getElem_cons hi]; unfold cellsC; rw [List.filter_cons_of_neg (by simpa using he)]
      rw [e,← ih (i + 1) out (by omega) (by omega)]
      conv=>lhs; rw [a35l0_run]
      simp (maxSteps:=1000000) only [si,simprocAttr,a35b0,a35R,k1,g1,hb,wi,hm,hrc,rb,maxLenA]
theorem c_cells (c:List Cel) (k:Int) (hc:c.length < 2147483648) (H:Heap) :
    call E GP 35 [.isl (c.map cA),.int .i64 k] H = some (.isl ((cellsC c k).map iA),H,false):=by
  rw [call_fun (hE _ _ _ (by decide)) (f:=a35) rfl rfl]
  have h1:=pcells_loop hE c k hc c.length 0 [] (by omega) (Nat.le_refl _)
  rw [List.drop_zero,List.nil_append] at h1
  have hrf:=refs_cA c
  have hs:=solids_iA (cellsC c k)
  have hr:=refs_iA (cellsC c k)
  have ht:List.take (cellsC c k).length ((cellsC c k).map iA) = (cellsC c k).map iA:=List.take_of_length_le (by simp)
  have hz:∀ n H k',((cellsC c k).map iA).map (fz n H (k' + 1)) = (cellsC c k).map iA:=fun n H k'=>fz_iA n H k' _
  have hz6:=fun n H=>hz n H 6
  simp only [Int.ofNat_zero,List.length_nil,List.map_nil] at h1
  generalize cellsC c k = l at *
  simp (maxSteps:=1000000) only [si,simprocAttr,a35,a35R,hrf,h1,hs,hr,ht,hz6]
end Tor
namespace Tor
open Go
def lkH (fs:List Cel) (d:Int):Heap:=[.arr fs.length 3 (fs.map cA),.var (.int .i64 d)]
variable {E:CallF} (hE:Free E)
include hE
theorem c_look1 (fs:List Cel) (d:Int) (x:Cel):call E GP 51 [.agg [.int .i64 x.id,.int .i64 x.dim,.isl (x.b.map fA)],.ptr 1 0 []] (lkH fs d) = some (.bool (!decide (x.dim = d)),lkH fs d,false):=by
  rw [call_fun (hE _ _ _ (by decide)) (f:=a51) rfl rfl]
  have hmode:a51.mode = .shr:=rfl
  unfold lkH
  simp (maxSteps:=1000000) only [hmode,si,simprocAttr,a51,a51R,List.take]
theorem ix_loop (fs:List Cel) (d:Int) (hc:fs.length < 2147483648):∀ (n i:Nat),fs.length = i + n →
    ((∀ x ∈ fs.drop i,x.dim = d) → run E GP a66l0 { vars:=[.sl 0 fs.length 3 0 fs.length,.fn 51 [.ptr 1 0 []],.int .i64 0,.u,.int .i64 fs.length,.int .i64 i,.u,.u],heap:=lkH fs d,rs:=false } =
      some (.exit 0,{ vars:=[.sl 0 fs.length 3 0 fs.length,.fn 51 [.ptr 1 0 []],.int .i64 0,.u,.int .i64 fs.length,.int .i64 fs.length,.bool false,.u],heap:=lkH fs d,rs:=false })) ∧
    (¬ (∀ x ∈ fs.drop i,x.dim = d) → ∃ j:Nat,run E GP a66l0 { vars:=[.sl 0 fs.length 3 0 fs.length,.fn 51 [.ptr 1 0 []],.int .i64 0,.u,.int .i64 fs.length,.int .i64 i,.u,.u],heap:=lkH fs d,rs:=false } =
      some (.ret,{ vars:=[.sl 0 fs.length 3 0 fs.length,.fn 51 [.ptr 1 0 []],.int .i64 j,.int .i64 j,.int .i64 fs.length,.int .i64 j,.bool true,.bool true],heap:=lkH fs d,rs:=false })):=by
  intro n
  induction n with
  | zero =>
    intro i h
    have hi:i = fs.length:=by omega
    subst hi
    have k1:¬ (fs.length:Int) < (fs.length:Int):=by omega
    refine ⟨fun _=>?_,fun h=>absurd (by simp) h⟩
    rw [a66l0_run]
    simp (maxSteps:=1000000) only [si,simprocAttr,a66b0,a66R,k1]
  | succ n ih =>
    intro i h
    have hi:i < fs.length:=by omega
    have k1:(i:Int) < (fs.length:Int):=by omega
    have wi:IntKind.i64.wrap ((i:Int) + 1) = ((i + 1:Nat):Int):=i64a (by omega)
    have g1:=cA_get hi
    have h51:=c_look1 hE fs d fs[i]
    have rb:=refs_fA fs[i].b
    obtain ⟨i1,i2⟩:=ih (i + 1) (by omega)
    rw [List.drop_eq_getElem_cons hi]
    by_cases he:fs[i].dim = d
    · have hst : run E GP a66l0 { vars := [.sl 0 fs.length 3 0 fs.length, .fn 51 [.ptr 1 0 []], .int .i64 0, .u, .int .i64 fs.length, .int .i64 i, .u, .u], heap := lkH fs d, rs := false } =
          run E GP a66l0 { vars:=[.sl 0 fs.length 3 0 fs.length,.fn 51 [.ptr 1 0 []],.int .i64 0,.u,.int .i64 fs.length,.int .i64 (i + 1:Nat),.u,.u],heap:=lkH fs d,rs:=false }:=by
        have hb:(!decide (fs[i].dim = d)) = false:=by simp [he]
        rw [hb] at h51
        unfold lkH at h51 ⊢
        conv=>lhs; rw [a66l0_run]
        simp (maxSteps:=1000000) only [si,simprocAttr,a66b0,a66R,k1,wi,g1,h51,rb,List.take]
      rw [hst]
      refine ⟨fun hall=>i1 fun x hx=>hall x (.tail _ hx),fun hn=>i2 fun hall=>hn fun x hx=>?_⟩
      cases hx with
      | head=>exact he
      | tail _ hx=>exact hall x hx
    · refine ⟨fun hall=>absurd (hall _ (.head _)) he,fun _=>⟨i,?_⟩⟩
      have hb:(!decide (fs[i].dim = d)) = true:=by simp [he]
      rw [hb] at h51
      unfold lkH at h51 ⊢
      rw [a66l0_run]
      simp (maxSteps:=1000000) only [si,simprocAttr,a66b0,a66R,k1,wi,g1,h51,rb,List.take]
theorem c_contains (fs:List Cel) (d:Int) (hc:fs.length < 2147483648) :
    call E GP 52 [.sl 0 fs.length 3 0 fs.length,.fn 51 [.ptr 1 0 []]] (lkH fs d) = some (.bool (decide (¬ ∀ x ∈ fs,x.dim = d)),lkH fs d,false):=by
  rw [call_fun (hE _ _ _ (by decide)) (f:=a52) rfl rfl]
  have hmode:a52.mode = .shr:=rfl
  obtain ⟨h1,h2⟩:=ix_loop hE fs d hc fs.length 0 (by omega)
  rw [List.drop_zero] at h1 h2
  simp only [Int.ofNat_zero] at h1 h2
  have hmode6:a66.mode = .shr:=rfl
  by_cases h:∀ x ∈ fs,x.dim = d
  · have h66:call E GP 66 [.sl 0 fs.length 3 0 fs.length,.fn 51 [.ptr 1 0 []]] (lkH fs d) = some (.int .i64 (-1),lkH fs d,false):=by
      rw [call_fun (hE _ _ _ (by decide)) (f:=a66) rfl rfl]
      have h1:=h1 h
      unfold lkH at h1 ⊢
      simp (maxSteps:=1000000) only [hmode6,si,simprocAttr,a66,a66R,h1,List.take]
    have hd:decide (¬ ∀ x ∈ fs,x.dim = d) = false:=by simpa using h
    rw [hd]
    unfold lkH at h66 ⊢
    simp (maxSteps:=1000000) only [hmode,si,simprocAttr,a52,a52R,h66,List.take]
  · obtain ⟨j,h2⟩:=h2 h
    have h66:call E GP 66 [.sl 0 fs.length 3 0 fs.length,.fn 51 [.ptr 1 0 []]] (lkH fs d) = some (.int .i64 j,lkH fs d,false):=by
      rw [call_fun (hE _ _ _ (by decide)) (f:=a66) rfl rfl]
      unfold lkH at h2 ⊢
      simp (maxSteps:=1000000) only [hmode6,si,simprocAttr,a66,a66R,h2,List.take]
    have hd:decide (¬ ∀ x ∈ fs,x.dim = d) = true:=by simpa using h
    rw [hd]
    have hj:(j:Int) ≥ 0:=by omega
    unfold lkH at h66 ⊢
    simp (maxSteps:=1000000) only [hmode,si,simprocAttr,a52,a52R,h66,hj,List.take]
omit hE in
theorem headSize_cA (l:List Cel):headSize 3 (l.map cA) = true:=by cases l <;> rfl
theorem look_loop (c:List Cel) (x:List (Int × Int)) (hc:c.length < 2147483648) (hs:c.Pairwise (fun x y=>x.id < y.id)) (hx:x.length < 2147483648):∀ (n i:Nat) (out:List Cel),x.length = i + n → out.length = i →
    ((∀ p ∈ x.drop i,(findC c p.1).isSome = true) → run E GP a30l0 { vars:=[.isl (c.map cA),.isl (x.map fA),.isl [],.int .i64 0,.int .i64 0,.sl 0 out.length 3 0 out.length,.u,.u,.isl (x.map fA),.int .i64 x.length,.int .i64 i,.u,.u,.u,.u,.u,.u],heap:=[.arr out.length 3 (out.map cA)],rs:=false } =
      some (.exit 0,{ vars:=[.isl (c.map cA),.isl (x.map fA),.isl [],.int .i64 0,.int .i64 0,.sl 0 x.length 3 0 x.length,.u,.u,.isl (x.map fA),.int .i64 x.length,.int .i64 x.length,.bool false,.u,.u,.u,.u,.u],heap:=[.arr x.length 3 ((out ++ (x.drop i).map (fun p=>cellOf? c p.1)).map cA)],rs:=false })) ∧
    (¬ (∀ p ∈ x.drop i,(findC c p.1).isSome = true) → ∃ v5 v10 v15 v16 H',run E GP a30l0 { vars:=[.isl (c.map cA),.isl (x.map fA),.isl [],.int .i64 0,.int .i64 0,.sl 0 out.length 3 0 out.length,.u,.u,.isl (x.map fA),.int .i64 x.length,.int .i64 i,.u,.u,.u,.u,.u,.u],heap:=[.arr out.length 3 (out.map cA)],rs:=false } =
      some (.ret,{ vars:=[.isl (c.map cA),.isl (x.map fA),.isl [],.int .i64 0,.int .i64 250,v5,.bool false,.u,.isl (x.map fA),.int .i64 x.length,v10,.bool true,.bool true,.u,.u,v15,v16],heap:=H',rs:=false })):=by
  intro n
  induction n with
  | zero =>
    intro i out h ho
    have hi:i = x.length:=by omega
    subst hi
    have k1:¬ (x.length:Int) < (x.length:Int):=by omega
    refine ⟨fun _=>?_,fun h=>absurd (by simp) h⟩
    rw [List.drop_length,List.map_nil,List.append_nil,a30l0_run,ho]
    simp (maxSteps:=1000000) only [si,simprocAttr,a30b0,a30R,k1]
  | succ n ih =>
    intro i out h ho
    have hi:i < x.length:=by omega
    have k1:(i:Int) < (x.length:Int):=by omega
    have wi:IntKind.i64.wrap ((i:Int) + 1) = ((i + 1:Nat):Int):=i64a (by omega)
    have g1:=fA_get hi
    have hm:out.length + 1 ≤ 4294967296:=by omega
    have hf:=fun H=>c_find hE c x[i].1 hc hs H
    have hrc:=refs_cA c
    have hrx:=refs_fA x
    have hhs:=headSize_cA out
    rw [show (findC c x[i].1).getD zC = cellOf? c x[i].1 from rfl] at hf
    obtain ⟨i1,i2⟩:=ih (i + 1) (out ++ [cellOf? c x[i].1]) (by omega) (by simp [ho])
    rw [List.drop_eq_getElem_cons hi]
    by_cases he:(findC c x[i].1).isSome = true
    · have e3:out ++ (x[i] :: x.drop (i + 1)).map (fun p=>cellOf? c p.1) = (out ++ [cellOf? c x[i].1]) ++ (x.drop (i + 1)).map (fun p=>cellOf? c p.1):=by rw [List.map_cons,List.append_assoc]; rfl
      rw [e3]
      rw [he] at hf
      generalize cellOf? c x[i].1 = f at *
      have hst:run E GP a30l0 { vars:=[.isl (c.map cA),.isl (x.map fA),.isl [],.int .i64 0,.int .i64 0,.sl 0 out.length 3 0 out.length,.u,.u,.isl (x.map fA),.int .i64 x.length,.int .i64 i,.u,.u,.u,.u,.u,.u],heap:=[.arr out.length 3 (out.map cA)],rs:=false } =
          run E GP a30l0 { vars:=[.isl (c.map cA),.isl (x.map fA),.isl [],.int .i64 0,.int .i64 0,.sl 0 (out ++ [f]).length 3 0 (out ++ [f]).length,.u,.u,.isl (x.map fA),.int .i64 x.length,.int .i64 (i + 1:Nat),.u,.u,.u,.u,.u,.u],heap:=[.arr (out ++ [f]).length 3 ((out ++ [f]).map cA)],rs:=false }:=by
        have el:(out ++ [f]).length = out.length + 1:=by simp
        have em:(out ++ [f]).map cA = out.map cA ++ [.agg [.int .i64 f.id,.int .i64 f.dim,.isl (f.b.map fA)]]:=by simp [cA]
        rw [el,em]
        have rb:=refs_fA f.b
        rw [show cA f = .agg [.int .i64 f.id,.int .i64 f.dim,.isl (f.b.map fA)] from rfl] at hf
        conv=>lhs; rw [a30l0_run]
        simp (maxSteps:=1000000) only [si,simprocAttr,a30b0,a30R,k1,wi,g1,hf,hm,hrc,hrx,rb,hhs,maxLenA]
      rw [hst]
      refine ⟨fun hall=>i1 fun p hp=>hall p (.tail _ hp),fun hn=>i2 fun hall=>hn fun p hp=>?_⟩
      cases hp with
      | head=>exact he
      | tail _ hp=>exact hall p hp
    · refine ⟨fun hall=>absurd (hall _ (.head _)) he,fun _=>?_⟩
      have hn:(findC c x[i].1).isSome = false:=by simpa using he
      rw [hn] at hf
      generalize cellOf? c x[i].1 = f at *
      have rb:=refs_fA f.b
      rw [show cA f = .agg [.int .i64 f.id,.int .i64 f.dim,.isl (f.b.map fA)] from rfl] at hf
      rw [a30l0_run]
      simp (maxSteps:=1000000) only [si,simprocAttr,a30b0,a30R,k1,wi,g1,hf,hm,hrc,hrx,rb,maxLenA]
      exact ⟨_,_,_,_,_,rfl⟩
def fsOf (c:List Cel) (x:List (Int × Int)):List Cel:=x.map fun p=>cellOf? c p.1
def lookP (c:List Cel) (x:List (Int × Int)):List Cel × Int × Int :=
  if ¬ (∀ p ∈ x,(findC c p.1).isSome = true) then ([],0,250)
  else if x = [] then ([],-1,0)
  else if ¬ (∀ f ∈ fsOf c x,f.dim = ((fsOf c x).getD 0 zC).dim) then ([],0,260)
  else (fsOf c x,((fsOf c x).getD 0 zC).dim,0)
theorem c_look (c:List Cel) (x:List (Int × Int)) (hc:c.length < 2147483648) (hs:c.Pairwise (fun x y=>x.id < y.id)) (hx:x.length < 2147483648) (H:Heap) :
    call E GP 30 [.isl (c.map cA),.isl (x.map fA)] H = some (.tup [.isl ((lookP c x).1.map cA),.int .i64 (lookP c x).2.1,.int .i64 (lookP c x).2.2],H,false):=by
  rw [call_fun (hE _ _ _ (by decide)) (f:=a30) rfl rfl]
  obtain ⟨h1,h2⟩:=look_loop hE c x hc hs hx x.length 0 [] (by omega) rfl
  rw [List.drop_zero] at h1 h2
  simp only [List.length_nil,List.map_nil,List.nil_append,Int.ofNat_zero] at h1 h2
  have hrc:=refs_cA c
  have hrx:=refs_fA x
  unfold lookP
  by_cases ha:∀ p ∈ x,(findC c p.1).isSome = true
  · rw [if_neg (fun h=>h ha)]
    have h1:=h1 ha
    rw [show x.map (fun p=>cellOf? c p.1) = fsOf c x from rfl] at h1
    by_cases h0:x = []
    · subst h0
      rw [if_pos rfl]
      simp only [fsOf,List.map_nil,List.length_nil,Int.ofNat_zero] at h1 hrx ⊢
      simp (maxSteps:=1000000) only [si,simprocAttr,a30,a30R,hrc,h1,List.length_nil]
    · rw [if_neg h0]
      have hpos:0 < x.length:=List.length_pos_iff.2 h0
      have hlen:(fsOf c x).length = x.length:=by simp [fsOf]
      have hne:¬ (x.length:Int) = 0:=by omega
      have hfl:0 < (fsOf c x).length:=by omega
      have g0:=cA_get hfl
      have e0:(fsOf c x).getD 0 zC = (fsOf c x)[0]:=by simp [List.getD,hfl]
      rw [e0]
      have hcon:=c_contains hE (fsOf c x) (fsOf c x)[0].dim (by omega)
      have k0:(0:Int) < (x.length:Int):=by omega
      have hrf:=refs_cA (fsOf c x)
      have hsf:=solids_cA (fsOf c x)
      have hz:∀ n H,((fsOf c x).map cA).map (fz n H 6) = (fsOf c x).map cA:=fun n H=>by
        rw [List.map_map]; apply List.map_congr_left; intro y _; exact fz_cA n H 0 y
      have htk:List.take x.length ((fsOf c x).map cA) = (fsOf c x).map cA:=List.take_of_length_le (by simp [hlen])
      unfold lkH at hcon
      rw [hlen] at hcon
      have hle:x.length ≤ (fsOf c x).length:=by omega
      generalize (fsOf c x)[0] = f0 at *
      by_cases hd:∀ f ∈ fsOf c x,f.dim = f0.dim
      · rw [if_neg (fun h=>h hd)]
        rw [show decide (¬ ∀ x_1 ∈ fsOf c x,x_1.dim = f0.dim) = false by simpa using hd] at hcon
        generalize fsOf c x = fs at *
        simp (maxSteps:=1000000) only [si,simprocAttr,a30,a30R,hrc,hrx,h1,g0,hcon,hne,k0,hrf,hsf,hz,htk,hle,List.take]
      · rw [if_pos hd]
        rw [show decide (¬ ∀ x_1 ∈ fsOf c x,x_1.dim = f0.dim) = true by simpa using hd] at hcon
        generalize fsOf c x = fs at *
        simp (maxSteps:=1000000) only [si,simprocAttr,a30,a30R,hrc,hrx,h1,g0,hcon,hne,k0,List.take,List.map_nil]
  · rw [if_pos ha]
    obtain ⟨v5,v10,v15,v16,H',h2⟩:=h2 ha
    simp (maxSteps:=1000000) only [si,simprocAttr,a30,a30R,hrc,hrx,h2,List.map_nil]
end Tor
namespace Tor
open Go
theorem dim_all (c:List Cel) (D:Int):∀ (r:List (Int × Int)) (fst:Bool) (d:Int) (m:Bool),(∀ p ∈ r,(findC c p.1).isSome = true) → (∀ p ∈ r,(cellOf? c p.1).dim = D) → (fst = true ∨ d = D) →
    dimGo c r fst d m = some (if r = [] then d else D,m)
  | [],fst,d,m,_,_,_=>rfl
  | p :: r,fst,d,m,h1,h2,h3=>by
    rw [dimGo,if_pos (h1 p (.head _)),h2 p (.head _)]
    have e:(m || (!fst && !decide (D = d))) = m:=by
      rcases h3 with h | h
      · subst h; simp
      · subst h; simp
    rw [e,dim_all c D r false D m (fun q hq=>h1 q (.tail _ hq)) (fun q hq=>h2 q (.tail _ hq)) (.inr rfl)]
    simp
theorem dim_mixed (c:List Cel):∀ (r:List (Int × Int)) (fst:Bool) (d:Int),(∀ p ∈ r,(findC c p.1).isSome = true) → ∃ d',dimGo c r fst d true = some (d',true)
  | [],fst,d,_=>⟨d,rfl⟩
  | p :: r,fst,d,h=>by
    rw [dimGo,if_pos (h p (.head _)),Bool.true_or]
    exact dim_mixed c r _ _ (fun q hq=>h q (.tail _ hq))
theorem dim_mix (c:List Cel) (D:Int):∀ (r:List (Int × Int)),(∀ p ∈ r,(findC c p.1).isSome = true) → ¬ (∀ p ∈ r,(cellOf? c p.1).dim = D) → ∃ d',dimGo c r false D false = some (d',true)
  | [],_,h=>absurd (by simp) h
  | p :: r,h1,h2=>by
    rw [dimGo,if_pos (h1 p (.head _))]
    by_cases e:(cellOf? c p.1).dim = D
    · rw [e]
      have e2:(false || (!false && !decide (D = D))) = false:=by simp
      rw [e2]
      exact dim_mix c D r (fun q hq=>h1 q (.tail _ hq)) (fun h=>h2 fun q hq=>by
        cases hq with
        | head=>exact e
        | tail _ hq=>exact h q hq)
    · have e2:(false || (!false && !decide ((cellOf? c p.1).dim = D))) = true:=by simp [e]
      rw [e2]
      exact dim_mixed c r _ _ (fun q hq=>h1 q (.tail _ hq))
theorem dim_none (c:List Cel):∀ (r:List (Int × Int)) (fst:Bool) (d:Int) (m:Bool),¬ (∀ p ∈ r,(findC c p.1).isSome = true) → dimGo c r fst d m = none
  | [],_,_,_,h=>absurd (by simp) h
  | p :: r,fst,d,m,h=>by
    rw [dimGo]
    by_cases e:(findC c p.1).isSome = true
    · rw [if_pos e]
      exact dim_none c r _ _ _ (fun h2=>h fun q hq=>by
        cases hq with
        | head=>exact e
        | tail _ hq=>exact h2 q hq)
    · rw [if_neg e]
theorem look_dim (c:List Cel) (x:List (Int × Int)):(lookP c x).2 = dim26 c x:=by
  unfold lookP dim26
  by_cases ha:∀ p ∈ x,(findC c p.1).isSome = true
  · rw [if_neg (fun h=>h ha)]
    cases x with
    | nil=>rfl
    | cons p r =>
      rw [if_neg (by simp)]
      have e0:((fsOf c (p :: r)).getD 0 zC).dim = (cellOf? c p.1).dim:=rfl
      rw [e0]
      have hall:(∀ f ∈ fsOf c (p :: r),f.dim = (cellOf? c p.1).dim) ↔ ∀ q ∈ p :: r,(cellOf? c q.1).dim = (cellOf? c p.1).dim :=
        ⟨fun h q hq=>h _ (List.mem_map_of_mem hq),fun h f hf=>by obtain ⟨q,hq,rfl⟩:=List.mem_map.1 hf; exact h q hq⟩
      by_cases hd:∀ q ∈ p :: r,(cellOf? c q.1).dim = (cellOf? c p.1).dim
      · rw [if_neg (fun h=>h (hall.2 hd)),dim_all c _ (p :: r) true (-1) false ha hd (.inl rfl),if_neg (by simp)]; rfl
      · rw [if_pos (fun h=>hd (hall.1 h))]
        rw [dimGo,if_pos (ha p (.head _))]
        have e2:(false || (!true && !decide ((cellOf? c p.1).dim = -1))) = false:=by simp
        rw [e2]
        obtain ⟨d',h⟩:=dim_mix c _ r (fun q hq=>ha q (.tail _ hq)) (fun h=>hd fun q hq=>by
          cases hq with
          | head=>rfl
          | tail _ hq=>exact h q hq)
        rw [h]; rfl
  · rw [if_pos ha,dim_none c x _ _ _ ha]; rfl
theorem look_fs (c:List Cel) (x:List (Int × Int)) (h:(dim26 c x).2 = 0):(lookP c x).1 = fsOf c x:=by
  rw [← look_dim] at h
  unfold lookP at h ⊢
  split
  · rename_i h1; rw [if_pos h1] at h; exact absurd h (by decide)
  · rename_i h1
    rw [if_neg h1] at h
    split
    · rename_i h2; subst h2; rfl
    · rename_i h2
      rw [if_neg h2] at h
      split
      · rename_i h3; rw [if_pos h3] at h; exact absurd h (by decide)
      · rfl
theorem sumsK_bd {N:Nat} (c:Int):∀ (l m:List (Int × Int)) (M:Nat),(∀ p ∈ l,(c * p.2).natAbs ≤ N) → Bd M m → Bd (M + N * l.length) (sumsK c l m)
  | [],m,M,_,h=>by simpa [sumsK] using h
  | p :: r,m,M,hl,h=>by
    have h1:=sadd_bd (k:=p.1) (c:=c * p.2) h (hl p (.head _))
    have:=sumsK_bd c r _ _ (fun q hq=>hl q (.tail _ hq)) h1
    rw [List.length_cons,Nat.mul_succ]
    refine bd_mono (by omega) this
def bndG (c:List Cel) (m:List (Int × Int)) (p:Int × Int):List (Int × Int):=sumsK p.2 (cellOf? c p.1).b m
def bndS (c:List Cel) (x:List (Int × Int)):List (Int × Int):=x.foldl (bndG c) []
variable {E:CallF} (hE:Free E)
include hE
theorem c_dim (c:List Cel) (x:List (Int × Int)) (hc:c.length < 2147483648) (hs:c.Pairwise (fun x y=>x.id < y.id)) (hx:x.length < 2147483648) (H:Heap) :
    call E GP 4 [.isl (c.map cA),.isl (x.map fA)] H = some (.tup [.int .i64 (dim26 c x).1,.int .i64 (dim26 c x).2],H,false):=by
  rw [call_fun (hE _ _ _ (by decide)) (f:=a4) rfl rfl]
  have hl:=fun H=>c_look hE c x hc hs hx H
  rw [look_dim] at hl
  have hrc:=refs_cA c
  have hrx:=refs_fA x
  have hrl:=refs_cA (lookP c x).1
  generalize (lookP c x).1 = fs at *
  simp (maxSteps:=1000000) only [si,simprocAttr,a4,a4R,hrc,hrx,hrl,hl]
theorem pbnd_inner (c:List Cel) (x:List (Int × Int)) (fs:List Cel) (i:Nat) (hi:i < x.length) (f:Cel) (N:Nat) (hlen:f.b.length < 2147483647) (hc:Sm x[i]) (hsm:∀ p ∈ f.b,Sm p) (hl:∀ p ∈ f.b,(x[i].2 * p.2).natAbs ≤ N) (M:Nat) (hN:M + N * (f.b.length + 1) < BIG):∀ (k j:Nat) (m:List (Int × Int)),f.b.length = j + k → Bd (M + N * j) m →
    run E GP a6l1 { vars:=[.isl (c.map cA),.isl (x.map fA),.isl [],.int .i64 0,.isl (fs.map cA),.int .i64 0,.mp 0,.int .i64 i,.bool false,.isl (fs.map cA),.int .i64 fs.length,.int .i64 i,.bool true,.isl (f.b.map fA),.int .i64 f.b.length,.int .i64 j,.u,.agg [.int .i64 f.id,.int .i64 f.dim,.isl (f.b.map fA)],.u],heap:=[.map (kvM m)],rs:=false } =
      some (.exit 2,{ vars:=[.isl (c.map cA),.isl (x.map fA),.isl [],.int .i64 0,.isl (fs.map cA),.int .i64 0,.mp 0,.int .i64 i,.bool false,.isl (fs.map cA),.int .i64 fs.length,.int .i64 i,.bool true,.isl (f.b.map fA),.int .i64 f.b.length,.int .i64 f.b.length,.bool false,.agg [.int .i64 f.id,.int .i64 f.dim,.isl (f.b.map fA)],.u],heap:=[.map (kvM (sumsK x[i].2 (f.b.drop j) m))],rs:=false }):=by
  intro k
  induction k with
  | zero =>
    intro j m h1 h2
    have hj:j = f.b.length:=by omega
    subst hj
    have k1:¬ (f.b.length:Int) < (f.b.length:Int):=by omega
    rw [a6l1_run,List.drop_length]
    simp (maxSteps:=1000000) only [si,simprocAttr,a6b1,a6R,k1,sumsK,List.foldl_nil]
  | succ k ih =>
    intro j m h1 h2
    have hj:j < f.b.length:=by omega
    have k1:(j:Int) < (f.b.length:Int):=by omega
    have g1:=fA_get hj
    have g2:=fA_get hi
    have wi:IntKind.i64.wrap ((j:Int) + 1) = ((j + 1:Nat):Int):=i64a (by omega)
    have hd:f.b.drop j = f.b[j] :: f.b.drop (j + 1):=List.drop_eq_getElem_cons hj
    have hb:=hl _ (List.getElem_mem hj)
    have hp:=hsm _ (List.getElem_mem hj)
    have hNi:N * j ≤ N * (f.b.length + 1):=Nat.mul_le_mul_left _ (by omega)
    have hN1:N * 1 ≤ N * (f.b.length + 1):=Nat.mul_le_mul_left _ (by omega)
    have hmul:=fun H=>i_mul hE x[i].2 f.b[j].2 H (by unfold Sm at hc; omega) (by unfold Sm at hp; omega)
    have hadd:=c_sumadd hE m f.b[j].1 (x[i].2 * f.b[j].2) [.map (kvM m)] 0 rfl (sm_nat (N:=M + N * j) (by omega) (lookL_bd m h2)) (sm_nat (N:=N) (by omega) hb)
    have hacc:Bd (M + N * (j + 1)) (sadd m f.b[j].1 (x[i].2 * f.b[j].2)):=by
      rw [Nat.mul_succ,← Nat.add_assoc]; exact sadd_bd h2 hb
    have hsum:sumsK x[i].2 (f.b.drop j) m = sumsK x[i].2 (f.b.drop (j + 1)) (sadd m f.b[j].1 (x[i].2 * f.b[j].2)):=by rw [hd]; rfl
    rw [hsum,← ih (j + 1) _ (by omega) hacc]
    have hrc:=refs_cA c
    have hrx:=refs_fA x
    have hrf:=refs_cA fs
    have hrb:=refs_fA f.b
    conv=>lhs; rw [a6l1_run]
    simp (maxSteps:=1000000) only [si,simprocAttr,a6b1,a6R,k1,g1,g2,wi,hmul,hadd,hrc,hrx,hrf,hrb]
theorem pbnd_loop (c:List Cel) (x:List (Int × Int)) (N L:Nat) (h:BndOk c x N L):∀ (k i:Nat) (m:List (Int × Int)),x.length = i + k → Bd (N * L * i) m →
    run E GP a6l0 { vars:=[.isl (c.map cA),.isl (x.map fA),.isl [],.int .i64 0,.isl ((fsOf c x).map cA),.int .i64 0,.mp 0,.u,.bool false,.isl ((fsOf c x).map cA),.int .i64 (fsOf c x).length,.int .i64 i,.u,.u,.u,.u,.u,.u,.u],heap:=[.map (kvM m)],rs:=false } =
      some (.exit 0,{ vars:=[.isl (c.map cA),.isl (x.map fA),.isl [],.int .i64 0,.isl ((fsOf c x).map cA),.int .i64 0,.mp 0,.u,.bool false,.isl ((fsOf c x).map cA),.int .i64 (fsOf c x).length,.int .i64 x.length,.bool false,.u,.u,.u,.u,.u,.u],heap:=[.map (kvM ((x.drop i).foldl (bndG c) m))],rs:=false }):=by
  have hxl:=h.xl
  have hfl:(fsOf c x).length = x.length:=by simp [fsOf]
  intro k
  induction k with
  | zero =>
    intro i m h1 h2
    have hi:i = x.length:=by omega
    subst hi
    have k1:¬ (x.length:Int) < ((fsOf c x).length:Int):=by omega
    rw [a6l0_run,List.drop_length]
    simp (maxSteps:=1000000) only [si,simprocAttr,a6b0,a6R,k1,List.foldl_nil]
  | succ k ih =>
    intro i m h1 h2
    have hi:i < x.length:=by omega
    have hif:i < (fsOf c x).length:=by omega
    have k1:(i:Int) < ((fsOf c x).length:Int):=by omega
    have g1:=cA_get hif
    have ef:(fsOf c x)[i] = cellOf? c x[i].1:=by simp [fsOf]
    rw [ef] at g1
    have wi:IntKind.i64.wrap ((i:Int) + 1) = ((i + 1:Nat):Int):=i64a (by omega)
    have hm:x[i] ∈ x:=List.getElem_mem hi
    have hl:=h.ll _ hm
    have hlb:=h.lb
    have hbig:=h.big
    have e1:N * L * i + N * ((cellOf? c x[i].1).b.length + 1) ≤ N * (L + 1) * (x.length + 1):=by
      have a1:N * ((cellOf? c x[i].1).b.length + 1) ≤ N * (L + 1):=Nat.mul_le_mul_left _ (by omega)
      have a2:N * L * i ≤ N * (L + 1) * x.length:=Nat.mul_le_mul (Nat.mul_le_mul_left _ (by omega)) (by omega)
      have a3:N * (L + 1) * (x.length + 1) = N * (L + 1) * x.length + N * (L + 1):=Nat.mul_succ _ _
      omega
    have hin:=pbnd_inner hE c x (fsOf c x) i hi (cellOf? c x[i].1) N (by omega) (h.sx _ hm) (h.sb _ hm) (h.pr _ hm) (N * L * i) (by omega) (cellOf? c x[i].1).b.length 0 m (by omega) (by simpa using h2)
    rw [List.drop_zero] at hin
    have hbd:=sumsK_bd x[i].2 (cellOf? c x[i].1).b m (N * L * i) (h.pr _ hm) h2
    have hsum:(x.drop i).foldl (bndG c) m = (x.drop (i + 1)).foldl (bndG c) (bndG c m x[i]):=by rw [List.drop_eq_getElem_cons hi]; rfl
    rw [hsum,← ih (i + 1) (bndG c m x[i]) (by omega) (bd_mono (by
      have:N * (cellOf? c x[i].1).b.length ≤ N * L:=Nat.mul_le_mul_left _ hl
      rw [Nat.mul_succ]; omega) hbd)]
    rw [show sumsK x[i].2 (cellOf? c x[i].1).b m = bndG c m x[i] from rfl] at hin
    generalize bndG c m x[i] = m' at *
    generalize cellOf? c x[i].1 = f at *
    have hrc:=refs_cA c
    have hrx:=refs_fA x
    have hrf:=refs_cA (fsOf c x)
    have hrb:=refs_fA f.b
    simp only [Int.ofNat_zero] at hin
    conv=>lhs; rw [a6l0_run]
    simp (maxSteps:=1000000) only [si,simprocAttr,a6b0,a6R,k1,g1,wi,hin,hrc,hrx,hrf,hrb]
theorem c_boundary (c:List Cel) (x:List (Int × Int)) (N L:Nat) (hs:c.Pairwise (fun x y=>x.id < y.id)) (hc:c.length < 2147483648) (hx:x.length < 1073741824) (h:(dim26 c x).2 = 0 → BndOk c x N L)
    (ks:List Int) (hS:(dim26 c x).2 = 0 → Srt E (bndS c x) ks) (hk:ks.length < 2147483647) (H:Heap) :
    call E GP 6 [.isl (c.map cA),.isl (x.map fA)] H = some (.tup [.isl ((if (dim26 c x).2 = 0 then chainOf ks (bndS c x) else []).map fA),.int .i64 (dim26 c x).2],H,false):=by
  rw [call_fun (hE _ _ _ (by decide)) (f:=a6) rfl rfl]
  have hl:=fun H=>c_look hE c x hc hs (by omega) H
  rw [look_dim] at hl
  have hrc:=refs_cA c
  have hrx:=refs_fA x
  by_cases h0:(dim26 c x).2 = 0
  · rw [look_fs c x h0] at hl
    have hq:=pbnd_loop hE c x N L (h h0) x.length 0 [] (by omega) (by intro p hp; cases hp)
    rw [List.drop_zero,show x.foldl (bndG c) [] = bndS c x from rfl] at hq
    have hch:=c_chain hE _ ks (hS h0) hk
    rw [if_pos h0]
    rw [h0] at hl ⊢
    have hrl:=refs_cA (fsOf c x)
    have hr3:=refs_fA (chainOf ks (bndS c x))
    have hs3:=solids_fA (chainOf ks (bndS c x))
    simp only [kvM,List.map_nil,Int.ofNat_zero] at hq hch
    simp (maxSteps:=1000000) only [si,simprocAttr,a6,a6R,hrc,hrx,hrl,hl,hq,hch,hr3,hs3,fz_fAs7,fz_fAs,ne_eq,not_true_eq_false]
  · rw [if_neg h0]
    have hn:¬ (dim26 c x).2 = 0:=h0
    have hrl:=refs_cA (lookP c x).1
    generalize (lookP c x).1 = fs at *
    simp (maxSteps:=1000000) only [si,simprocAttr,a6,a6R,hrc,hrx,hrl,hl,hn,ne_eq,not_false_eq_true,List.map_nil]
end Tor
namespace Tor
open Go
def vmap (x m:List (Int × Int)):List (Int × Int):=x.foldl (fun m p=>setL p.1 p.2 m) m
theorem vmap_look (k:Int):∀ (x m:List (Int × Int)),lookL k (vmap x m) = x.foldl (lastF k) (lookL k m)
  | [],m=>rfl
  | p :: r,m=>by
    have:=vmap_look k r (setL p.1 p.2 m)
    unfold vmap at this ⊢
    rw [List.foldl_cons,this,look_set,List.foldl_cons]
    congr 1
    unfold lastF
    by_cases e:k = p.1
    · rw [if_pos e,if_pos e.symm]
    · rw [if_neg e,if_neg (fun h=>e h.symm)]
variable {E:CallF} (hE:Free E)
include hE
theorem vmap_loop (c:List Cel) (k d:Int) (x:List (Int × Int)) (b11:Bool) (hx:x.length < 2147483648):∀ (n i:Nat) (m:List (Int × Int)),x.length = i + n →
    run E GP a8l0 { vars:=[.isl (c.map cA),.int .i64 k,.isl (x.map fA),.isl [],.int .i64 0,.int .i64 d,.int .i64 0,.mp 0,.u,.u,.bool false,.bool b11,.isl (x.map fA),.int .i64 x.length,.int .i64 i,.u,.u,.u,.u,.u,.u],heap:=[.map (kvM m)],rs:=false } =
      some (.exit 1,{ vars:=[.isl (c.map cA),.int .i64 k,.isl (x.map fA),.isl [],.int .i64 0,.int .i64 d,.int .i64 0,.mp 0,.u,.u,.bool false,.bool b11,.isl (x.map fA),.int .i64 x.length,.int .i64 x.length,.bool false,.u,.u,.u,.u,.u],heap:=[.map (kvM (vmap (x.drop i) m))],rs:=false }):=by
  intro n
  induction n with
  | zero =>
    intro i m h
    have hi:i = x.length:=by omega
    subst hi
    have k1:¬ (x.length:Int) < (x.length:Int):=by omega
    rw [a8l0_run,List.drop_length]
    simp (maxSteps:=1000000) only [si,simprocAttr,a8b0,a8R,k1,vmap,List.foldl_nil]
  | succ n ih =>
    intro i m h
    have hi:i < x.length:=by omega
    have k1:(i:Int) < (x.length:Int):=by omega
    have g1:=fA_get hi
    have wi:IntKind.i64.wrap ((i:Int) + 1) = ((i + 1:Nat):Int):=i64a (by omega)
    have e:vmap (x.drop i) m = vmap (x.drop (i + 1)) (setL x[i].1 x[i].2 m):=by rw [List.drop_eq_getElem_cons hi]; rfl
    rw [e,← ih (i + 1) _ (by omega)]
    have hrc:=refs_cA c
    have hrx:=refs_fA x
    have hset:=set_kv x[i].1 x[i].2 m
    conv=>lhs; rw [a8l0_run]
    simp (maxSteps:=1000000) only [si,simprocAttr,a8b0,a8R,k1,g1,wi,hrc,hrx,hset]
theorem vrow_loop (c:List Cel) (k d:Int) (x:List (Int × Int)) (b11:Bool) (m:List (Int × Int)) (ids:List Int) (hl:ids.length < 2147483648):∀ (n i:Nat) (out:List Int),ids.length = i + n → out.length = i →
    run E GP a8l1 { vars:=[.isl (c.map cA),.int .i64 k,.isl (x.map fA),.isl [],.int .i64 0,.int .i64 d,.int .i64 0,.mp 0,.sl 1 out.length 2 0 out.length,.u,.bool false,.bool b11,.isl (x.map fA),.int .i64 x.length,.int .i64 x.length,.bool false,.isl (ids.map iA),.int .i64 ids.length,.int .i64 i,.u,.u],heap:=[.map (kvM m),.arr out.length 2 (rowA out)],rs:=false } =
      some (.exit 3,{ vars:=[.isl (c.map cA),.int .i64 k,.isl (x.map fA),.isl [],.int .i64 0,.int .i64 d,.int .i64 0,.mp 0,.sl 1 ids.length 2 0 ids.length,.u,.bool false,.bool b11,.isl (x.map fA),.int .i64 x.length,.int .i64 x.length,.bool false,.isl (ids.map iA),.int .i64 ids.length,.int .i64 ids.length,.bool false,.u],heap:=[.map (kvM m),.arr ids.length 2 (rowA (out ++ (ids.drop i).map fun id=>lookL id m))],rs:=false }):=by
  intro n
  induction n with
  | zero =>
    intro i out h ho
    have hi:i = ids.length:=by omega
    subst hi
    have k1:¬ (ids.length:Int) < (ids.length:Int):=by omega
    rw [a8l1_run,List.drop_length,List.map_nil,List.append_nil,ho]
    simp (maxSteps:=1000000) only [si,simprocAttr,a8b1,a8R,k1]
  | succ n ih =>
    intro i out h ho
    have hi:i < ids.length:=by omega
    have k1:(i:Int) < (ids.length:Int):=by omega
    have g1:=iA_get hi
    have wi:IntKind.i64.wrap ((i:Int) + 1) = ((i + 1:Nat):Int):=i64a (by omega)
    have hm:out.length + 1 ≤ 4294967296:=by omega
    have hd:ids.drop i = ids.getD i 0 :: ids.drop (i + 1):=by rw [List.drop_eq_getElem_cons hi]; simp [List.getD,hi]
    have hlk:=look_kv (ids.getD i 0) m
    have e:out ++ (ids.drop i).map (fun id=>lookL id m) = (out ++ [lookL (ids.getD i 0) m]) ++ (ids.drop (i + 1)).map (fun id=>lookL id m):=by rw [hd,List.map_cons,List.append_assoc]; rfl
    rw [e,← ih (i + 1) (out ++ [lookL (ids.getD i 0) m]) (by omega) (by simp [ho])]
    generalize lookL (ids.getD i 0) m = y at *
    generalize ids.getD i 0 = id at *
    have el:(out ++ [y]).length = out.length + 1:=by simp
    have em:rowA (out ++ [y]) = rowA out ++ [Z y]:=by simp [rowA]
    have ell:=rowA_len out
    rw [el,em]
    have hrc:=refs_cA c
    have hrx:=refs_fA x
    have hri:=refs_iA ids
    have hhs:headSize 2 (rowA out) = true:=by cases out <;> simp [rowA,headSize,Z_size]
    conv=>lhs; rw [a8l1_run]
    simp (maxSteps:=1000000) only [si,simprocAttr,a8b1,a8R,k1,g1,wi,hm,hrc,hrx,hri,hlk,hhs,ell,lookIn,maxLenA]
theorem c_vector (c:List Cel) (k:Int) (x:List (Int × Int)) (hs:c.Pairwise (fun x y=>x.id < y.id)) (hc:c.length < 2147483648) (hx:x.length < 2147483648) (H:Heap) :
    call E GP 8 [.isl (c.map cA),.int .i64 k,.isl (x.map fA)] H = some (.tup [.isl (rowA (vec26 c k x).1),.int .i64 (vec26 c k x).2],H,false):=by
  rw [call_fun (hE _ _ _ (by decide)) (f:=a8) rfl rfl]
  have hl:=fun H=>c_look hE c x hc hs hx H
  rw [look_dim] at hl
  have hrc:=refs_cA c
  have hrx:=refs_fA x
  have hrl:=refs_cA (lookP c x).1
  generalize (lookP c x).1 = fs at *
  unfold vec26
  by_cases h0:(dim26 c x).2 = 0
  · rw [if_neg (by simpa using h0)]
    rw [h0] at hl
    have hcells:=fun H=>c_cells hE c k hc H
    have hlc:=cellsC_len c k
    have hr3:=refs_rowA (vecV c k x)
    have hs3:=solids_rowA (vecV c k x)
    have hz:=fun n H=>fz_rowA n H 4 (vecV c k x)
    have hvl:(rowA (vecV c k x)).length = (cellsC c k).length:=by rw [rowA_len]; simp [vecV]
    have htk:List.take (cellsC c k).length (rowA (vecV c k x)) = rowA (vecV c k x):=List.take_of_length_le (by omega)
    have hrow:((cellsC c k).map fun id=>lookL id (vmap x [])) = vecV c k x:=by
      unfold vecV lastL
      apply List.map_congr_left
      intro id _
      rw [vmap_look]; rfl
    have hv:=fun b=>vmap_loop hE c k (dim26 c x).1 x b hx x.length 0 [] (by omega)
    have ho:=fun b=>vrow_loop hE c k (dim26 c x).1 x b (vmap x []) (cellsC c k) (by omega) (cellsC c k).length 0 [] (by omega) rfl
    simp only [List.drop_zero,List.nil_append,hrow] at hv ho
    have hro:rowA [] = []:=rfl
    simp only [kvM,List.map_nil,Int.ofNat_zero,List.length_nil,hro] at hv ho
    have hri:=refs_iA (cellsC c k)
    by_cases hx0:(x.length:Int) > 0
    · by_cases hdk:(dim26 c x).1 = k
      · rw [if_neg (fun h=>h.2 hdk)]
        rw [hdk] at hl hv ho
        generalize cellsC c k = ids at *
        simp (maxSteps:=1000000) only [si,simprocAttr,a8,a8R,hrc,hrx,hrl,hl,hx0,hcells,hri,hv,ho,hvl,htk,hr3,hs3,hz,ne_eq,not_true_eq_false]
      · rw [if_pos ⟨fun e=>by rw [e] at hx0; simp at hx0,hdk⟩]
        simp (maxSteps:=1000000) only [si,simprocAttr,a8,a8R,hrc,hrx,hrl,hl,hx0,hdk,hro,ne_eq,not_true_eq_false,not_false_eq_true]
    · have hxe:x = []:=by
        cases x with
        | nil=>rfl
        | cons p r=>simp at hx0
      rw [if_neg (fun h=>h.1 hxe)]
      generalize cellsC c k = ids at *
      simp (maxSteps:=1000000) only [si,simprocAttr,a8,a8R,hrc,hrx,hrl,hl,hx0,hcells,hri,hv,ho,hvl,htk,hr3,hs3,hz,ne_eq,not_true_eq_false]
  · rw [if_pos h0]
    have hn:¬ ((dim26 c x).2 = 0):=h0
    have hro:rowA [] = []:=rfl
    simp (maxSteps:=1000000) only [si,simprocAttr,a8,a8R,hrc,hrx,hrl,hl,hn,hro,ne_eq,not_false_eq_true]
end Tor
namespace Tor
open Go
theorem bndG_eq (c:List Cel):∀ (x m a:List (Int × Int)),Sums m → Canon none a → (∀ k,lookL k m = lookL k a) →
    Sums (x.foldl (bndG c) m) ∧ Canon none (x.foldl (bndF c) a) ∧ ∀ k,lookL k (x.foldl (bndG c) m) = lookL k (x.foldl (bndF c) a)
  | [],m,a,h1,h2,h3=>⟨h1,h2,h3⟩
  | p :: r,m,a,h1,h2,h3=>by
    rw [List.foldl_cons,List.foldl_cons]
    obtain ⟨s1,s2⟩:=sumsK_law p.2 (cellOf? c p.1).b m h1
    obtain ⟨t1,t2⟩:=add_law p.2 (cellOf? c p.1).b a h2
    exact bndG_eq c r _ _ s1 t1 fun k=>by unfold bndG bndF; rw [s2,t2,h3]
theorem bnd_eq (c:List Cel) (x:List (Int × Int)):chainOf (ksOf (bndS c x)) (bndS c x) = bnd26 c x:=by
  obtain ⟨h1,h2,h3⟩:=bndG_eq c x [] [] sums_nil trivial (fun _=>rfl)
  change Sums (bndS c x) at h1
  obtain ⟨g1,g2⟩:=chain_law (bndS c x) h1 _ (ksOf_lt _ h1) (ksOf_mem _)
  exact canon_ext _ _ none none g1 h2 fun k=>by rw [g2]; exact h3 k
theorem bndS_keys {P:Int → Prop} (c:List Cel) (L:Nat):∀ (x m:List (Int × Int)),(∀ p ∈ x,(∀ q ∈ (cellOf? c p.1).b,P q.1) ∧ (cellOf? c p.1).b.length ≤ L) → (∀ p ∈ m,P p.1) →
    (∀ p ∈ x.foldl (bndG c) m,P p.1) ∧ (x.foldl (bndG c) m).length ≤ m.length + L * x.length
  | [],m,_,h=>⟨h,by simp⟩
  | p :: r,m,h1,h=>by
    obtain ⟨a1,a2⟩:=h1 p (.head _)
    obtain ⟨b1,b2⟩:=sumsK_keys (P:=P) p.2 (cellOf? c p.1).b m a1 h
    obtain ⟨c1,c2⟩:=bndS_keys c L r _ (fun q hq=>h1 q (.tail _ hq)) b1
    rw [List.foldl_cons]
    refine ⟨c1,Nat.le_trans c2 ?_⟩
    rw [List.length_cons,Nat.mul_succ]
    omega
variable {E:CallF} (hE:Free E)
include hE
end Tor
namespace Tor
open Go
theorem fin_e {s:GS} (h:s.fin = true):∃ e,e ≤ 1000000000 ∧ ∀ k,s.b k ≤ e:=by
  unfold GS.fin at h
  simp only [Bool.and_eq_true,decide_eq_true_eq] at h
  refine ⟨max s.b1 (max s.b2 s.b3),by omega,fun k=>?_⟩
  rcases k with _ | _ | _ | _ | k
  · exact Nat.zero_le _
  · simp only [GS.b]; omega
  · simp only [GS.b]; omega
  · simp only [GS.b]; omega
  · exact Nat.zero_le _
theorem key_in {c:List Cel} {s:GS} {m:Nat} (h:Good c s m) (hm:m ≤ 16) {k id:Int} (hid:id ∈ cellsC c k):in64 id = true:=by
  obtain ⟨x,hx,_,rfl⟩:=cells_mem.1 hid
  have:=h.idr x hx
  simp [in64]; omega
structure Bof (e:Nat) (b:List (Int × Int)):Prop where
  bd:Bd (2 ^ e) b
  bl:b.length ≤ 150
  cn:Canon none b
  key:∀ p ∈ b,in64 p.1 = true
theorem good_of {c:List Cel} {s:GS} {m e:Nat} (h:Good c s m) (hm:m ≤ 16) (he:∀ k,s.b k ≤ e) (id:Int):Bof e (cellOf? c id).b:=by
  unfold cellOf?
  cases hf:findC c id with
  | none=>exact ⟨fun p hp=>(by cases hp),by simp [zC],trivial,fun p hp=>(by cases hp)⟩
  | some y =>
    have hy:y ∈ c:=List.mem_of_find?_eq_some hf
    exact ⟨bd_mono (Nat.pow_le_pow_right (by decide) (he _)) (h.bd y hy),h.bl y hy,h.cn y hy,fun p hp=>key_in h hm (h.key y hy p hp)⟩
theorem pow_lt_big {e:Nat} (h:e < 16000000000):2 ^ e < BIG:=by
  have:=mul_big (e:=e) (N:=2 ^ e) (m:=1) (j:=1) (Nat.le_refl _) (by decide) (by omega)
  rwa [Nat.mul_one] at this
theorem bnd_ok {c:List Cel} {s:GS} {m e:Nat} (h:Good c s m) (hm:m ≤ 16) (he:∀ k,s.b k ≤ e) {M Lx e2:Nat} {x:List (Int × Int)} (hx:Ch M Lx x) (hM:M ≤ 2 ^ e2) (hL:Lx ≤ 3000) (hee:e + e2 ≤ 15000000000):BndOk c x (M * 2 ^ e) 150:=by
  have hlen:=h.len
  have lx:=hx.len
  have hMb:M < BIG:=Nat.lt_of_le_of_lt hM (pow_lt_big (by omega))
  have hN:M * 2 ^ e ≤ 2 ^ (e2 + e):=by rw [Nat.pow_add]; exact Nat.mul_le_mul_right _ hM
  refine ⟨by omega,by omega,fun p _=>(good_of h hm he p.1).bl,by omega,ch_sm hx hMb,fun p _ q hq=>sm_of (pow_lt_big (e:=e) (by omega)) ((good_of h hm he p.1).bd q hq),fun p hp q hq=>?_,?_,by omega⟩
  · rw [Int.natAbs_mul]; exact Nat.mul_le_mul (hx.bd p hp) ((good_of h hm he p.1).bd q hq)
  · rw [Nat.mul_assoc]
    exact mul_big (j:=19) hN (by omega) (by omega)
def bz (c:List Cel) (x:List (Int × Int)):List (Int × Int):=if (dim26 c x).2 = 0 then bnd26 c x else []
theorem bnd_canon (c:List Cel) (x:List (Int × Int)):Canon none (bnd26 c x):=(bndG_eq c x [] [] sums_nil trivial (fun _=>rfl)).2.1
theorem bnd_keys (c:List Cel) (P:Int → Prop):∀ (x a:List (Int × Int)),(∀ p ∈ x,∀ q ∈ (cellOf? c p.1).b,P q.1) → (∀ p ∈ a,P p.1) → ∀ p ∈ x.foldl (bndF c) a,P p.1
  | [],a,_,h=>h
  | p :: r,a,h1,h=>by
    rw [List.foldl_cons]
    exact bnd_keys c P r _ (fun q hq=>h1 q (.tail _ hq)) (add_keys p.2 _ _ (h1 p (.head _)) h)
theorem good_b6 {c:List Cel} {s:GS} {m e:Nat} (h:Good c s m) (hm:m ≤ 16) (he:∀ k,s.b k ≤ e) {M Lx e2:Nat} {x:List (Int × Int)} (hx:Ch M Lx x) (hM:M ≤ 2 ^ e2) (hL:Lx ≤ 3000) (hee:e + e2 ≤ 15000000000) (H:Heap) :
    call E1 GP 6 [.isl (c.map cA),.isl (x.map fA)] H = some (.tup [.isl ((bz c x).map fA),.int .i64 (dim26 c x).2],H,false):=by
  have hok:=bnd_ok h hm he hx hM hL hee
  have hlen:=h.len
  have lx:=hx.len
  have hkeys:=bndS_keys (P:=fun n=>in64 n = true) c 150 x [] (fun p _=>⟨(good_of h hm he p.1).key,(good_of h hm he p.1).bl⟩) (fun p hp=>by cases hp)
  have hk2:(bndS c x).length ≤ 150 * x.length:=by have:=hkeys.2; rw [List.length_nil,Nat.zero_add] at this; exact this
  have:=c_boundary free1 c x (M * 2 ^ e) 150 h.ids (by omega) (by omega) (fun _=>hok) (ksOf (bndS c x)) (fun _=>srt1 _ (by omega) hkeys.1) (by simp [ksOf,sortI_len]; omega) H
  rw [bnd_eq] at this
  exact this
theorem good_b7 {c:List Cel} {s:GS} {m e:Nat} (h:Good c s m) (hm:m ≤ 16) (he:∀ k,s.b k ≤ e) {M Lx e2:Nat} {x:List (Int × Int)} (hx:Ch M Lx x) (hM:M ≤ 2 ^ e2) (hL:Lx ≤ 3000) (hee:e + e2 ≤ 15000000000) (H:Heap) :
    call E1 GP 7 [.isl (c.map cA),.isl (x.map fA)] H = some (.tup [.isl ((bz c x).map fA),.int .i64 (dim26 c x).2],H,false):=by
  have hok:=bnd_ok h hm he hx hM hL hee
  have hlen:=h.len
  have lx:=hx.len
  exact r26_boundary free1 c x (M * 2 ^ e) 150 (by omega) (by omega) (fun _=>hok) H
theorem good_ch {c:List Cel} {s:GS} {m e:Nat} (h:Good c s m) (hm:m ≤ 16) (he:∀ k,s.b k ≤ e) {M Lx e2:Nat} {x:List (Int × Int)} (hx:Ch M Lx x) (hM:M ≤ 2 ^ e2) (hL:Lx ≤ 3000) (hee:e + e2 ≤ 15000000000):Ch (M * 2 ^ e * 150 * Lx) (150 * Lx) (bz c x):=by
  have hok:=bnd_ok h hm he hx hM hL hee
  have lx:=hx.len
  obtain ⟨b1,b2⟩:=bnd_bd hok x.length 0 [] (by omega) (fun p hp=>by cases hp) (Nat.zero_le _)
  rw [List.drop_zero,show x.foldl (bndF c) [] = bnd26 c x from rfl] at b1 b2
  have q1:M * 2 ^ e * 150 * x.length ≤ M * 2 ^ e * 150 * Lx:=Nat.mul_le_mul_left _ lx
  unfold bz
  split
  · exact ⟨bnd_canon c x,bd_mono q1 b1,by omega,bnd_keys c (fun n=>in64 n = true) x [] (fun p _=>(good_of h hm he p.1).key) (fun p hp=>by cases hp)⟩
  · exact ⟨trivial,fun p hp=>(by cases hp),by simp,fun p hp=>by cases hp⟩
end Tor
namespace Tor
open Go Go.RowKit
inductive MapR (C:Cx):List (Int × AV) → List MapEntry → Prop
  | nil:MapR C [] []
  | cons {k x e r es}:e.key = .int .i64 k → Rv1 C x e.val → x.known = true → MapR C r es → MapR C ((k,x) :: r) (e :: es)
theorem MapR_le {C C':Cx} (h:Le C C') {r es} (hr:MapR C r es):MapR C' r es:=by
  induction hr with
  | nil=>exact .nil
  | cons a b c _ ih=>exact .cons a (Rv1_le h b) c ih
def MapRS (C:Cx) (kvs:List (Int × AV)) (es:Array MapEntry) (clock:Nat):Prop:=MapR C kvs es.toList ∧ Go.MapKept.Stamped es clock
def bOf:Option (Option (Nat × Nat)) → Option Nat
  | some (some (b,_))=>some b
  | _=>none
def blk (C:Cx) (o:Nat):AObj → Option Nat
  | .var _=>bOf (C.β o 0)
  | .arr g _ _=>bOf (C.β o g)
  | .map _=>bOf (C.β o 0)
  | .dead=>none
def ObjOk (base:Nat) (C:Cx) (o:Nat):AObj → Prop
  | .var x=>∃ b c e,C.β o 0 = some (some (b,0)) ∧ C.w.heap[b]? = some (.cells c e (0,0)) ∧ Rc C x c.toList ∧ base ≤ b ∧ ¬ C.F b
  | .arr g sz l=>(C.β o g = some none ∧ l = []) ∨ ∃ b bs c e pre css post,C.β o g = some (some (b,bs)) ∧ C.w.heap[b]? = some (.cells c e (0,0)) ∧
      c.toList = pre ++ css.flatten ++ post ∧ pre.length = bs ∧ Rcl C l css ∧ (∀ x ∈ css,x.length = sz) ∧ base ≤ b ∧ ¬ C.F b
  | .map kvs=>∃ b es clock,C.β o 0 = some (some (b,0)) ∧ C.w.heap[b]? = some (.map es clock) ∧ MapRS C kvs es clock ∧ base ≤ b ∧ ¬ C.F b
  | .dead=>True
def GenOk (C:Cx) (o:Nat):AObj → Prop
  | .arr g _ _=>∀ g',g < g' → C.β o g' = none
  | _=>True
structure Sim (base:Nat) (C:Cx) (H:Heap):Prop where
  fsz:∀ b,C.F b → b < C.w.heap.size
  dom:∀ o,H.length ≤ o → ∀ g,C.β o g = none
  obj:∀ o ob,H[o]? = some ob → ObjOk base C o ob ∧ GenOk C o ob
  sep:∀ o o' ob ob' b,H[o]? = some ob → H[o']? = some ob' → blk C o ob = some b → blk C o' ob' = some b → o = o'
  bsz:base ≤ C.w.heap.size
theorem lt_of_heap {w:World} {b:Nat} {o:Obj} (h:w.heap[b]? = some o):b < w.heap.size:=(Array.getElem?_eq_some_iff.1 h).1
theorem blk_heap {base C o ob b} (h:ObjOk base C o ob) (hb:blk C o ob = some b):base ≤ b ∧ ¬ C.F b ∧ b < C.w.heap.size:=by
  cases ob with
  | var x =>
    obtain ⟨b',c,e,h1,h2,_,h3,h4⟩:=h
    simp only [blk,h1,bOf,Option.some.injEq] at hb; subst hb
    exact ⟨h3,h4,lt_of_heap h2⟩
  | arr g sz l =>
    rcases h with ⟨h1,_⟩ | ⟨b',bs,c,e,pre,css,post,h1,h2,_,_,_,_,h3,h4⟩
    · simp [blk,h1,bOf] at hb
    · simp only [blk,h1,bOf,Option.some.injEq] at hb; subst hb
      exact ⟨h3,h4,lt_of_heap h2⟩
  | map kvs =>
    obtain ⟨b',es,cl,h1,h2,_,h3,h4⟩:=h
    simp only [blk,h1,bOf,Option.some.injEq] at hb; subst hb
    exact ⟨h3,h4,lt_of_heap h2⟩
  | dead=>cases hb
theorem ObjOk_keep {base C C' o ob} (h:Le C C') (ho:ObjOk base C o ob) (hF:∀ b,C'.F b → C.F b ∨ C.w.heap.size ≤ b)
    (hm:∀ b,blk C o ob = some b → C'.w.heap[b]? = C.w.heap[b]?):ObjOk base C' o ob:=by
  have hno:∀ b,¬ C.F b → b < C.w.heap.size → ¬ C'.F b:=fun b h1 h2 h3=>by
    rcases hF b h3 with h | h
    · exact h1 h
    · omega
  cases ob with
  | var x =>
    obtain ⟨b,c,e,h1,h2,h3,h4,h5⟩:=ho
    exact ⟨b,c,e,h.β _ _ _ h1,(hm b (by simp [blk,h1,bOf])).trans h2,Rc_le h _ _ h3,h4,hno _ h5 (lt_of_heap h2)⟩
  | arr g sz l =>
    rcases ho with ⟨h1,h2⟩ | ⟨b,bs,c,e,pre,css,post,h1,h2,h3,h4,h5,h6,h7,h8⟩
    · exact .inl ⟨h.β _ _ _ h1,h2⟩
    · exact .inr ⟨b,bs,c,e,pre,css,post,h.β _ _ _ h1,(hm b (by simp [blk,h1,bOf])).trans h2,h3,h4,Rcl_le h _ _ h5,h6,h7,hno _ h8 (lt_of_heap h2)⟩
  | map kvs =>
    obtain ⟨b,es,cl,h1,h2,h3,h4,h5⟩:=ho
    exact ⟨b,es,cl,h.β _ _ _ h1,(hm b (by simp [blk,h1,bOf])).trans h2,⟨MapR_le h h3.1,h3.2⟩,h4,hno _ h5 (lt_of_heap h2)⟩
  | dead=>trivial
theorem blk_le {base C C' o ob} (h:Le C C') (ho:ObjOk base C o ob):blk C' o ob = blk C o ob:=by
  cases ob with
  | var x=>obtain ⟨b,c,e,h1,_⟩:=ho; simp [blk,h1,h.β _ _ _ h1]
  | arr g sz l =>
    rcases ho with ⟨h1,_⟩ | ⟨b,bs,c,e,pre,css,post,h1,_⟩ <;> simp [blk,h1,h.β _ _ _ h1]
  | map kvs=>obtain ⟨b,es,cl,h1,_⟩:=ho; simp [blk,h1,h.β _ _ _ h1]
  | dead=>rfl
theorem Sim.world {base C C' H} (h:Sim base C H) (hle:Le C C') (hF:∀ b,C'.F b → b < C'.w.heap.size ∧ (C.F b ∨ C.w.heap.size ≤ b)) (hβ:∀ o g,C'.β o g = C.β o g)
    (hs:C.w.heap.size ≤ C'.w.heap.size) (hm:∀ b,b < C.w.heap.size → ¬ C.F b → base ≤ b → C'.w.heap[b]? = C.w.heap[b]?):Sim base C' H where
  fsz b hb:=(hF b hb).1
  dom o ho g:=by rw [hβ]; exact h.dom o ho g
  obj o ob ho:=by
    obtain ⟨h1,h2⟩:=h.obj o ob ho
    refine ⟨ObjOk_keep hle h1 (fun b hb=>(hF b hb).2) (fun b hb=>?_),?_⟩
    · obtain ⟨a,b',c⟩:=blk_heap h1 hb
      exact hm b c b' a
    · cases ob with
      | arr g sz l=>intro g' hg'; rw [hβ]; exact h2 g' hg'
      | _=>trivial
  sep o o' ob ob' b ho ho' hb hb':=by
    rw [blk_le hle (h.obj o ob ho).1] at hb
    rw [blk_le hle (h.obj o' ob' ho').1] at hb'
    exact h.sep o o' ob ob' b ho ho' hb hb'
  bsz:=Nat.le_trans h.bsz hs
theorem one_inv {α} {a b:α} {i:Nat} (h:[a][i]? = some b):i = 0 ∧ b = a:=by
  cases i with
  | zero=>simp at h; exact ⟨rfl,h.symm⟩
  | succ i=>simp at h
theorem Sim.push {base C C' H ob} (h:Sim base C H) (hle:Le C C') (hF:∀ b,C'.F b ↔ C.F b) (hs:C.w.heap.size ≤ C'.w.heap.size)
    (hβ:∀ o g,o < H.length → C'.β o g = C.β o g) (hβ2:∀ o g,H.length < o → C'.β o g = none)
    (hm:∀ b,b < C.w.heap.size → C'.w.heap[b]? = C.w.heap[b]?) (ho:ObjOk base C' H.length ob) (hg:GenOk C' H.length ob)
    (hb:∀ b,blk C' H.length ob = some b → C.w.heap.size ≤ b):Sim base C' (H ++ [ob]) where
  fsz b hb:=Nat.lt_of_lt_of_le (h.fsz b ((hF b).1 hb)) hs
  dom o ho g:=by
    simp at ho
    exact hβ2 o g (by omega)
  obj o ob' ho':=by
    rw [List.getElem?_append] at ho'
    split at ho'
    · rename_i hlt
      obtain ⟨h1,h2⟩:=h.obj o ob' ho'
      refine ⟨ObjOk_keep hle h1 (fun b hb=>.inl ((hF b).1 hb)) (fun b hb=>hm b (blk_heap h1 hb).2.2),?_⟩
      cases ob' with
      | arr g sz l=>intro g' hg'; rw [hβ _ _ hlt]; exact h2 g' hg'
      | _=>trivial
    · rename_i hge
      obtain ⟨hz,e⟩:=one_inv ho'
      have:o = H.length:=by omega
      subst this
      subst e
      exact ⟨ho,hg⟩
  sep o o' ob1 ob2 b ho1 ho2 hb1 hb2:=by
    have key:∀ o ob1,(H ++ [ob])[o]? = some ob1 → blk C' o ob1 = some b → (o < H.length ∧ H[o]? = some ob1 ∧ blk C o ob1 = some b ∧ b < C.w.heap.size) ∨ (o = H.length ∧ C.w.heap.size ≤ b):=by
      intro o ob1 ho1 hb1
      rw [List.getElem?_append] at ho1
      split at ho1
      · rename_i hlt
        rw [blk_le hle (h.obj o ob1 ho1).1] at hb1
        exact .inl ⟨hlt,ho1,hb1,(blk_heap (h.obj o ob1 ho1).1 hb1).2.2⟩
      · rename_i hge
        obtain ⟨hz,e⟩:=one_inv ho1
        have e2:o = H.length:=by omega
        subst e2
        subst e
        exact .inr ⟨rfl,hb b hb1⟩
    rcases key o ob1 ho1 hb1 with ⟨a1,a2,a3,a4⟩ | ⟨a1,a2⟩ <;> rcases key o' ob2 ho2 hb2 with ⟨b1,b2,b3,b4⟩ | ⟨b1,b2⟩
    · exact h.sep o o' ob1 ob2 b a2 b2 a3 b3
    · omega
    · omega
    · omega
  bsz:=Nat.le_trans h.bsz hs
theorem Sim.set {base C C' H o ob ob'} (h:Sim base C H) (ho:H[o]? = some ob) (hle:Le C C') (hF:∀ b,C'.F b → b < C'.w.heap.size ∧ (C.F b ∨ C.w.heap.size ≤ b ∨ blk C o ob = some b))
    (hs:C.w.heap.size ≤ C'.w.heap.size)
    (hβ:∀ o' g,o' ≠ o → C'.β o' g = C.β o' g)
    (hm:∀ b,b < C.w.heap.size → blk C o ob ≠ some b → C'.w.heap[b]? = C.w.heap[b]?) (hn:ObjOk base C' o ob') (hg:GenOk C' o ob')
    (hb:∀ b,blk C' o ob' = some b → blk C o ob = some b ∨ C.w.heap.size ≤ b):Sim base C' (H.set o ob') where
  fsz b hb:=(hF b hb).1
  dom o' ho' g:=by
    have hlt:o < H.length:=(List.getElem?_eq_some_iff.1 ho).1
    simp at ho'
    rw [hβ o' g (by omega)]; exact h.dom o' ho' g
  obj o' ob1 ho':=by
    rw [List.getElem?_set] at ho'
    split at ho'
    · rename_i e
      subst e
      split at ho'
      · cases ho'; exact ⟨hn,hg⟩
      · cases ho'
    · rename_i hne
      obtain ⟨h1,h2⟩:=h.obj o' ob1 ho'
      have hbl:∀ b,blk C o' ob1 = some b → blk C o ob ≠ some b:=fun b h3 h4=>hne (h.sep o o' ob ob1 b ho ho' h4 h3)
      refine ⟨?_,?_⟩
      · have hno:∀ b,blk C o' ob1 = some b → ¬ C'.F b:=fun b h3 h4=>by
          obtain ⟨_,x2,x3⟩:=blk_heap h1 h3
          rcases (hF b h4).2 with q | q | q
          · exact x2 q
          · omega
          · exact hbl b h3 q
        cases ob1 with
        | var x =>
          obtain ⟨b,c,e,g1,g2,g3,g4,g5⟩:=h1
          have hk:blk C o' (.var x) = some b:=by simp [blk,g1,bOf]
          exact ⟨b,c,e,hle.β _ _ _ g1,(hm b (lt_of_heap g2) (hbl b hk)).trans g2,Rc_le hle _ _ g3,g4,hno b hk⟩
        | arr g sz l =>
          rcases h1 with ⟨g1,g2⟩ | ⟨b,bs,c,e,pre,css,post,g1,g2,g3,g4,g5,g6,g7,g8⟩
          · exact .inl ⟨hle.β _ _ _ g1,g2⟩
          · have hk:blk C o' (.arr g sz l) = some b:=by simp [blk,g1,bOf]
            exact .inr ⟨b,bs,c,e,pre,css,post,hle.β _ _ _ g1,(hm b (lt_of_heap g2) (hbl b hk)).trans g2,g3,g4,Rcl_le hle _ _ g5,g6,g7,hno b hk⟩
        | map kvs =>
          obtain ⟨b,es,cl,g1,g2,g3,g4,g5⟩:=h1
          have hk:blk C o' (.map kvs) = some b:=by simp [blk,g1,bOf]
          exact ⟨b,es,cl,hle.β _ _ _ g1,(hm b (lt_of_heap g2) (hbl b hk)).trans g2,⟨MapR_le hle g3.1,g3.2⟩,g4,hno b hk⟩
        | dead=>trivial
      · cases ob1 with
        | arr g sz l=>intro g' hg'; rw [hβ _ _ (fun e=>hne e.symm)]; exact h2 g' hg'
        | _=>trivial
  sep o1 o2 ob1 ob2 b ho1 ho2 hb1 hb2:=by
    have key:∀ o1 ob1,(H.set o ob')[o1]? = some ob1 → blk C' o1 ob1 = some b → (o1 = o ∧ (blk C o ob = some b ∨ C.w.heap.size ≤ b)) ∨ (o1 ≠ o ∧ H[o1]? = some ob1 ∧ blk C o1 ob1 = some b ∧ b < C.w.heap.size):=by
      intro o1 ob1 ho1 hb1
      rw [List.getElem?_set] at ho1
      split at ho1
      · rename_i e
        subst e
        split at ho1
        · cases ho1; exact .inl ⟨rfl,hb b hb1⟩
        · cases ho1
      · rename_i hne
        rw [blk_le hle (h.obj o1 ob1 ho1).1] at hb1
        exact .inr ⟨fun e=>hne e.symm,ho1,hb1,(blk_heap (h.obj o1 ob1 ho1).1 hb1).2.2⟩
    rcases key o1 ob1 ho1 hb1 with ⟨a1,a2⟩ | ⟨a1,a2,a3,a4⟩ <;> rcases key o2 ob2 ho2 hb2 with ⟨b1,b2⟩ | ⟨b1,b2,b3,b4⟩
    · omega
    · rcases a2 with a2 | a2
      · exact absurd (h.sep o o2 ob ob2 b ho b2 a2 b3) (fun e=>b1 e.symm)
      · omega
    · rcases b2 with b2 | b2
      · exact absurd (h.sep o o1 ob ob1 b ho a2 b2 a3) (fun e=>a1 e.symm)
      · omega
    · exact h.sep o1 o2 ob1 ob2 b a2 b2 a3 b3
  bsz:=Nat.le_trans h.bsz hs
def Cx.cut (C:Cx) (n:Nat):Cx:={ C with β:=fun o g=>if o < n then C.β o g else none }
theorem Sim.take {base C H} (h:Sim base C H) (n:Nat) (hn:n ≤ H.length) (hfr:∀ o ob,H[o]? = some ob → o < n → ObjOk base (C.cut n) o ob):Sim base (C.cut n) (H.take n) where
  fsz b hb:=h.fsz b hb
  dom o ho g:=by
    simp at ho
    have:¬ o < n:=by omega
    simp [Cx.cut,this]
  obj o ob ho:=by
    rw [List.getElem?_take] at ho
    split at ho
    · rename_i hlt
      refine ⟨hfr o ob ho hlt,?_⟩
      cases ob with
      | arr g sz l=>intro g' hg'; have:=(h.obj o _ ho).2 g' hg'; simp [Cx.cut,hlt,this]
      | _=>trivial
    · cases ho
  sep o o' ob ob' b ho ho' hb hb':=by
    rw [List.getElem?_take] at ho ho'
    split at ho
    · split at ho'
      · rename_i h1 h2
        have e:∀ o ob,o < n → blk (C.cut n) o ob = blk C o ob:=by
          intro o ob hlt; cases ob <;> simp [blk,Cx.cut,hlt]
        rw [e o ob h1] at hb
        rw [e o' ob' h2] at hb'
        exact h.sep o o' ob ob' b ho ho' hb hb'
      · cases ho'
    · cases ho
  bsz:=h.bsz
end Tor
namespace Tor
open Go Go.RowKit
variable {P:Program} {base:Nat} {C:Cx} {H:Heap}
theorem addr_add (b off i:Nat):(⟨b,off,none⟩:Addr).add i = ⟨b,off + i,none⟩:=by
  unfold Addr.add; split <;> simp_all
theorem Rv_known {x v} (hk:x.known = true) (h:Rv C x v):Rc C x v.cells.toList ∧ vIsA v = x.isA:=by
  rcases h with (rfl | h) | ⟨l,vs,rfl,_⟩
  · cases hk
  · exact h
  · cases hk
theorem Rv_of {x v} (h:Rc C x v.cells.toList) (h2:vIsA v = x.isA):Rv C x v:=.inl (.inr ⟨h,h2⟩)
theorem cells_one {v:Value} (h:vIsA v = false):v.cells = #[v]:=by cases v <;> first | rfl | cases h
theorem Rv_one {x v} (h:Rc C x [v]) (hx:x.isA = false) (hv:vIsA v = false):Rv C x v:=by
  refine Rv_of ?_ (hv.trans hx.symm)
  rw [cells_one hv]; exact h
theorem Rv_bool {b v} (h:Rv C (.bool b) v):v = .bool b:=by
  obtain ⟨h1,h2⟩:=Rv_known rfl h
  rw [cells_one h2] at h1
  simpa [Rc] using h1
theorem Rv_int {k n v} (h:Rv C (.int k n) v):v = .int k n:=by
  obtain ⟨h1,h2⟩:=Rv_known rfl h
  rw [cells_one h2] at h1
  simpa [Rc] using h1
theorem Rv_a {x v} (h:Rv C (.a x) v):v = x ∧ x.oneCell' = true:=by
  obtain ⟨h1,h2⟩:=Rv_known rfl h
  rw [cells_one h2] at h1
  simpa [Rc] using h1
theorem Rv_nl {v} (h:Rv C .nl v):v = .slice none 0 0:=by
  obtain ⟨h1,h2⟩:=Rv_known rfl h
  rw [cells_one h2] at h1
  simpa [Rc] using h1
theorem Rv_isl {l v} (h:Rv C (.isl l) v):SlV C l.length (Rcl C l) v:=by
  obtain ⟨h1,h2⟩:=Rv_known rfl h
  rw [cells_one h2] at h1
  simp only [Rc] at h1
  obtain ⟨_,v',e,hv⟩:=h1
  simp at e; subst e; exact hv
theorem Rv_isl_flat {l v} (h:Rv C (.isl l) v):AV.hasRefs l = false:=by
  obtain ⟨h1,h2⟩:=Rv_known rfl h
  simp only [Rc] at h1
  exact h1.1
theorem Rv_iptr {x v} (h:Rv C (.iptr x) v):∃ b off xs,v = .pointer (some ⟨b,off,none⟩) ∧ C.F b ∧ Rc C x xs ∧ cellsAt C.w b off xs:=by
  obtain ⟨h1,h2⟩:=Rv_known rfl h
  rw [cells_one h2] at h1
  simp only [Rc] at h1
  obtain ⟨b,off,xs,e,r⟩:=h1
  simp at e; exact ⟨b,off,xs,e,r⟩
theorem Rv_ptr {o g p v} (h:Rv C (.ptr o g p) v):∃ b bs,C.β o g = some (some (b,bs)) ∧ v = .pointer (some ⟨b,bs + offs p,none⟩):=by
  obtain ⟨h1,h2⟩:=Rv_known rfl h
  rw [cells_one h2] at h1
  simp only [Rc] at h1
  obtain ⟨b,bs,hb,e⟩:=h1
  simp at e; exact ⟨b,bs,hb,e⟩
theorem Rv_sl {o g sz st len v} (h : Rv C (.sl o g sz st len) v) : (∃ b bs cap, C.β o g = some (some (b, bs)) ∧ v = .slice (some ⟨b, bs + st * sz, none⟩) len cap ∧ len ≤ cap ∧ Room C.w b (bs + st * sz) sz cap) ∨
      (∃ q,C.β o g = some q ∧ len = 0 ∧ ∃ a,v = .slice a 0 0):=by
  obtain ⟨h1,h2⟩:=Rv_known rfl h
  rw [cells_one h2] at h1
  simp only [Rc] at h1
  rcases h1 with ⟨b,bs,cap,hb,e,r⟩ | ⟨q,hb,hl,a,e⟩
  · simp at e; exact .inl ⟨b,bs,cap,hb,e,r⟩
  · simp at e; exact .inr ⟨q,hb,hl,a,e⟩
theorem Rv_mp {o v} (h:Rv C (.mp o) v):∃ b,C.β o 0 = some (some (b,0)) ∧ v = .map (some b):=by
  obtain ⟨h1,h2⟩:=Rv_known rfl h
  rw [cells_one h2] at h1
  simp only [Rc] at h1
  obtain ⟨b,hb,e⟩:=h1
  simp at e; exact ⟨b,hb,e⟩
theorem Rv_fn {f l v} (h:Rv C (.fn f l) v):∃ vs,v = .func (.func (C.ι f)) #[] vs ∧ Rcl C l (vs.toList.map fun v=>[v]) ∧ ∀ x ∈ l,x.isA = false:=by
  obtain ⟨h1,h2⟩:=Rv_known rfl h
  rw [cells_one h2] at h1
  simp only [Rc] at h1
  obtain ⟨ha,vs,e,hl⟩:=h1
  simp at e; exact ⟨vs,e,hl,ha⟩
theorem Rv_agg {l v} (h:Rv C (.agg l) v):∃ css,Rcl C l css ∧ v = .agg css.flatten.toArray:=by
  obtain ⟨h1,h2⟩:=Rv_known rfl h
  simp only [Rc] at h1
  obtain ⟨css,hl,e⟩:=h1
  refine ⟨css,hl,?_⟩
  cases v <;> simp [vIsA,AV.isA] at h2
  rename_i cs
  simp [Value.cells] at e
  rw [← e]
theorem Rv_tup {l v} (h:Rv C (.tup l) v):∃ vs,v = .tuple vs ∧ Rvl C l vs.toList:=by
  rcases h with (e | ⟨h,_⟩) | ⟨l',vs,e,e2,h⟩
  · cases e
  · exact h.elim
  · cases e; exact ⟨vs,e2,h⟩
theorem mk_bool (b:Bool):Rv C (.bool b) (.bool b):=Rv_one (by simp [Rc]) rfl rfl
theorem mk_int (k:IntKind) (n:Int):Rv C (.int k n) (.int k n):=Rv_one (by simp [Rc]) rfl rfl
theorem uniform_len {α} {sz:Nat}:∀ css:List (List α),(∀ c ∈ css,c.length = sz) → css.flatten.length = css.length * sz
  | [],_=>by simp
  | c :: r,h=>by
    have h1:=h c (by simp)
    have h2:=uniform_len r (fun d hd=>h d (by simp [hd]))
    simp only [List.flatten_cons,List.length_append,List.length_cons,h1,h2,Nat.add_mul]; omega
theorem take_uniform {α} {sz:Nat} (css:List (List α)) (h:∀ c ∈ css,c.length = sz) (i:Nat) (hi:i ≤ css.length):(css.take i).flatten.length = i * sz:=by
  rw [uniform_len _ (fun c hc=>h c (List.mem_of_mem_take hc)),List.length_take,Nat.min_eq_left hi]
theorem cellsAt_of {w:World} {b:Nat} {c:Array Value} {e:TypeId} {fr:Nat × Nat} (h:w.heap[b]? = some (.cells c e fr)) {pre ys post:List Value} (hc:c.toList = pre ++ ys ++ post) :
    cellsAt w b pre.length ys:=by
  intro i x hx
  have:c[pre.length + i]? = some x:=by
    rw [← Array.getElem?_toList,hc,List.append_assoc,List.getElem?_append_right (by omega)]
    simp only [Nat.add_sub_cancel_left]
    rw [List.getElem?_append_left]
    · exact hx
    · exact (List.getElem?_eq_some_iff.1 hx).1
  simp [World.cell?,h,this]
theorem cellsAt_part {w:World} {b off:Nat} {pre ys post:List Value} (h:cellsAt w b off (pre ++ ys ++ post)):cellsAt w b (off + pre.length) ys:=by
  intro i x hx
  have:=h (pre.length + i) x (by
    rw [List.append_assoc,List.getElem?_append_right (by omega),Nat.add_sub_cancel_left,List.getElem?_append_left]
    · exact hx
    · exact (List.getElem?_eq_some_iff.1 hx).1)
  rw [← this,Nat.add_assoc]
theorem objGet_ok (hs:Sim base C H) {o ob g p y} (ho:H[o]? = some ob) (h:objGet ob g p = some y) :
    ∃ b bs ys,C.β o g = some (some (b,bs)) ∧ Rc C y ys ∧ cellsAt C.w b (bs + offs p) ys:=by
  obtain ⟨hok,_⟩:=hs.obj o ob ho
  cases ob with
  | var x =>
    simp only [objGet] at h
    split at h
    · rename_i hg
      subst hg
      obtain ⟨b,c,e,h1,h2,h3,_⟩:=hok
      obtain ⟨pre,ys,post,e1,e2,e3⟩:=nav_ok p x y _ h h3
      refine ⟨b,0,ys,h1,e3,?_⟩
      have:=cellsAt_of h2 e1
      rw [e2] at this
      simpa using this
    · cases h
  | arr g' sz l =>
    cases p with
    | nil=>simp [objGet] at h
    | cons q p =>
      obtain ⟨i,off⟩:=q
      simp only [objGet] at h
      split at h
      · rename_i hg
        obtain ⟨hg,ho2⟩:=hg
        subst hg
        split at h
        · rename_i z hz
          rcases hok with ⟨_,h2⟩ | ⟨b,bs,c,e,pre,css,post,h1,h2,h3,h4,h5,h6,_⟩
          · subst h2; simp at hz
          · obtain ⟨cz,hcz,hrz⟩:=Rcl_get l css i z h5 hz
            obtain ⟨pre2,ys,post2,e1,e2,e3⟩:=nav_ok p z y _ h hrz
            refine ⟨b,bs,ys,h1,e3,?_⟩
            have hi:i < css.length:=(List.getElem?_eq_some_iff.1 hcz).1
            have hl:(css.take i).flatten.length = i * sz:=take_uniform css h6 i (by omega)
            have hc:c.toList = (pre ++ (css.take i).flatten ++ pre2) ++ ys ++ (post2 ++ (css.drop (i + 1)).flatten ++ post):=by
              rw [h3,flatten_split css i cz hcz,e1]; simp [List.append_assoc]
            have:=cellsAt_of h2 hc
            simp only [List.length_append,h4,hl,e2] at this
            rw [show bs + offs ((i,off) :: p) = bs + i * sz + offs p by simp [offs,ho2]; omega]
            exact this
        · cases h
      · cases h
  | _=>simp [objGet] at h
def aggB (P:Program) (t:TypeId):Option Bool :=
  match P.underlying t with
  | some (.struct _)=>some true
  | some (.array _ _)=>some true
  | some _=>some false
  | none=>none
def sizeB (P:Program) (t:TypeId):Option Nat:=(P.info? t).map (·.size)
theorem run_isAgg {t b} (h:aggB P t = some b) (w:World):(isAgg t).run P w = .ok b w:=by
  unfold aggB at h
  unfold isAgg
  cases hu:P.underlying t with
  | none=>rw [hu] at h; cases h
  | some d =>
    rw [hu] at h
    simp only [Sem.run_bind,run_underlying hu,Result.andThen_ok]
    cases d <;> (cases h; rfl)
theorem run_sizeOf {t n} (h:sizeB P t = some n) (w:World):(Go.sizeOf t).run P w = .ok n w:=by
  unfold sizeB at h
  cases hi:P.info? t with
  | none=>rw [hi] at h; cases h
  | some i=>rw [hi] at h; cases h; simp [Go.sizeOf,typeInfo,hi]
theorem run_loadVar {t ag b off ys y} (ha:aggB P t = some ag) (hz:sizeB P t = some y.size) (hag:y.isA = ag) (hy:Rc C y ys) (hc:cellsAt C.w b off ys) :
    ∃ v,(loadVar t ⟨b,off,none⟩).run P C.w = .ok v C.w ∧ Rv C y v:=by
  have hlen:=Rc_len y ys hy
  unfold loadVar
  simp only [Sem.run_bind,run_isAgg ha,Result.andThen_ok]
  cases ag with
  | true =>
    refine ⟨.agg ys.toArray,?_,Rv_of (by simpa [Value.cells] using hy) hag.symm⟩
    have:=run_loadCells_list (P:=P) C.w ⟨b,off,none⟩ ys (fun j v hv=>by rw [addr_add]; exact hc j v hv)
    rw [hlen] at this
    simp only [if_true,Sem.run_bind,run_sizeOf hz,Result.andThen_ok,this,Sem.run_pure]
  | false =>
    have h1:ys.length = 1:=by
      rw [hlen]
      cases y <;> first | rfl | cases hag
    match ys,h1 with
    | [v],_ =>
      have hv:=Rc_one y [v] hy v (by simp)
      have hva:vIsA v = false:=by cases v <;> first | rfl | cases hv
      refine ⟨v,?_,Rv_one hy hag hva⟩
      have:=hc 0 v (by simp)
      simp only [Nat.add_zero] at this
      simp [this]
theorem load_ok (hs:Sim base C H) {t ag sz X v y} (ha:aggB P t = some ag) (hz:sizeB P t = some sz) (hx:Rv C X v) (h:doLoad ag sz H X = some y) :
    ∃ u,(Instr.loadAt t v).run P C.w = .ok u C.w ∧ Rv C y u:=by
  have hfit:∀ q,fits ag sz q = some y → q = some y ∧ y.size = sz ∧ y.isA = ag:=by
    intro q hq
    cases q with
    | none=>cases hq
    | some z =>
      simp only [fits] at hq
      split at hq
      · rename_i hh; cases hq; exact ⟨rfl,hh⟩
      · cases hq
  unfold Instr.loadAt
  cases X with
  | iptr x =>
    simp only [doLoad] at h
    obtain ⟨e,h1,h2⟩:=hfit _ h
    cases e
    obtain ⟨b,off,xs,rfl,hF,hr,hm⟩:=Rv_iptr hx
    simp only [Instr.sureAddr,Sem.run_bind,Sem.run_pure,Result.andThen_ok]
    exact run_loadVar ha (h1 ▸ hz) h2 hr hm
  | ptr o g p =>
    simp only [doLoad] at h
    obtain ⟨e,h1,h2⟩:=hfit _ h
    obtain ⟨b,bs,hb,rfl⟩:=Rv_ptr hx
    cases ho:H[o]? with
    | none=>rw [ho] at e; cases e
    | some ob =>
      rw [ho] at e
      obtain ⟨b',bs',ys,hb',hr,hm⟩:=objGet_ok hs ho e
      rw [hb] at hb'
      cases hb'
      simp only [Instr.sureAddr,Sem.run_bind,Sem.run_pure,Result.andThen_ok]
      exact run_loadVar ha (h1 ▸ hz) h2 hr hm
  | _=>cases h
theorem nilCheck_ok {X v y} (hx:Rv C X v) (h:doNilCheck X = some y) :
    Rv C y v ∧ (match v with
    | .pointer none | .nilIface | .nilFunc=>False
    | .func (.method _) _ _=>False
    | _=>True):=by
  cases X with
  | iptr x=>cases h; obtain ⟨b,off,xs,rfl,_⟩:=Rv_iptr hx; exact ⟨hx,trivial⟩
  | ptr o g p=>cases h; obtain ⟨b,bs,_,rfl⟩:=Rv_ptr hx; exact ⟨hx,trivial⟩
  | fn f l=>cases h; obtain ⟨vs,rfl,_⟩:=Rv_fn hx; exact ⟨hx,trivial⟩
  | _=>cases h
theorem conv_ok {s d k X v y} (hd:P.underlying d = some (.int k)) (hsd:(P.underlying s).isSome = true) (hx:Rv C X v) (h:doConv k X = some y) :
    ∃ u,(convert s d v).run P C.w = .ok u C.w ∧ Rv C y u:=by
  cases X with
  | int k' n =>
    cases h
    rw [Rv_int hx]
    obtain ⟨ds,hds⟩:=Option.isSome_iff_exists.1 hsd
    refine ⟨.int k (k.wrap n),?_,mk_int _ _⟩
    unfold convert
    simp only [Sem.run_bind,run_underlying hds,run_underlying hd,Result.andThen_ok]
    cases ds <;> rfl
  | _=>cases h
theorem binInt_ok {op k x y z} (h:binInt op k x y = some z) (t:TypeId) (w:World) :
    ∃ u,(binOp op t (.int k x) (.int k y)).run P w = .ok u w ∧ ∀ C,Rv C z u:=by
  cases op <;> simp only [binInt,Option.some.injEq,reduceCtorEq] at h
  case quo =>
    split at h
    · cases h
    · rename_i hy; cases h
      exact ⟨.int k (k.wrap (x.tdiv y)),by simp [binOp,Op.intDiv,hy],fun C=>mk_int _ _⟩
  case rem =>
    split at h
    · cases h
    · rename_i hy; cases h
      exact ⟨.int k (x.tmod y),by simp [binOp,Op.intDiv,hy],fun C=>mk_int _ _⟩
  all_goals subst h
  case add=>exact ⟨_,by simp only [binOp,ne_eq,not_true_eq_false,if_false,Op.intArith]; rfl,fun C=>mk_int _ _⟩
  case sub=>exact ⟨_,by simp only [binOp,ne_eq,not_true_eq_false,if_false,Op.intArith]; rfl,fun C=>mk_int _ _⟩
  case mul=>exact ⟨_,by simp only [binOp,ne_eq,not_true_eq_false,if_false,Op.intArith]; rfl,fun C=>mk_int _ _⟩
  case and=>exact ⟨_,by simp only [binOp,ne_eq,not_true_eq_false,if_false,Op.intBits]; rfl,fun C=>mk_int _ _⟩
  case or=>exact ⟨_,by simp only [binOp,ne_eq,not_true_eq_false,if_false,Op.intBits]; rfl,fun C=>mk_int _ _⟩
  case xor=>exact ⟨_,by simp only [binOp,ne_eq,not_true_eq_false,if_false,Op.intBits]; rfl,fun C=>mk_int _ _⟩
  case andNot=>exact ⟨_,by simp only [binOp,ne_eq,not_true_eq_false,if_false,Op.intBits]; rfl,fun C=>mk_int _ _⟩
  all_goals exact ⟨_,by simp only [binOp,ne_eq,not_true_eq_false,if_false,Op.intCmp]; rfl,fun C=>mk_bool _⟩
theorem run_eql_bool2 (t:TypeId) (a b:Bool) (h:P.underlying t = some .bool) (w:World):(Op.equal t (.bool a) (.bool b)).run P w = .ok (a == b) w:=by
  unfold Op.equal Op.maxDepth
  rw [show (10000:Nat) = 9999 + 1 from rfl,Op.equalIn]
  simp only [Sem.run_bind,run_underlying h,Result.andThen_ok]
  rfl
theorem binb_ok {ne t X Y u v z} (ht:P.underlying t = some .bool) (hx:Rv C X u) (hy:Rv C Y v) (h:binB ne X Y = some z) :
    ∃ r,(binOp (if ne then .neq else .eql) t u v).run P C.w = .ok r C.w ∧ Rv C z r:=by
  cases X <;> cases Y <;> simp only [binB,reduceCtorEq,Option.some.injEq] at h
  rename_i a b
  subst h
  rw [Rv_bool hx,Rv_bool hy]
  cases ne with
  | false=>exact ⟨.bool (a == b),by simp only [Bool.false_eq_true,if_false,binOp,Sem.run_bind,run_eql_bool2 t a b ht,Result.andThen_ok,Sem.run_pure],mk_bool _⟩
  | true=>exact ⟨.bool (!(a == b)),by simp only [if_true,binOp,Sem.run_bind,run_eql_bool2 t a b ht,Result.andThen_ok,Sem.run_pure],mk_bool _⟩
theorem bin_ok {op t X Y u v z} (hx:Rv C X u) (hy:Rv C Y v) (h:binAV op X Y = some z):∃ r,(binOp op t u v).run P C.w = .ok r C.w ∧ Rv C z r:=by
  cases X <;> try (cases h; done)
  cases Y <;> try (cases h; done)
  rename_i k x k' y
  rw [Rv_int hx,Rv_int hy]
  have hgen:∀ op,(if k = k' then binInt op k x y else none) = some z → ∃ r,(binOp op t (.int k x) (.int k' y)).run P C.w = .ok r C.w ∧ Rv C z r:=by
    intro op h'
    split at h'
    · rename_i hk; subst hk
      obtain ⟨r,hr,hz⟩:=binInt_ok (P:=P) h' t C.w
      exact ⟨r,hr,hz C⟩
    · cases h'
  cases op
  case shl =>
    simp only [binAV] at h
    split at h
    · cases h
    · rename_i hn; cases h
      exact ⟨_,by simp only [binOp,Op.shift,hn,if_false]; rfl,mk_int _ _⟩
  case shr =>
    simp only [binAV] at h
    split at h
    · cases h
    · rename_i hn; cases h
      exact ⟨_,by simp only [binOp,Op.shift,hn,if_false]; rfl,mk_int _ _⟩
  all_goals exact hgen _ h
theorem un_ok {op X u z} (hx:Rv C X u) (h:unAV op X = some z):∃ r,(Op.unary op u).run P C.w = .ok r C.w ∧ Rv C z r:=by
  cases X <;> try (cases h; done)
  · rename_i b
    rw [Rv_bool hx]
    cases op <;> simp only [unAV,Option.some.injEq,reduceCtorEq] at h
    subst h; exact ⟨.bool !b,by simp only [Op.unary,Sem.run_pure],mk_bool _⟩
  · rename_i k n
    rw [Rv_int hx]
    cases op <;> simp only [unAV,Option.some.injEq,reduceCtorEq] at h
    · subst h; exact ⟨_,by simp only [Op.unary,Op.intArith]; rfl,mk_int _ _⟩
    · subst h; exact ⟨_,by simp only [Op.unary,Op.intBits]; rfl,mk_int _ _⟩
def fieldB (P:Program) (t:TypeId) (i:Nat):Option Field :=
  match P.underlying t with
  | some (.struct fs)=>fs[i]?
  | _=>none
theorem sizes_take_get {l:List AV} {css} (hl:Rcl C l css) {i:Nat} {y:AV} (hy:l[i]? = some y) :
    ∃ c,css.flatten = (css.take i).flatten ++ c ++ (css.drop (i + 1)).flatten ∧ (css.take i).flatten.length = AV.sizes (l.take i) ∧ Rc C y c:=by
  obtain ⟨c,hc,hr⟩:=Rcl_get l css i y hl hy
  exact ⟨c,flatten_split css i c hc,take_size hl i,hr⟩
theorem fieldAddr_ok {t i off f X v y} (hf:fieldB P t i = some f) (ho:f.offset = off) (hz:∃ n,sizeB P f.type = some n ∧ n ≠ 0) (hx:Rv C X v) (h:doFieldAddr i off X = some y) :
    ∃ u,(Instr.fieldAt t v i).run P C.w = .ok u C.w ∧ Rv C y u:=by
  obtain ⟨n,hn,hn0⟩:=hz
  have hrun:∀ b o,v = .pointer (some ⟨b,o,none⟩) → (Instr.fieldAt t v i).run P C.w = .ok (.pointer (some ⟨b,o + off,none⟩)) C.w:=by
    rintro b o rfl
    unfold fieldB at hf
    cases hu:P.underlying t with
    | none=>rw [hu] at hf; cases hf
    | some d =>
      rw [hu] at hf
      cases d <;> try (cases hf; done)
      rename_i fs
      simp [Instr.fieldAt,run_underlying hu,hf,Instr.sureAddr,fieldPlace,run_sizeOf hn,hn0,addr_add,ho]
  cases X with
  | iptr x =>
    cases x with
    | agg l =>
      simp only [doFieldAddr] at h
      split at h
      · rename_i hs
        obtain ⟨b,o,xs,rfl,hF,hr,hm⟩:=Rv_iptr hx
        cases hl:l[i]? with
        | none=>rw [hl] at h; cases h
        | some z =>
          rw [hl] at h; cases h
          simp only [Rc] at hr
          obtain ⟨css,hcl,rfl⟩:=hr
          obtain ⟨c,e1,e2,e3⟩:=sizes_take_get hcl hl
          refine ⟨_,hrun b o rfl,Rv_one ?_ rfl rfl⟩
          simp only [Rc]
          rw [e1] at hm
          have:=cellsAt_part hm
          rw [e2,hs] at this
          exact ⟨b,o + off,c,rfl,hF,e3,this⟩
      · cases h
    | _=>cases h
  | ptr o g p =>
    cases h
    obtain ⟨b,bs,hb,rfl⟩:=Rv_ptr hx
    refine ⟨_,hrun b _ rfl,Rv_one ?_ rfl rfl⟩
    simp only [Rc]
    exact ⟨b,bs,hb,by simp [offs]; omega⟩
  | _=>cases h
theorem fits_inv {ag sz q y} (h:fits ag sz q = some y):q = some y ∧ y.size = sz ∧ y.isA = ag:=by
  cases q with
  | none=>cases h
  | some z =>
    simp only [fits] at h
    split at h
    · rename_i hh; cases h; exact ⟨rfl,hh⟩
    · cases h
theorem field_ok {t i off ag sz f X v y} (hf:fieldB P t i = some f) (ho:f.offset = off) (ha:aggB P f.type = some ag) (hz:sizeB P f.type = some sz) (hx:Rv C X v) (h:doField i off ag sz X = some y) :
    ∃ u,(Instr.field t v i).run P C.w = .ok u C.w ∧ Rv C y u:=by
  cases X with
  | agg l =>
    simp only [doField] at h
    split at h
    · rename_i hs
      obtain ⟨e,h1,h2⟩:=fits_inv h
      obtain ⟨css,hcl,rfl⟩:=Rv_agg hx
      obtain ⟨c,e1,e2,e3⟩:=sizes_take_get hcl e
      have hlen:=Rc_len _ _ e3
      unfold fieldB at hf
      cases hu:P.underlying t with
      | none=>rw [hu] at hf; cases hf
      | some d =>
        rw [hu] at hf
        cases d <;> try (cases hf; done)
        rename_i fs
        simp only at hf
        have hcut:(css.flatten.drop off).take sz = c:=by
          rw [e1,← hs,← e2,List.append_assoc,List.drop_left,← h1,← hlen,List.take_left]
        cases ag with
        | true =>
          refine ⟨.agg c.toArray,?_,Rv_of (by simpa [Value.cells] using e3) h2.symm⟩
          simp only [Instr.field,Sem.run_bind,run_underlying hu,Result.andThen_ok,hf,asAgg,Sem.run_pure,part,run_isAgg ha,if_true,run_sizeOf hz,ho]
          congr 2
          rw [← hcut]
          apply Array.ext'
          simp
        | false =>
          have h1':c.length = 1:=by
            rw [hlen]
            cases y <;> first | rfl | cases h2
          match c,h1' with
          | [u],_ =>
            have hv:=Rc_one y [u] e3 u (by simp)
            have hva:vIsA u = false:=by cases u <;> first | rfl | cases hv
            refine ⟨u,?_,Rv_one e3 h2 hva⟩
            have hget:css.flatten[off]? = some u:=by
              rw [e1,← hs,← e2,List.append_assoc,List.getElem?_append_right (by omega)]; simp
            simp [Instr.field,run_underlying hu,hf,asAgg,part,run_isAgg ha,ho,hget]
    · cases h
  | _=>cases h
def sliceB (P:Program) (t:TypeId):Option TypeId :=
  match P.underlying t with
  | some (.slice e)=>some e
  | _=>none
theorem sliceB_inv {t e} (h:sliceB P t = some e):P.underlying t = some (.slice e):=by
  unfold sliceB at h
  cases hu:P.underlying t with
  | none=>rw [hu] at h; cases h
  | some d=>rw [hu] at h; cases d <;> first | (cases h; rfl) | cases h
theorem indexAddr_ok {t e sz X I v vi y} (ht:sliceB P t = some e) (hz:sizeB P e = some sz) (hx:Rv C X v) (hi:Rv C I vi) (h:doIndexAddr sz X I = some y) :
    ∃ u,(Instr.indexAt t v vi).run P C.w = .ok u C.w ∧ Rv C y u:=by
  have hu:=sliceB_inv ht
  have hrun:∀ b o len cap k (n:Int),v = .slice (some ⟨b,o,none⟩) len cap → vi = .int k n → 0 ≤ n → n < len →
      (Instr.indexAt t v vi).run P C.w = .ok (.pointer (some ⟨b,o + n.toNat * sz,none⟩)) C.w:=by
    rintro b o len cap k n rfl rfl h0 h1
    simp [Instr.indexAt,asIntOf,run_underlying hu,h0,h1,run_sizeOf hz,addr_add]
  cases I with
  | int k n =>
    have hvi:=Rv_int hi
    cases X with
    | isl l =>
      simp only [doIndexAddr] at h
      split at h
      · rename_i h0
        cases hl:l[n.toNat]? with
        | none=>rw [hl] at h; cases h
        | some z =>
          rw [hl] at h
          simp only [iptrOf] at h
          split at h
          · rename_i hzs
            cases h
            have hlt:n.toNat < l.length:=(List.getElem?_eq_some_iff.1 hl).1
            obtain ⟨a,cap,rfl,hn⟩:=Rv_isl hx
            rcases hn with hn | ⟨b,off,css,sz',rfl,hF,hc,hr,hun,hm⟩
            · omega
            · obtain ⟨c,hcc,hrz⟩:=Rcl_get l css _ z hr hl
              have hsz:sz' = sz:=by rw [← hzs,← Rc_len _ _ hrz]; exact (hun c (List.mem_of_getElem? hcc)).symm
              subst hsz
              refine ⟨_,hrun b off _ cap k n rfl hvi h0 (by omega),Rv_one ?_ rfl rfl⟩
              simp only [Rc]
              rw [flatten_split css _ c hcc] at hm
              have:=cellsAt_part hm
              rw [take_uniform css hun _ (by have:=(List.getElem?_eq_some_iff.1 hcc).1; omega)] at this
              exact ⟨b,off + n.toNat * sz',c,rfl,hF,hrz,this⟩
          · cases h
      · cases h
    | sl o g sz' st len =>
      simp only [doIndexAddr] at h
      split at h
      · rename_i hh
        obtain ⟨h0,h1,h2⟩:=hh
        subst h2
        cases h
        rcases Rv_sl hx with ⟨b,bs,cap,hb,rfl,hl,hroom⟩ | ⟨_,_,hl,_⟩
        · refine ⟨_,hrun b _ len cap k n rfl hvi h0 h1,Rv_one ?_ rfl rfl⟩
          simp only [Rc]
          exact ⟨b,bs,hb,by simp [offs,Nat.add_mul]; omega⟩
        · omega
      · cases h
    | _=>cases h
  | _=>cases X <;> cases h
theorem indexArr_ok {t e n sz X I v vi y} (ht:P.underlying t = some (.array n e)) (hz:sizeB P e = some sz) (hx:Rv C X v) (hi:Rv C I vi) (h:doIndexArr n sz X I = some y) :
    ∃ u,(Instr.indexAt t v vi).run P C.w = .ok u C.w ∧ Rv C y u:=by
  have hrun:∀ b o k (i:Int),v = .pointer (some ⟨b,o,none⟩) → vi = .int k i → 0 ≤ i → i < n →
      (Instr.indexAt t v vi).run P C.w = .ok (.pointer (some ⟨b,o + i.toNat * sz,none⟩)) C.w:=by
    rintro b o k i rfl rfl h0 h1
    simp [Instr.indexAt,asIntOf,run_underlying ht,Instr.sureAddr,h0,h1,run_sizeOf hz,addr_add]
  cases I with
  | int k i =>
    have hvi:=Rv_int hi
    cases X with
    | iptr x =>
      cases x with
      | agg l =>
        simp only [doIndexArr] at h
        split at h
        · rename_i hh
          obtain ⟨h0,h1,hs⟩:=hh
          obtain ⟨b,o,xs,rfl,hF,hr,hm⟩:=Rv_iptr hx
          cases hl:l[i.toNat]? with
          | none=>rw [hl] at h; cases h
          | some z =>
            rw [hl] at h
            simp only [iptrOf] at h
            split at h
            · cases h
              simp only [Rc] at hr
              obtain ⟨css,hcl,rfl⟩:=hr
              obtain ⟨c,e1,e2,e3⟩:=sizes_take_get hcl hl
              refine ⟨_,hrun b o k i rfl hvi h0 h1,Rv_one ?_ rfl rfl⟩
              simp only [Rc]
              rw [e1] at hm
              have:=cellsAt_part hm
              rw [e2,hs] at this
              exact ⟨b,_,c,rfl,hF,e3,this⟩
            · cases h
        · cases h
      | _=>cases h
    | ptr o g p =>
      simp only [doIndexArr] at h
      split at h
      · rename_i hh
        cases h
        obtain ⟨b,bs,hb,rfl⟩:=Rv_ptr hx
        refine ⟨_,hrun b _ k i rfl hvi hh.1 hh.2,Rv_one ?_ rfl rfl⟩
        simp only [Rc]
        exact ⟨b,bs,hb,by simp [offs]; omega⟩
      · cases h
    | _=>cases h
  | _ =>
    cases X with
    | iptr x=>cases x <;> cases h
    | _=>cases h
theorem indexStr_ok {t X I v vi y} (ht:P.underlying t = some .string) (hx:Rv C X v) (hi:Rv C I vi) (h:doIndexStr X I = some y) :
    ∃ u,(Instr.index t v vi).run P C.w = .ok u C.w ∧ Rv C y u:=by
  cases X with
  | a x =>
    cases I with
    | int k n =>
      cases x <;> try (cases h; done)
      rename_i s
      simp only [doIndexStr] at h
      split at h
      · rename_i h0
        cases hs:s[n.toNat]? with
        | none=>rw [hs] at h; cases h
        | some b =>
          rw [hs] at h; cases h
          rw [(Rv_a hx).1,Rv_int hi]
          exact ⟨.int .u8 b.toNat,by simp [Instr.index,asIntOf,run_underlying ht,h0,hs],mk_int _ _⟩
      · cases h
    | _=>cases x <;> cases h
  | _=>cases I <;> cases h
end Tor
