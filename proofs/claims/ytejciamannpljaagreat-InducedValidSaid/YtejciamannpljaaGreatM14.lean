/-
  A part of the proof: an abstract machine for the program, its soundness, and what the functions compute (In28, In29, In30, In31, In32, Frame).
  Conditions: none.
-/
import Derived.Test.YtejciamannpljaaGreatM12
import Derived.Test.YtejciamannpljaaGreatM13
import Derived.Carry
import Derived.ChangeShapes
set_option linter.unusedSectionVars false
set_option linter.unusedVariables false
set_option linter.unusedSimpArgs false
set_option linter.defProp false
namespace Tor
open Go
theorem canon_of:∀ (l:List (Int × Int)) (b:Option Int),(∀ p ∈ l,p.2 ≠ 0) → l.Pairwise (fun p q=>p.1 < q.1) → (∀ m,b = some m → ∀ p ∈ l,m < p.1) → Canon b l
  | [],_,_,_,_=>trivial
  | (j,x) :: r,b,h1,h2,h3=>by
    obtain ⟨a1,a2⟩:=List.pairwise_cons.1 h2
    exact ⟨fun m hm=>h3 m hm _ (.head _),h1 _ (.head _),canon_of r _ (fun p hp=>h1 p (.tail _ hp)) a2 (fun m hm p hp=>by cases hm; exact a1 p hp)⟩
theorem valid_canon {l:List (Int × Int)} (h:valid26 l = true):Canon none l:=by
  unfold valid26 at h
  rw [List.all_eq_true] at h
  have h:∀ i (hi:i < l.length),l[i].2 ≠ 0 ∧ (∀ j (hj:j < l.length),j + 1 = i → l[j].1 < l[i].1):=by
    intro i hi
    have:=h i (List.mem_range.2 hi)
    unfold okAt at this
    rw [← getD_get l i hi] at this
    simp only [Bool.and_eq_true,Bool.or_eq_true,decide_eq_true_eq] at this
    refine ⟨fun e=>this.1 (by rw [e]; rfl),fun j hj e=>?_⟩
    subst e
    rw [Nat.add_sub_cancel,← getD_get l j hj] at this
    exact this.2.resolve_left (by omega)
  have hlt:∀ n i (hi:i < l.length) (hj:i + 1 + n < l.length),l[i].1 < l[i + 1 + n].1:=by
    intro n
    induction n with
    | zero=>intro i hi hj; exact (h _ hj).2 i hi rfl
    | succ n ih =>
      intro i hi hj
      have a1:=ih i hi (by omega)
      have a2:=(h _ hj).2 (i + 1 + n) (by omega) (by omega)
      omega
  refine canon_of l none (fun p hp=>?_) (List.pairwise_iff_getElem.2 fun i j hi hj hij=>?_) (fun m hm=>by cases hm)
  · obtain ⟨i,hi,rfl⟩:=List.getElem_of_mem hp
    exact (h i hi).1
  · obtain ⟨n,rfl⟩:∃ n,j = i + 1 + n:=⟨j - i - 1,by omega⟩
    exact hlt n i hi hj
theorem dimGo_some (c:List Cel):∀ (x:List (Int × Int)) (f:Bool) (d:Int) (m:Bool) (d':Int),dimGo c x f d m = some (d',false) →
    (∀ p ∈ x,(findC c p.1).isSome = true ∧ (cellOf? c p.1).dim = d') ∧ m = false ∧ (f = false → d = d') ∧ (x = [] → d = d')
  | [],f,d,m,d',h=>by
    simp only [dimGo,Option.some.injEq,Prod.mk.injEq] at h
    exact ⟨fun p hp=>(by cases hp),h.2,fun _=>h.1,fun _=>h.1⟩
  | p :: r,f,d,m,d',h=>by
    simp only [dimGo] at h
    split at h
    · rename_i hs
      obtain ⟨a1,a2,a3,_⟩:=dimGo_some c r _ _ _ _ h
      have a3:=a3 rfl
      simp only [Bool.or_eq_false_iff,Bool.and_eq_false_iff,Bool.not_eq_false'] at a2
      refine ⟨fun q hq=>?_,a2.1,fun e=>?_,fun e=>(by cases e)⟩
      · cases hq with
        | head=>exact ⟨hs,a3⟩
        | tail _ hq=>exact a1 q hq
      · rcases a2.2 with h | h
        · rw [h] at e; cases e
        · have:=of_decide_eq_true h; omega
    · cases h
theorem dim_ge {c:List Cel} {s:GS} {m:Nat} (g:Good c s m) {x:List (Int × Int)} (h:(dim26 c x).2 = 0) :
    (x = [] ∧ (dim26 c x).1 = -1) ∨ (x ≠ [] ∧ 0 ≤ (dim26 c x).1 ∧ ∀ p ∈ x,p.1 ∈ cellsC c (dim26 c x).1):=by
  by_cases h0:x = []
  · subst h0; exact .inl ⟨rfl,rfl⟩
  · right
    unfold dim26 at h ⊢
    cases hd:dimGo c x true (-1) false with
    | none=>rw [hd] at h; simp [dimEnd] at h
    | some q =>
      obtain ⟨d,b⟩:=q
      cases b with
      | true=>rw [hd] at h; simp [dimEnd] at h
      | false =>
        obtain ⟨a1,_⟩:=dimGo_some c x true (-1) false d hd
        have hp:∀ p ∈ x,∃ y ∈ c,y.dim = d ∧ y.id = p.1:=fun p hp=>by
          obtain ⟨b1,b2⟩:=a1 p hp
          unfold cellOf? at b2
          cases hf:findC c p.1 with
          | none=>rw [hf] at b1; cases b1
          | some y =>
            rw [hf] at b2
            refine ⟨y,List.mem_of_find?_eq_some hf,b2,?_⟩
            have:=List.find?_some hf
            simpa using this
        simp only [dimEnd]
        refine ⟨h0,?_,fun p hq=>cells_mem.2 (hp p hq)⟩
        obtain ⟨p,r,rfl⟩:=List.exists_cons_of_ne_nil h0
        obtain ⟨y,hy,h1,_⟩:=hp p (.head _)
        have:=(g.dims y hy).1
        omega
structure BM (u:Nat) (M:Mp):Prop where
  len:M.length ≤ 13
  bd:∀ p ∈ M,Bd (2 ^ u) p.2 ∧ p.2.length ≤ 24 ∧ ∀ q ∈ p.2,in64 q.1 = true
theorem BM.img {u:Nat} {M:Mp} (h:BM u M) (id:Int):Bd (2 ^ u) (imgF M id) ∧ (imgF M id).length ≤ 24 ∧ ∀ q ∈ imgF M id,in64 q.1 = true:=by
  unfold imgF findM
  cases hf:M.find? (fun p=>decide (p.1 = id)) with
  | none=>exact ⟨fun p hp=>(by cases hp),Nat.zero_le _,fun p hp=>(by cases hp)⟩
  | some p=>exact h.bd p (List.mem_of_find?_eq_some hf)
theorem BM.smM {u:Nat} {M:Mp} (h:BM u M) (hu:u ≤ 14000000000):SmM M:=fun p hp=>⟨fun q hq=>sm_of (pow5_big (by omega)) ((h.bd p hp).1 q hq),by have:=(h.bd p hp).2.1; omega⟩
theorem fold_bdN (N:Nat):∀ (l acc:List (Int × Int)) (i:Nat),Bd N l → Bd (N * i) acc → Bd (N * (i + l.length)) (l.foldl insert26 acc) ∧ (l.foldl insert26 acc).length ≤ acc.length + l.length
  | [],acc,i,_,h=>⟨h,Nat.le_refl _⟩
  | p :: r,acc,i,hl,h=>by
    have h1:Bd (N * (i + 1)) (insert26 acc p):=by rw [Nat.mul_succ]; exact insR_bd (hl p (.head _)) acc _ h
    have h2:=insR_len p acc (decide (p.2 = 0))
    obtain ⟨a1,a2⟩:=fold_bdN N r (insert26 acc p) (i + 1) (fun q hq=>hl q (.tail _ hq)) h1
    rw [List.foldl_cons]
    refine ⟨by rw [show i + (p :: r).length = i + 1 + r.length by simp; omega]; exact a1,?_⟩
    have:(insert26 acc p).length ≤ acc.length + 1:=h2
    rw [List.length_cons]; omega
theorem app_bd (F:Int → List (Int × Int)) (A N L:Nat) (hF:∀ id,Bd N (F id) ∧ (F id).length ≤ L) {x:List (Int × Int)} (hx:∀ p ∈ x,p.2.natAbs ≤ A):Bd (A * N * (L * x.length)) (appF F x) ∧ (appF F x).length ≤ L * x.length:=by
  obtain ⟨h1,h2⟩:=prods_bd F A N L hF x hx
  obtain ⟨a1,a2⟩:=fold_bdN (A * N) (prods F x) [] 0 h1 (fun p hp=>by cases hp)
  rw [prods_make] at a1 a2
  refine ⟨fun p hp=>Nat.le_trans (a1 p hp) (Nat.mul_le_mul_left _ (by omega)),?_⟩
  unfold appF
  rw [List.length_nil] at a2
  omega
def dimOk (b:List Cel) (x:List (Int × Int)) (d:Int):Prop:=(dim26 b x).2 = 0 ∧ ((dim26 b x).1 ≥ 0 → (dim26 b x).1 = d)
def valM (a b:List Cel) (M:Mp):Prop:=okM a M ∧ (∀ i (hi:i < a.length) (hj:i < M.length),dimOk b M[i].2 a[i].dim) ∧ ∀ i (hi:i < a.length) (hj:i < M.length),bz b M[i].2 = appF (imgF M) a[i].b
noncomputable instance (a b:List Cel) (M:Mp):Decidable (valM a b M):=Classical.propDecidable _
theorem okM_ids {a:List Cel} {M:Mp} (h:okM a M):M.map (·.1) = idsC a:=by
  refine List.ext_getElem (by simp [idsC,h.1]) fun i h1 h2=>?_
  simp only [List.length_map] at h1
  have:=(h.2 i (by have:=h.1; omega) h1).1
  simp [idsC,this]
theorem BM.ch {u:Nat} {M:Mp} (h:BM u M) {a:List Cel} (ho:okM a M) (i:Nat) (hi:i < M.length):Ch (2 ^ u) 24 M[i].2:=by
  have hb:=h.bd _ (List.getElem_mem hi)
  exact ⟨valid_canon (ho.2 i (by have:=ho.1; omega) hi).2,hb.1,hb.2.1,hb.2.2⟩
theorem key_of {a b:List Cel} {sb:GS} {mb:Nat} {M:Mp} (gb:Good b sb mb) (h2:∀ i (hi:i < a.length) (hj:i < M.length),dimOk b M[i].2 a[i].dim):∀ i (hi:i < a.length) (hj:i < M.length),∀ p ∈ M[i].2,p.1 ∈ cellsC b a[i].dim:=by
  intro i hi hj p hp
  obtain ⟨d1,d2⟩:=h2 i hi hj
  rcases dim_ge gb d1 with ⟨e,_⟩ | ⟨_,e1,e2⟩
  · rw [e] at hp; cases hp
  · rw [← d2 e1]; exact e2 p hp
theorem BM.cm {a b:List Cel} {sb:GS} {mb u:Nat} {M:Mp} (h:BM u M) (gb:Good b sb mb) (h1:okM a M) (h2:∀ i (hi:i < a.length) (hj:i < M.length),dimOk b M[i].2 a[i].dim):CM a b u M:=by
  refine ⟨okM_ids h1,fun p hp=>?_⟩
  obtain ⟨i,hi,rfl⟩:=List.getElem_of_mem hp
  have hc:=h.ch h1 i hi
  refine ⟨hc.can,hc.bd,fun q hq=>?_⟩
  obtain ⟨y,hy,_,e⟩:=cells_mem.1 (key_of gb h2 i (by have:=h1.1; omega) hi q hq)
  rw [← e]
  exact List.mem_map.2 ⟨y,hy,rfl⟩
theorem valM_vm {a b:List Cel} {sb:GS} {mb u:Nat} {M:Mp} (h:BM u M) (gb:Good b sb mb) (hv:valM a b M):VM a b u M:=by
  obtain ⟨h1,h2,h3⟩:=hv
  refine ⟨h.cm gb h1 h2,key_of gb h2,fun i hi hj=>?_⟩
  rw [← h3 i hi hj]
  unfold bz
  rw [if_pos (h2 i hi hj).1]
def Bad3 (x:Option (Ex × St)) (v0 v1 v2:AV):Prop:=∃ L H b,x = some (.ret,{ vars:=v0 :: v1 :: v2 :: .bool false :: L,heap:=H,rs:=b })
theorem i_validG {a b:List Cel} {sa sb:GS} {ma mb ea eb u:Nat} {M:Mp} (h:BM u M) (ga:Good a sa ma) (gb:Good b sb mb) (hma:ma ≤ 11) (hmb:mb ≤ 11) (hea:∀ k,sa.b k ≤ ea) (heb:∀ k,sb.b k ≤ eb) (hu:ea + eb + u ≤ 10000000000) (H:Heap) :
    call E2 GP 213 [.isl (a.map cA),.isl (b.map cA),.isl (M.map mA)] H = some (.bool (decide (valM a b M)),H,false):=by
  have hE2:∀ a H,E2 213 a H = none:=fun a H=>E2_none (by decide) (by decide)
  have ha:=ga.len11 hma
  have hb:=gb.len11 hmb
  have hnd:=idsC_nodup ga.ids
  have hal:a.length ≤ 11:=by simpa [idsC] using ha
  have hbl:b.length ≤ 11:=by simpa [idsC] using hb
  have hMl:=h.len
  have f237:=fun H=>up (eq237 free1 a M (h.smM (by omega)) (by omega) H)
  by_cases hok:okM a M
  case neg =>
    have hv:¬ valM a b M:=fun h=>hok h.1
    simp only [decide_eq_false hok] at f237
    rw [decide_eq_false hv,call_fun (hE2 _ _) (f:=a213) rfl rfl]
    simp (maxSteps:=1000000) (disch:=first | omega | decide) only [si,sf,simprocAttr,doBox,a213,a213R,f237]
  simp only [decide_eq_true hok] at f237
  have hids:=okM_ids hok
  have hlen:=hok.1
  let P:Nat → Prop:=fun i=>∀ (hi:i < a.length) (hj:i < M.length),dimOk b M[i].2 a[i].dim ∧ bz b M[i].2 = appF (imgF M) a[i].b
  -- what a round sees
  have hr:∀ i (hi:i < a.length) (hj:i < M.length) (H:Heap),IX H 0 M → (∃ H2 b2,call E2 GP 238 [.ptr 0 0 [],.isl (a[i].b.map fA)] H = some (.tup [.isl ((appF (imgF M) a[i].b).map fA),.int .i64 0],H2,b2) ∧ IX H2 0 M) ∧
      (∀ H,call E2 GP 239 [.isl ((bz b M[i].2).map fA),.isl ((appF (imgF M) a[i].b).map fA)] H = some (.bool (decide (bz b M[i].2 = appF (imgF M) a[i].b)),H,false)):=by
    intro i hi hj H hix
    have hgb:=ga.bgc hea (List.getElem_mem hi)
    have hgbl:=hgb.len
    have hF:∀ id,Bd (2 ^ u) (imgF M id) ∧ (imgF M id).length ≤ 24:=fun id=>⟨(h.img id).1,(h.img id).2.1⟩
    have hB:2 ^ ea * 2 ^ u * (24 * a[i].b.length + 1) < BIG:=by
      rw [← Nat.pow_add]
      exact mul_big (j:=9) (Nat.le_refl _) (by omega) (by omega)
    obtain ⟨H2,b2,f1,f2,f3⟩:=i_apply M a[i].b (2 ^ ea) (2 ^ u) 24 (by omega) (by rw [hids]; exact hnd) (by omega) hgb.bd hF (by omega) (pow5_big (by omega)) (pow5_big (by omega)) hB (fun id p hp=>(h.img id).2.2 p hp) H 0 hix
    have hall:∀ p ∈ a[i].b,(findM M p.1).isSome = true:=fun p hp=>by
      have hk:=hgb.key p hp
      rw [← hids] at hk
      obtain ⟨q,hq,e⟩:=List.mem_map.1 hk
      unfold findM
      rw [Option.isSome_map,List.find?_isSome]
      exact ⟨q,hq,by simp [e]⟩
    rw [if_pos hall] at f1
    refine ⟨⟨H2,b2,f1,f2⟩,fun H=>?_⟩
    obtain ⟨a1,a2⟩:=app_bd (imgF M) (2 ^ ea) (2 ^ u) 24 hF hgb.bd
    have hc:=good_ch gb (by omega) heb (h.ch hok i hj) (e2:=u) (Nat.le_refl _) (by omega) (by omega)
    have hN:2 ^ u * 2 ^ eb * 150 * 24 < BIG:=by
      rw [← Nat.pow_add,Nat.mul_assoc]
      exact mul_big (j:=12) (Nat.le_refl _) (by omega) (by omega)
    have hA:2 ^ ea * 2 ^ u * (24 * a[i].b.length) < BIG:=Nat.lt_of_le_of_lt (Nat.mul_le_mul_left _ (by omega)) hB
    exact up (i_same free1 _ _ (ch_sm hc hN) (fun p hp=>sm_of hA (a1 p hp)) (by have:=hc.len; omega) H)
  have hb6:∀ i (hi:i < a.length) (hj:i < M.length) (H:Heap),call E2 GP 6 [.isl (b.map cA),.isl (M[i].2.map fA)] H = some (.tup [.isl ((bz b M[i].2).map fA),.int .i64 (dim26 b M[i].2).2],H,false):=fun i hi hj H =>
    up (good_b6 gb (by omega) heb (h.ch hok i hj) (e2:=u) (Nat.le_refl _) (by omega) (by omega) H)
  have hdim:∀ i (hi:i < a.length) (hj:i < M.length) (H:Heap),call E2 GP 4 [.isl (b.map cA),.isl (M[i].2.map fA)] H = some (.tup [.int .i64 (dim26 b M[i].2).1,.int .i64 (dim26 b M[i].2).2],H,false):=fun i hi hj H =>
    up (c_dim free1 b M[i].2 (by omega) gb.ids (by have:=(h.ch hok i hj).len; omega) H)
  have hstep:∀ i,i < a.length → P i → ∀ st,(∃ H f,st = vst29 a b M i H f ∧ IX H 0 M) → ∃ st',(∃ H f,st' = vst29 a b M (i + 1) H f ∧ IX H 0 M) ∧ run E2 GP a213l0 st = run E2 GP a213l0 st':=by
    rintro i hi hP st ⟨H,f,rfl,h1⟩
    have hj:i < M.length:=by omega
    obtain ⟨⟨p1,p2⟩,p3⟩:=hP hi hj
    obtain ⟨⟨H2,b2,f1,f2⟩,f3⟩:=hr i hi hj H h1
    have b6:=hb6 i hi hj
    have hd:=hdim i hi hj
    refine ⟨_,⟨H2,f || b2,rfl,f2⟩,?_⟩
    unfold vst29
    rw [← p3] at f1 f3
    simp only [decide_true] at f3
    rw [p1] at b6 hd
    generalize bz b M[i].2 = y at *
    generalize (dim26 b M[i].2).1 = d at *
    by_cases h0:d ≥ 0
    · have hdd:=p2 h0
      subst hdd
      conv=>lhs; rw [a213l0_run]
      simp (maxSteps:=1000000) (disch:=first | omega | decide) only [si,sf,simprocAttr,a213b0,a213R,hi,hj,cA,mA,hd,b6,f1,f3,h0]
    · conv=>lhs; rw [a213l0_run]
      simp (maxSteps:=1000000) (disch:=first | omega | decide) only [si,sf,simprocAttr,a213b0,a213R,hi,hj,cA,mA,hd,b6,f1,f3,h0]
  have hbad:∀ i (hi:i < a.length),¬ P i → ∀ H f,IX H 0 M → Bad3 (run E2 GP a213l0 (vst29 a b M i H f)) (.isl (a.map cA)) (.isl (b.map cA)) (.isl (M.map mA)):=by
    intro i hi hP H f h1
    have hj:i < M.length:=by omega
    have hP:¬ (dimOk b M[i].2 a[i].dim ∧ bz b M[i].2 = appF (imgF M) a[i].b):=fun h=>hP fun _ _=>h
    obtain ⟨⟨H2,b2,f1,f2⟩,f3⟩:=hr i hi hj H h1
    have b6:=hb6 i hi hj
    have hd:=hdim i hi hj
    unfold dimOk at hP
    unfold vst29
    generalize appF (imgF M) a[i].b = z at *
    generalize bz b M[i].2 = y at *
    generalize (dim26 b M[i].2).1 = d at *
    generalize (dim26 b M[i].2).2 = e at *
    by_cases he:e = 0
    · subst he
      by_cases h0:d ≥ 0
      · by_cases hdd:d = a[i].dim
        · have hyz:y ≠ z:=fun e=>hP ⟨⟨rfl,fun _=>hdd⟩,e⟩
          simp only [decide_eq_false hyz] at f3
          subst hdd
          rw [a213l0_run]
          simp (maxSteps:=1000000) (disch:=first | omega | decide) only [si,sf,simprocAttr,a213b0,a213R,hi,hj,cA,mA,hd,b6,f1,f3,h0]
          exact ⟨_,_,_,rfl⟩
        · rw [a213l0_run]
          simp (maxSteps:=1000000) (disch:=first | omega | decide) only [si,sf,simprocAttr,a213b0,a213R,hi,hj,cA,mA,hd,h0,hdd]
          exact ⟨_,_,_,rfl⟩
      · have hyz:y ≠ z:=fun e=>hP ⟨⟨rfl,fun h=>absurd h h0⟩,e⟩
        simp only [decide_eq_false hyz] at f3
        rw [a213l0_run]
        simp (maxSteps:=1000000) (disch:=first | omega | decide) only [si,sf,simprocAttr,a213b0,a213R,hi,hj,cA,mA,hd,b6,f1,f3,h0]
        exact ⟨_,_,_,rfl⟩
    · rw [a213l0_run]
      simp (maxSteps:=1000000) (disch:=first | omega | decide) only [si,sf,simprocAttr,a213b0,a213R,hi,hj,cA,mA,hd,he]
      exact ⟨_,_,_,rfl⟩
  rcases first_bad P a.length with hall | ⟨j,hj,hnot,hbefore⟩
  · have hv:valM a b M:=⟨hok,fun i hi hj=>(hall i hi hi hj).1,fun i hi hj=>(hall i hi hi hj).2⟩
    rw [decide_eq_true hv]
    obtain ⟨st,⟨H1,b1,rfl,h1⟩,hl⟩:=loop_ex _ a.length (vst29 a b M 0 [.var (idx0 M)] false) ⟨_,_,rfl,.inl rfl⟩ (fun i hi=>hstep i hi (hall i hi))
    have he:run E2 GP a213l0 (vst29 a b M a.length H1 b1) = some (.exit 0,{ vars:=[.isl (a.map cA),.isl (b.map cA),.isl (M.map mA),.bool false,.ptr 0 0 [],.u,.u,.u,.u,.u,.u,.bool false,.isl (a.map cA),.int .i64 a.length,.int .i64 a.length,.bool false,.u,.u,.u],heap:=H1,rs:=b1 }):=by
      unfold vst29
      rw [a213l0_run]
      simp (maxSteps:=1000000) (disch:=first | omega | decide) only [si,sf,simprocAttr,a213b0,a213R,Nat.lt_irrefl]
    rw [he] at hl
    have hl:run E2 GP a213l0 { vars:=[.isl (a.map cA),.isl (b.map cA),.isl (M.map mA),.bool false,.ptr 0 0 [],.u,.u,.u,.u,.u,.u,.bool false,.isl (a.map cA),.int .i64 a.length,.int .i64 0,.u,.u,.u,.u],heap:=[.var (idx0 M)],rs:=false } = _:=hl
    rw [call_fun (hE2 _ _) (f:=a213) rfl rfl]
    unfold idx0 onceV at hl
    simp (maxSteps:=1000000) (disch:=first | omega | decide) only [si,sf,simprocAttr,doBox,a213,a213R,f237,hl]
  · have hv:¬ valM a b M:=fun h=>hnot fun hi hj=>⟨h.2.1 j hi hj,h.2.2 j hi hj⟩
    rw [decide_eq_false hv]
    obtain ⟨st,⟨H1,b1,rfl,h1⟩,hl⟩:=loop_ex _ j (vst29 a b M 0 [.var (idx0 M)] false) ⟨_,_,rfl,.inl rfl⟩ (fun i hi=>hstep i (by omega) (hbefore i hi))
    obtain ⟨L,H2,b2,he⟩:=hbad j hj hnot H1 b1 h1
    rw [he] at hl
    have hl:run E2 GP a213l0 { vars:=[.isl (a.map cA),.isl (b.map cA),.isl (M.map mA),.bool false,.ptr 0 0 [],.u,.u,.u,.u,.u,.u,.bool false,.isl (a.map cA),.int .i64 a.length,.int .i64 0,.u,.u,.u,.u],heap:=[.var (idx0 M)],rs:=false } = _:=hl
    rw [call_fun (hE2 _ _) (f:=a213) rfl rfl]
    unfold idx0 onceV at hl
    simp (maxSteps:=1000000) (disch:=first | omega | decide) only [si,sf,simprocAttr,doBox,a213,a213R,f237,hl]
end Tor
namespace Tor
open Go
def propM (M:Mp):Prop:=∀ i (hi:i < M.length),(∀ j (hj:j < M.length),j + 1 = i → M[j].1 < M[i].1) ∧ valid26 M[i].2 = true
noncomputable instance (M:Mp):Decidable (propM M):=Classical.propDecidable _
theorem val_prop {a b:List Cel} {M:Mp} (hs:a.Pairwise (fun x y=>x.id < y.id)) (h:valM a b M):propM M:=by
  obtain ⟨⟨h1,h2⟩,_⟩:=h
  intro i hi
  have hia:i < a.length:=by omega
  refine ⟨fun j hj e=>?_,(h2 i hia hi).2⟩
  have hja:j < a.length:=by omega
  rw [← (h2 i hia hi).1,← (h2 j hja hj).1]
  exact (List.pairwise_iff_getElem.1 hs) j i hja hia (by omega)
def Bad1 (x:Option (Ex × St)) (v0:AV):Prop:=∃ L H b,x = some (.ret,{ vars:=v0 :: .bool false :: L,heap:=H,rs:=b })
theorem r29_properG {u:Nat} {M:Mp} (h:BM u M) (hu:u ≤ 10000000000) (H:Heap) :
    call E1 GP 225 [.isl (M.map mA)] H = some (.bool (decide (propM M)),H,false):=by
  have hl:=h.len
  have hv:∀ i (hi:i < M.length) (H:Heap),call E1 GP 17 [.isl (M[i].2.map fA)] H = some (.bool (valid26 M[i].2),H,false):=fun i hi H =>
    r26_valid free1 _ (h.smM (by omega) _ (List.getElem_mem hi)).1 (h.smM (by omega) _ (List.getElem_mem hi)).2 H
  let S:Nat → St:=fun i=>{ vars:=[.isl (M.map mA),.bool false,.int .i64 (i:Nat),.u,.u],heap:=[],rs:=false }
  let P:Nat → Prop:=fun i=>∀ hi:i < M.length,(∀ j (hj:j < M.length),j + 1 = i → M[j].1 < M[i].1) ∧ valid26 M[i].2 = true
  have hstep:∀ i,i < M.length → P i → run E1 GP a225l0 (S i) = run E1 GP a225l0 (S (i + 1)):=by
    intro i hi hP
    obtain ⟨p1,p2⟩:=hP hi
    have hv:=hv i hi
    rw [p2] at hv
    show run E1 GP a225l0 { vars:=_,heap:=_,rs:=_ } = run E1 GP a225l0 { vars:=_,heap:=_,rs:=_ }
    by_cases h0:i = 0
    · subst h0
      have h00:(0:Int) < (M.length:Int):=by omega
      conv=>lhs; rw [a225l0_run]
      simp (maxSteps:=1000000) (disch:=first | omega | decide) only [si,sf,simprocAttr,a225b0,a225R,hi,h00,mA,hv]
    · obtain ⟨p,hpi⟩:∃ p,i = p + 1:=⟨i - 1,by omega⟩
      have hp:p < M.length:=by omega
      have hlt:¬ (M[p].1 ≥ M[i].1):=by have:=p1 p hp hpi.symm; omega
      have h0':(i:Int) > 0:=by omega
      have ws:IntKind.i64.wrap ((i:Int) - 1) = (p:Int):=by rw [show (i:Int) - 1 = p by omega]; exact i64w (by omega)
      conv=>lhs; rw [a225l0_run]
      simp (maxSteps:=1000000) (disch:=first | omega | decide) only [si,sf,simprocAttr,a225b0,a225R,hi,hp,mA,hv,hlt,h0',ws]
  have hbad:∀ i,i < M.length → ¬ P i → Bad1 (run E1 GP a225l0 (S i)) (.isl (M.map mA)):=by
    intro i hi hP
    have hP:¬ ((∀ j (hj:j < M.length),j + 1 = i → M[j].1 < M[i].1) ∧ valid26 M[i].2 = true):=fun h=>hP fun _=>h
    have hv:=hv i hi
    show Bad1 (run E1 GP a225l0 { vars:=_,heap:=_,rs:=_ }) _
    by_cases h0:i = 0
    · subst h0
      have h00:(0:Int) < (M.length:Int):=by omega
      have hf:valid26 M[0].2 = false:=by
        cases hq:valid26 M[0].2 with
        | false=>rfl
        | true=>exact absurd ⟨fun j hj e=>by omega,hq⟩ hP
      rw [hf] at hv
      rw [a225l0_run]
      simp (maxSteps:=1000000) (disch:=first | omega | decide) only [si,sf,simprocAttr,a225b0,a225R,hi,h00,mA,hv]
      exact ⟨_,_,_,rfl⟩
    · obtain ⟨p,hpi⟩:∃ p,i = p + 1:=⟨i - 1,by omega⟩
      have hp:p < M.length:=by omega
      have h0':(i:Int) > 0:=by omega
      have ws:IntKind.i64.wrap ((i:Int) - 1) = (p:Int):=by rw [show (i:Int) - 1 = p by omega]; exact i64w (by omega)
      by_cases hlt:M[p].1 ≥ M[i].1
      · rw [a225l0_run]
        simp (maxSteps:=1000000) (disch:=first | omega | decide) only [si,sf,simprocAttr,a225b0,a225R,hi,hp,mA,hlt,h0',ws]
        exact ⟨_,_,_,rfl⟩
      · have hf:valid26 M[i].2 = false:=by
          cases hq:valid26 M[i].2 with
          | false=>rfl
          | true => exact absurd ⟨fun j hj e => by obtain rfl : j = p := by omega
                                                   omega,hq⟩ hP
        rw [hf] at hv
        rw [a225l0_run]
        simp (maxSteps:=1000000) (disch:=first | omega | decide) only [si,sf,simprocAttr,a225b0,a225R,hi,hp,mA,hv,hlt,h0',ws]
        exact ⟨_,_,_,rfl⟩
  rw [call_fun (free1 _ _ _ (by decide)) (f:=a225) rfl rfl]
  rcases first_bad P M.length with hall | ⟨j,hj,hnot,hbefore⟩
  · rw [decide_eq_true (show propM M from fun i hi=>hall i hi hi)]
    have hlp:=loop_ind S _ M.length (fun i hi=>hstep i hi (hall i hi)) rfl
    have he:run E1 GP a225l0 (S M.length) = some (.exit 0,{ vars:=[.isl (M.map mA),.bool false,.int .i64 M.length,.bool false,.u],heap:=[],rs:=false }):=by
      show run E1 GP a225l0 { vars:=_,heap:=_,rs:=_ } = _
      rw [a225l0_run]
      simp (maxSteps:=1000000) (disch:=first | omega | decide) only [si,sf,simprocAttr,a225b0,a225R,Nat.lt_irrefl]
    rw [he] at hlp
    have hlp:run E1 GP a225l0 { vars:=[.isl (M.map mA),.bool false,.int .i64 0,.u,.u],heap:=[],rs:=false } = _:=hlp
    simp (maxSteps:=1000000) (disch:=first | omega | decide) only [si,sf,simprocAttr,a225,a225R,hlp]
  · rw [decide_eq_false (show ¬ propM M from fun h=>hnot fun hi=>h j hi)]
    have hlp:=loop_ind S _ j (fun i hi=>hstep i (by omega) (hbefore i hi)) rfl
    obtain ⟨L,H2,b2,he⟩:=hbad j hj hnot
    rw [he] at hlp
    have hlp:run E1 GP a225l0 { vars:=[.isl (M.map mA),.bool false,.int .i64 0,.u,.u],heap:=[],rs:=false } = _:=hlp
    simp (maxSteps:=1000000) (disch:=first | omega | decide) only [si,sf,simprocAttr,a225,a225R,hlp]
theorem r29_validG {a b:List Cel} {sa sb:GS} {ma mb ea eb u:Nat} {M:Mp} (h:BM u M) (ga:Good a sa ma) (gb:Good b sb mb) (hma:ma ≤ 11) (hmb:mb ≤ 11) (hea:∀ k,sa.b k ≤ ea) (heb:∀ k,sb.b k ≤ eb) (hu:ea + eb + u ≤ 10000000000) (H:Heap) :
    call E1 GP 224 [.isl (a.map cA),.isl (b.map cA),.isl (M.map mA)] H = some (.bool (decide (valM a b M)),H,false):=by
  have ha:=ga.len11 hma
  have hb:=gb.len11 hmb
  have hal:a.length ≤ 11:=by simpa [idsC] using ha
  have hbl:b.length ≤ 11:=by simpa [idsC] using hb
  have hprop:=fun H=>r29_properG h (by omega) H
  have hML:=h.len
  rw [call_fun (free1 _ _ _ (by decide)) (f:=a224) rfl rfl]
  by_cases hp:propM M
  case neg =>
    have hv:¬ valM a b M:=fun h=>hp (val_prop ga.ids h)
    simp only [decide_eq_false hp] at hprop
    rw [decide_eq_false hv]
    simp (maxSteps:=1000000) (disch:=first | omega | decide) only [si,sf,simprocAttr,a224,a224R,hprop]
  simp only [decide_eq_true hp] at hprop
  by_cases hMl:M.length = a.length
  case neg =>
    have hv:¬ valM a b M:=fun h=>hMl h.1.1.symm
    rw [decide_eq_false hv]
    have hne:¬ (M.length:Int) = (a.length:Int):=by omega
    simp (maxSteps:=1000000) (disch:=first | omega | decide) only [si,sf,simprocAttr,a224,a224R,hprop,hne]
  let P:Nat → Prop:=fun i=>∀ (hi:i < a.length) (hj:i < M.length),a[i].id = M[i].1 ∧ dimOk b M[i].2 a[i].dim
  have hdim:∀ i (hj:i < M.length) (H:Heap),call E1 GP 5 [.isl (b.map cA),.isl (M[i].2.map fA)] H = some (.tup [.int .i64 (dim26 b M[i].2).1,.int .i64 (dim26 b M[i].2).2],H,false):=fun i hj H =>
    r26_dim free1 b M[i].2 (by omega) (by have:=(h.bd _ (List.getElem_mem hj)).2.1; omega) H
  let S:Nat → St:=fun i=>{ vars:=[.isl (a.map cA),.isl (b.map cA),.isl (M.map mA),.bool false,.int .i64 (i:Nat),.u,.u,.u,.bool false,.u,.u,.u,.u,.u],heap:=[],rs:=false }
  have hstep:∀ i,i < a.length → P i → run E1 GP a224l0 (S i) = run E1 GP a224l0 (S (i + 1)):=by
    intro i hi hP
    have hj:i < M.length:=by omega
    obtain ⟨eid,p1,p2⟩:=hP hi hj
    have eid:=eid.symm
    have hd:=hdim i hj
    rw [p1] at hd
    show run E1 GP a224l0 { vars:=_,heap:=_,rs:=_ } = run E1 GP a224l0 { vars:=_,heap:=_,rs:=_ }
    by_cases h0:M[i].2 = []
    · rw [h0] at hd
      simp only [List.map_nil] at hd
      conv=>lhs; rw [a224l0_run]
      simp (maxSteps:=1000000) (disch:=first | omega | decide) only [si,sf,simprocAttr,a224b0,a224R,hi,hj,cA,mA,eid,h0,hd,List.map_nil]
    · have hpos:(M[i].2.length:Int) > 0:=by have:=List.length_pos_iff.2 h0; omega
      have hdd:(dim26 b M[i].2).1 = a[i].dim:=by
        rcases dim_ge gb p1 with ⟨e,_⟩ | ⟨_,e,_⟩
        · exact absurd e h0
        · exact p2 e
      rw [hdd] at hd
      conv=>lhs; rw [a224l0_run]
      simp (maxSteps:=1000000) (disch:=first | omega | decide) only [si,sf,simprocAttr,a224b0,a224R,hi,hj,cA,mA,eid,hd,hpos]
  have hbad:∀ i,i < a.length → ¬ P i → Bad3 (run E1 GP a224l0 (S i)) (.isl (a.map cA)) (.isl (b.map cA)) (.isl (M.map mA)):=by
    intro i hi hP
    have hj:i < M.length:=by omega
    have hP:¬ (a[i].id = M[i].1 ∧ dimOk b M[i].2 a[i].dim):=fun h=>hP fun _ _=>h
    have hd:=hdim i hj
    show Bad3 (run E1 GP a224l0 { vars:=_,heap:=_,rs:=_ }) _ _ _
    by_cases eid:M[i].1 = a[i].id
    · have hP:¬ dimOk b M[i].2 a[i].dim:=fun h=>hP ⟨eid.symm,h⟩
      by_cases he:(dim26 b M[i].2).2 = 0
      · rcases dim_ge gb he with ⟨e1,e2⟩ | ⟨e1,e2,_⟩
        · exact absurd ⟨he,fun h=>by omega⟩ hP
        · have hdd:¬ (dim26 b M[i].2).1 = a[i].dim:=fun e=>hP ⟨he,fun _=>e⟩
          have hpos:(M[i].2.length:Int) > 0:=by have:=List.length_pos_iff.2 e1; omega
          rw [he] at hd
          rw [a224l0_run]
          simp (maxSteps:=1000000) (disch:=first | omega | decide) only [si,sf,simprocAttr,a224b0,a224R,hi,hj,cA,mA,eid,hd,hpos,hdd]
          exact ⟨_,_,_,rfl⟩
      · rw [a224l0_run]
        simp (maxSteps:=1000000) (disch:=first | omega | decide) only [si,sf,simprocAttr,a224b0,a224R,hi,hj,cA,mA,eid,hd,he]
        exact ⟨_,_,_,rfl⟩
    · rw [a224l0_run]
      simp (maxSteps:=1000000) (disch:=first | omega | decide) only [si,sf,simprocAttr,a224b0,a224R,hi,hj,cA,mA,eid]
      exact ⟨_,_,_,rfl⟩
  rcases first_bad P a.length with hall | ⟨j,hj,hnot,hbefore⟩
  case inr =>
    have hv:¬ valM a b M:=fun h=>hnot fun hi hj=>⟨(h.1.2 j hi hj).1,h.2.1 j hi hj⟩
    rw [decide_eq_false hv]
    have hlp:=loop_ind S _ j (fun i hi=>hstep i (by omega) (hbefore i hi)) rfl
    obtain ⟨L,H2,b2,he⟩:=hbad j hj hnot
    rw [he] at hlp
    have hlp:run E1 GP a224l0 { vars:=[.isl (a.map cA),.isl (b.map cA),.isl (M.map mA),.bool false,.int .i64 0,.u,.u,.u,.bool false,.u,.u,.u,.u,.u],heap:=[],rs:=false } = _:=hlp
    simp (maxSteps:=1000000) (disch:=first | omega | decide) only [si,sf,simprocAttr,a224,a224R,hprop,hMl,hlp]
  have hl0:=loop_ind S _ a.length (fun i hi=>hstep i hi (hall i hi)) rfl
  have he0:run E1 GP a224l0 (S a.length) = some (.exit 0,{ vars:=[.isl (a.map cA),.isl (b.map cA),.isl (M.map mA),.bool false,.int .i64 a.length,.u,.u,.u,.bool false,.bool false,.u,.u,.u,.u],heap:=[],rs:=false }):=by
    show run E1 GP a224l0 { vars:=_,heap:=_,rs:=_ } = _
    rw [a224l0_run]
    simp (maxSteps:=1000000) (disch:=first | omega | decide) only [si,sf,simprocAttr,a224b0,a224R,Nat.lt_irrefl]
  rw [he0] at hl0
  have hl0:run E1 GP a224l0 { vars:=[.isl (a.map cA),.isl (b.map cA),.isl (M.map mA),.bool false,.int .i64 0,.u,.u,.u,.bool false,.u,.u,.u,.u,.u],heap:=[],rs:=false } = _:=hl0
  have hok:okM a M:=⟨hMl.symm,fun i hi hj=>⟨(hall i hi hi hj).1,(hp i hj).2⟩⟩
  have hdm:∀ i (hi:i < a.length) (hj:i < M.length),dimOk b M[i].2 a[i].dim:=fun i hi hj=>(hall i hi hi hj).2
  have hcm:=h.cm gb hok hdm
  have hr:∀ i (hi:i < a.length) (hj:i < M.length) (H:Heap),call E1 GP 221 [.isl (M.map mA),.isl (a[i].b.map fA)] H = some (.isl ((appF (imgF M) a[i].b).map fA),H,false) ∧
      call E1 GP 10 [.isl ((bz b M[i].2).map fA),.isl ((appF (imgF M) a[i].b).map fA)] H = some (.bool (decide (bz b M[i].2 = appF (imgF M) a[i].b)),H,false) ∧
      call E1 GP 244 [.isl (b.map cA),.isl (M[i].2.map fA)] H = some (.isl ((bz b M[i].2).map fA),H,false):=by
    intro i hi hj H
    have hgb:=ga.bgc hea (List.getElem_mem hi)
    have hga:=hcm.app ha hb hgb (v:=ea + u + 7) (by omega)
    have hc:=good_ch gb (by omega) heb (h.ch hok i hj) (e2:=u) (Nat.le_refl _) (by omega) (by omega)
    have hN:2 ^ u * 2 ^ eb * 150 * 24 < BIG:=by
      rw [← Nat.pow_add,Nat.mul_assoc]
      exact mul_big (j:=12) (Nat.le_refl _) (by omega) (by omega)
    exact ⟨(hcm.rapply ha hb hgb (by omega) free1 H).2,r26_same free1 _ _ (ch_sm hc hN) (hga.sm (by omega)) (by have:=hc.len; omega) H,
      r26_edge free1 (good_b7 gb (by omega) heb (h.ch hok i hj) (e2:=u) (Nat.le_refl _) (by omega) (by omega)) H⟩
  let T:Nat → St:=fun j=>{ vars:=[.isl (a.map cA),.isl (b.map cA),.isl (M.map mA),.bool false,.int .i64 a.length,.u,.u,.int .i64 (j:Nat),.bool false,.bool false,.u,.u,.u,.u],heap:=[],rs:=false }
  let Q:Nat → Prop:=fun i=>∀ (hi:i < a.length) (hj:i < M.length),bz b M[i].2 = appF (imgF M) a[i].b
  have tstep:∀ j,j < a.length → Q j → run E1 GP a224l1 (T j) = run E1 GP a224l1 (T (j + 1)):=by
    intro i hi hQ
    have hj:i < M.length:=by omega
    have hq:=hQ hi hj
    have f1:=fun H=>(hr i hi hj H).1
    have f2:=fun H=>(hr i hi hj H).2.1
    have f3:=fun H=>(hr i hi hj H).2.2
    rw [← hq] at f1 f2
    simp only [decide_true] at f2
    show run E1 GP a224l1 { vars:=_,heap:=_,rs:=_ } = run E1 GP a224l1 { vars:=_,heap:=_,rs:=_ }
    generalize bz b M[i].2 = y at *
    conv=>lhs; rw [a224l1_run]
    simp (maxSteps:=1000000) (disch:=first | omega | decide) only [si,sf,simprocAttr,a224b1,a224R,hi,hj,cA,mA,f1,f2,f3]
  have tbad:∀ j,j < a.length → ¬ Q j → Bad3 (run E1 GP a224l1 (T j)) (.isl (a.map cA)) (.isl (b.map cA)) (.isl (M.map mA)):=by
    intro i hi hQ
    have hj:i < M.length:=by omega
    have hq:¬ bz b M[i].2 = appF (imgF M) a[i].b:=fun h=>hQ fun _ _=>h
    have f1:=fun H=>(hr i hi hj H).1
    have f2:=fun H=>(hr i hi hj H).2.1
    have f3:=fun H=>(hr i hi hj H).2.2
    simp only [decide_eq_false hq] at f2
    show Bad3 (run E1 GP a224l1 { vars:=_,heap:=_,rs:=_ }) _ _ _
    generalize bz b M[i].2 = y at *
    generalize appF (imgF M) a[i].b = z at *
    rw [a224l1_run]
    simp (maxSteps:=1000000) (disch:=first | omega | decide) only [si,sf,simprocAttr,a224b1,a224R,hi,hj,cA,mA,f1,f2,f3]
    exact ⟨_,_,_,rfl⟩
  rcases first_bad Q a.length with qall | ⟨j,hj,hnot,hbefore⟩
  · have hv:valM a b M:=⟨hok,hdm,fun i hi hj=>qall i hi hi hj⟩
    rw [decide_eq_true hv]
    have hl1:=loop_ind T _ a.length (fun i hi=>tstep i hi (qall i hi)) rfl
    have he1:run E1 GP a224l1 (T a.length) = some (.exit 2,{ vars:=[.isl (a.map cA),.isl (b.map cA),.isl (M.map mA),.bool false,.int .i64 a.length,.u,.u,.int .i64 a.length,.bool false,.bool false,.u,.u,.bool false,.u],heap:=[],rs:=false }):=by
      show run E1 GP a224l1 { vars:=_,heap:=_,rs:=_ } = _
      rw [a224l1_run]
      simp (maxSteps:=1000000) (disch:=first | omega | decide) only [si,sf,simprocAttr,a224b1,a224R,Nat.lt_irrefl]
    rw [he1] at hl1
    have hl1:run E1 GP a224l1 { vars:=[.isl (a.map cA),.isl (b.map cA),.isl (M.map mA),.bool false,.int .i64 a.length,.u,.u,.int .i64 0,.bool false,.bool false,.u,.u,.u,.u],heap:=[],rs:=false } = _:=hl1
    simp (maxSteps:=1000000) (disch:=first | omega | decide) only [si,sf,simprocAttr,a224,a224R,hprop,hMl,hl0,hl1]
  · have hv:¬ valM a b M:=fun h=>hnot fun hi hj=>h.2.2 j hi hj
    rw [decide_eq_false hv]
    have hl1:=loop_ind T _ j (fun i hi=>tstep i (by omega) (hbefore i hi)) rfl
    obtain ⟨L,H2,b2,he⟩:=tbad j hj hnot
    rw [he] at hl1
    have hl1:run E1 GP a224l1 { vars:=[.isl (a.map cA),.isl (b.map cA),.isl (M.map mA),.bool false,.int .i64 a.length,.u,.u,.int .i64 0,.bool false,.bool false,.u,.u,.u,.u],heap:=[],rs:=false } = _:=hl1
    simp (maxSteps:=1000000) (disch:=first | omega | decide) only [si,sf,simprocAttr,a224,a224R,hprop,hMl,hl0,hl1]
end Tor
namespace Tor
open Go
def BadC (x:Option (Ex × St)) (v0 v1:AV):Prop:=∃ L H b,x = some (.ret,{ vars:=v0 :: v1 :: .isl [] :: .int .i64 290 :: L,heap:=H,rs:=b })
theorem i_composeG {b c:List Cel} {u v:Nat} {M N:Mp} (h:BM u M) (k:CM b c v N) (hnd:(idsC b).Nodup) (hb:(idsC b).length ≤ 11) (hc:(idsC c).length ≤ 11) (hk:∀ k ∈ idsC c,in64 k = true) (hu:u + v ≤ 14000000000) (H:Heap) :
    call E2 GP 226 [.isl (M.map mA),.isl (N.map mA)] H = some (if (∀ p ∈ M,∀ q ∈ p.2,(findM N q.1).isSome = true) then .tup [.isl ((compM M N).map mA),.int .i64 0] else .tup [.isl [],.int .i64 290],H,false):=by
  have hE2:∀ a H,E2 226 a H = none:=fun a H=>E2_none (by decide) (by decide)
  have hMl:=h.len
  have hNl:=k.len
  have hbl:b.length ≤ 11:=by simpa [idsC] using hb
  let W:Nat → List AV:=fun i=>((compM M N).take i).map mA
  have hcl:(compM M N).length = M.length:=by simp [compM]
  have hWl:∀ i,i ≤ M.length → (W i).length = i:=fun i hi=>by simp [W,hcl]; omega
  let P:Nat → Prop:=fun i=>∀ hi:i < M.length,∀ q ∈ M[i].2,(findM N q.1).isSome = true
  have hap:∀ p ∈ M,∀ (H:Heap),IX H 0 N → ∃ H' b',call E2 GP 238 [.ptr 0 0 [],.isl (p.2.map fA)] H = some (if (∀ q ∈ p.2,(findM N q.1).isSome = true) then .tup [.isl ((appF (imgF N) p.2).map fA),.int .i64 0] else .tup [.isl [],.int .i64 290],H',b') ∧ IX H' 0 N ∧ Ext 0 H H':=by
    intro p hp H hix
    obtain ⟨x1,x2,x3⟩:=h.bd _ hp
    have hB:2 ^ u * 2 ^ v * (11 * p.2.length + 1) < BIG:=by
      rw [← Nat.pow_add]
      exact mul_big (j:=9) (Nat.le_refl _) (by omega) (by omega)
    exact i_apply N p.2 (2 ^ u) (2 ^ v) 11 (by omega) (by rw [k.ids]; exact hnd) (by omega) x1 (fun id=>⟨(k.img id).bd,Nat.le_trans (k.img id).len hc⟩) (by omega) (pow5_big (by omega)) (pow5_big (by omega)) hB (fun id p hp=>hk _ ((k.img id).key p hp)) H 0 hix
  have hstep:∀ i,i < M.length → P i → ∀ st,(∃ H b,st = cst M N i H b ∧ IX H 0 N ∧ H[1]? = some (.arr i 2 (W i))) → ∃ st',(∃ H b,st' = cst M N (i + 1) H b ∧ IX H 0 N ∧ H[1]? = some (.arr (i + 1) 2 (W (i + 1)))) ∧ run E2 GP a226l0 st = run E2 GP a226l0 st':=by
    rintro i hi hP st ⟨H,b,rfl,h1,h2⟩
    obtain ⟨H2,b2,f1,f2,f3⟩:=hap M[i] (List.getElem_mem hi) H h1
    rw [if_pos (hP hi)] at f1
    have hl1:1 < H.length:=(List.getElem?_eq_some_iff.1 h2).1
    have h2':H2[1]? = some (.arr i 2 (W i)):=(f3.2 1 hl1 (by decide)).trans h2
    have hl2:1 < H2.length:=(List.getElem?_eq_some_iff.1 h2').1
    have eW:W (i + 1) = W i ++ [.agg [.int .i64 M[i].1,.isl ((appF (imgF N) M[i].2).map fA)]]:=by
      have:i < (compM M N).length:=by rw [hcl]; exact hi
      simp only [W]
      rw [List.take_succ_eq_append_getElem this]
      simp [compM,mA]
    have hwi:=hWl i (by omega)
    have hm1:i + 1 ≤ 4294967296:=by omega
    refine ⟨_,⟨H2.set 1 (.arr (i + 1) 2 (W (i + 1))),b || b2,rfl,f2.set h2' _,List.getElem?_set_self hl2⟩,?_⟩
    unfold cst
    rw [eW]
    generalize W i = V at *
    generalize appF (imgF N) M[i].2 = y at *
    conv=>lhs; rw [a226l0_run]
    simp (maxSteps:=1000000) (disch:=first | omega | decide) only [si,sf,simprocAttr,a226b0,a226R,hi,mA,f1,h2',hwi,hm1,maxLenA]
  have hbad:∀ i (hi:i < M.length),¬ P i → ∀ H b,IX H 0 N → BadC (run E2 GP a226l0 (cst M N i H b)) (.isl (M.map mA)) (.isl (N.map mA)):=by
    intro i hi hP H b h1
    obtain ⟨H2,b2,f1,f2,f3⟩:=hap M[i] (List.getElem_mem hi) H h1
    rw [if_neg (fun h=>hP fun _=>h)] at f1
    unfold cst
    rw [a226l0_run]
    simp (maxSteps:=1000000) (disch:=first | omega | decide) only [si,sf,simprocAttr,a226b0,a226R,hi,mA,f1]
    exact ⟨_,_,_,rfl⟩
  rcases first_bad P M.length with hall | ⟨j,hj,hnot,hbefore⟩
  · have hp:∀ p ∈ M,∀ q ∈ p.2,(findM N q.1).isSome = true:=fun p hp=>by
      obtain ⟨i,hi,rfl⟩:=List.getElem_of_mem hp
      exact hall i hi hi
    rw [if_pos hp]
    obtain ⟨st,⟨H1,b1,rfl,h1,h2⟩,hl⟩:=loop_ex _ M.length (cst M N 0 [.var (idx0 N),.arr 0 2 []] false) ⟨_,_,rfl,.inl rfl,rfl⟩ (fun i hi=>hstep i hi (hall i hi))
    have he:run E2 GP a226l0 (cst M N M.length H1 b1) = some (.exit 0,{ vars:=[.isl (M.map mA),.isl (N.map mA),.isl [],.int .i64 0,.ptr 0 0 [],.sl 1 M.length 2 0 M.length,.u,.u,.isl (M.map mA),.int .i64 M.length,.int .i64 M.length,.bool false,.u,.u],heap:=H1,rs:=b1 }):=by
      unfold cst
      rw [a226l0_run]
      simp (maxSteps:=1000000) (disch:=first | omega | decide) only [si,sf,simprocAttr,a226b0,a226R,Nat.lt_irrefl]
    rw [he] at hl
    have hl0:∀ b,run E2 GP a226l0 { vars:=[.isl (M.map mA),.isl (N.map mA),.isl [],.int .i64 0,.ptr 0 0 [],.sl 1 0 2 0 0,.u,.u,.isl (M.map mA),.int .i64 M.length,.int .i64 0,.u,.u,.u],heap:=[.var (idx0 N),.arr 0 2 []],rs:=false } = _:=fun (_:Bool)=>hl
    have hl0:=hl0 true
    have hwl:=hWl M.length (Nat.le_refl _)
    have hwr:AV.hasRefs (W M.length) = false:=fl_ref _
    have hws:AV.solids (W M.length) = true:=fl_sol _
    have hwz:∀ n H,(W M.length).map (fz n H 6) = W M.length:=fun n H=>fl_fz (e:=mA) (by decide)
    have e0:(compM M N).map mA = W M.length:=by
      show _ = ((compM M N).take M.length).map mA
      rw [List.take_of_length_le (by rw [hcl]; exact Nat.le_refl _)]
    rw [e0]
    generalize W M.length = V at *
    have htk:V.take M.length = V:=List.take_of_length_le (by omega)
    have hlv:M.length ≤ V.length:=by omega
    rw [call_fun (hE2 _ _) (f:=a226) rfl rfl]
    unfold idx0 onceV at hl0
    simp (maxSteps:=1000000) (disch:=first | omega | decide) only [si,sf,simprocAttr,doBox,a226,a226R,hl0,h2,hwl,hwr,hws,hwz,htk,hlv,Nat.le_refl]
  · have hp:¬ ∀ p ∈ M,∀ q ∈ p.2,(findM N q.1).isSome = true:=fun h=>hnot fun hi=>h _ (List.getElem_mem hi)
    rw [if_neg hp]
    obtain ⟨st,⟨H1,b1,rfl,h1,h2⟩,hl⟩:=loop_ex _ j (cst M N 0 [.var (idx0 N),.arr 0 2 []] false) ⟨_,_,rfl,.inl rfl,rfl⟩ (fun i hi=>hstep i (by omega) (hbefore i hi))
    obtain ⟨L,H2,b2,he⟩:=hbad j hj hnot H1 b1 h1
    rw [he] at hl
    have hl0:∀ b,run E2 GP a226l0 { vars:=[.isl (M.map mA),.isl (N.map mA),.isl [],.int .i64 0,.ptr 0 0 [],.sl 1 0 2 0 0,.u,.u,.isl (M.map mA),.int .i64 M.length,.int .i64 0,.u,.u,.u],heap:=[.var (idx0 N),.arr 0 2 []],rs:=false } = _:=fun (_:Bool)=>hl
    have hl0:=hl0 true
    rw [call_fun (hE2 _ _) (f:=a226) rfl rfl]
    unfold idx0 onceV at hl0
    simp (maxSteps:=1000000) (disch:=first | omega | decide) only [si,sf,simprocAttr,doBox,a226,a226R,hl0]
end Tor
namespace Tor
open Go
def spA (w t:Nat) (f0 f1:Int):AV:=.agg [.int .u8 (w:Nat),.int .u8 (t:Nat),.agg [.int .i8 f0,.int .i8 f1]]
structure SM (u:Nat) (M:Mp):Prop where
  len:M.length ≤ 11
  bd:∀ p ∈ M,Bd (2 ^ u) p.2 ∧ p.2.length ≤ 11 ∧ ∀ q ∈ p.2,in64 q.1 = true
  id:∀ p ∈ M,0 ≤ p.1 ∧ p.1 ≤ 1000
theorem SM.bm {u v:Nat} {M:Mp} (h:SM u M) (hv:u ≤ v):BM v M :=
  ⟨by have:=h.len; omega,fun p hp=>⟨bd_mono (Nat.pow_le_pow_right (by decide) hv) (h.bd p hp).1,by have:=(h.bd p hp).2.1; omega,(h.bd p hp).2.2⟩⟩
theorem BM.set {u:Nat} {M:Mp} (h:BM u M) (i:Nat) (x:Int × List (Int × Int)) (hx:Bd (2 ^ u) x.2 ∧ x.2.length ≤ 24 ∧ ∀ q ∈ x.2,in64 q.1 = true):BM u (M.set i x) :=
  ⟨by rw [List.length_set]; exact h.len,fun p hp=>by
    rcases List.mem_or_eq_of_mem_set hp with hp | rfl
    · exact h.bd p hp
    · exact hx⟩
theorem nil_ok {u:Nat}:Bd (2 ^ u) [] ∧ ([]:List (Int × Int)).length ≤ 24 ∧ ∀ q ∈ ([]:List (Int × Int)),in64 q.1 = true:=⟨fun p hp=>(by cases hp),Nat.zero_le _,fun p hp=>(by cases hp)⟩
theorem cellOf_ok (p:Int × Int) (h:-128 ≤ p.2 ∧ p.2 ≤ 127):(cellOf p).2.natAbs ≤ 3 ∧ in64 (cellOf p).1 = true:=by
  unfold cellOf
  have h1:IntKind.u8.wrap p.1 = p.1 % 256:=rfl
  have e1:(IntKind.u8.wrap p.1).tmod 10 = (p.1 % 256) % 10:=by rw [h1]; exact Int.tmod_eq_emod_of_nonneg (by omega)
  have h3:=Int.tmod_lt_of_pos p.2 (show (0:Int) < 4 by decide)
  have h4:-4 < p.2.tmod 4:=by
    have:=Int.tmod_lt_of_pos (-p.2) (show (0:Int) < 4 by decide)
    rw [Int.neg_tmod] at this; omega
  simp only
  rw [e1,i64w (by omega),i64w (by omega)]
  exact ⟨by omega,by simp [in64]; omega⟩
theorem r_spoilt {u:Nat} {M:Mp} (h:SM u M) (hu:u ≤ 9000000000) (w t:Nat) (hw:w ≤ 255) (ht:t ≤ 255) (f0 f1:Int) (h0:-128 ≤ f0 ∧ f0 ≤ 127) (h1:-128 ≤ f1 ∧ f1 ≤ 127) :
    ∃ M',BM (u + 8) M' ∧ ∀ H,call E1 GP 223 [.isl (M.map mA),spA w t f0 f1] H = some (.isl (M'.map mA),H,false):=by
  have hml:=h.len
  have hbm:=h.bm (show u ≤ u + 8 by omega)
  have wt:IntKind.i64.wrap (t:Int) = (t:Int):=i64w (by omega)
  have hE:∀ a H,E1 223 a H = none:=fun a H=>free1 _ _ _ (by decide)
  by_cases hM:M = []
  · subst hM
    refine ⟨[((t:Int),[])],⟨by simp,fun p hp=>by
      rw [List.mem_singleton] at hp; subst hp; exact nil_ok⟩,fun H=>?_⟩
    rw [call_fun (hE _ _) (f:=a223) rfl rfl]
    unfold spA
    simp (maxSteps:=1000000) (disch:=first | omega | decide) only [si,sf,simprocAttr,doBox,a223,a223R,List.map_nil,wt,maxLenA,mA]
  have hpos:0 < M.length:=List.length_pos_iff.2 hM
  have hi:t % M.length < M.length:=Nat.mod_lt _ hpos
  have et:(t:Int).tmod (M.length:Int) = ((t % M.length:Nat):Int):=by rw [Int.tmod_eq_emod_of_nonneg (by omega)]; omega
  generalize t % M.length = i at hi et
  have hl0:¬ (M.length:Int) = 0:=by omega
  have hml2:M.length ≤ 4294967296:=by omega
  have fac:=fun H=>r26_faces free1 [(f0,f1)] (fun p hp=>by rw [List.mem_singleton] at hp; subst hp; exact h1) H
  simp only [List.take_succ_cons,List.take_nil,List.map_cons,List.map_nil,pA] at fac
  obtain ⟨c1,c2⟩:=cellOf_ok (f0,f1) h1
  generalize cellOf (f0,f1) = c at fac c1 c2
  have ew:(w:Int).tmod 6 = ((w % 6:Nat):Int):=by rw [Int.tmod_eq_emod_of_nonneg (by omega)]; omega
  have hw6:w % 6 < 6:=Nat.mod_lt _ (by decide)
  have e7:IntKind.i64.wrap (1:Int) = 1:=rfl
  generalize w % 6 = k at ew hw6
  have hb:=h.bd _ (List.getElem_mem hi)
  have hid:=h.id _ (List.getElem_mem hi)
  have p6:2 ^ u + 6 ≤ 2 ^ (u + 8):=by
    rw [Nat.pow_add]; have:=Nat.one_le_two_pow (n:=u)
    show 2 ^ u + 6 ≤ 2 ^ u * 256; omega
  have p8:2 ^ u + 3 ≤ 2 ^ (u + 8):=by omega
  have b12:12 < BIG:=Nat.lt_trans (show 12 < 2 ^ 5 by decide) (pow5_big (a:=5) (by omega))
  have b8:2 ^ (u + 8) < BIG:=pow5_big (by omega)
  have p3:3 ≤ 2 ^ (u + 8):=Nat.le_trans (Nat.le_add_left 3 (2 ^ u)) p8
  have hbd8:Bd (2 ^ (u + 8)) M[i].2:=bd_mono (Nat.pow_le_pow_right (by decide) (by omega)) hb.1
  have hset:∀ (id:Int) (x:List (Int × Int)),(M.map mA).set i (.agg [.int .i64 id,.isl (x.map fA)]) = (M.set i (id,x)).map mA:=fun id x=>by
    rw [List.map_set]; rfl
  rcases (by omega:k = 0 ∨ k = 1 ∨ k = 2 ∨ k = 3 ∨ k = 4 ∨ k = 5) with rfl | rfl | rfl | rfl | rfl | rfl
  · -- a sum
    have hmk:=fun H=>r26_make free1 [c] 3 (fun p hp=>by rw [List.mem_singleton] at hp; subst hp; exact c1) (by simp) (by show 3 * 2 < BIG; exact Nat.lt_trans (by decide) b12) H
    have hy:[c].foldl insert26 [] = [] ∨ [c].foldl insert26 [] = [c]:=by
      simp only [List.foldl_cons,List.foldl_nil,insert26]
      by_cases hz:c.2 = 0
      · left; simp [hz,insR]
      · right; simp [hz,insR]
    simp only [List.map_cons,List.map_nil] at hmk
    generalize [c].foldl insert26 [] = y at hmk hy
    have hof:=fun H=>r1_of free1 1 H (by decide) (by decide)
    have hyl:y.length ≤ 1:=by rcases hy with rfl | rfl <;> simp
    have hyc:∀ q ∈ y,q.2.natAbs ≤ 3 ∧ in64 q.1 = true:=fun q hq=>by
      rcases hy with rfl | rfl
      · cases hq
      · rw [List.mem_singleton] at hq; subst hq; exact ⟨c1,c2⟩
    have hadd:=fun H=>r26_add free1 M[i].2 y 1 (2 ^ u) 3 hb.1 (sm_of (N:=3) (by omega) (by decide)) (fun q hq=>sm_of (N:=3) (by omega) (hyc q hq).1) (fun q hq=>by rw [Int.one_mul]; exact (hyc q hq).1) (by omega) (by omega) (by
      have:3 * (y.length + 1) ≤ 3 * 2:=Nat.mul_le_mul_left _ (by omega)
      omega) H
    have hz:Bd (2 ^ (u + 8)) (add26 M[i].2 y 1) ∧ (add26 M[i].2 y 1).length ≤ 24 ∧ ∀ q ∈ add26 M[i].2 y 1,in64 q.1 = true:=by
      refine ⟨?_,?_,add_keys (P:=fun n=>in64 n = true) 1 _ _ (fun q hq=>(hyc q hq).2) hb.2.2⟩
      · rcases hy with rfl | rfl
        · exact hbd8
        · exact bd_mono p8 (insR_bd (by rw [Int.one_mul]; exact c1) _ _ hb.1)
      · rcases hy with rfl | rfl
        · have:=hb.2.1; unfold add26; simp only [List.foldl_nil]; omega
        · have:=hb.2.1
          have:=insR_len (c.1,1 * c.2) M[i].2 (decide (1 * c.2 = 0))
          unfold add26; simp only [List.foldl_cons,List.foldl_nil,insert26]; omega
    refine ⟨M.set i (M[i].1,add26 M[i].2 y 1),hbm.set i _ hz,fun H=>?_⟩
    have hs:=hset M[i].1 (add26 M[i].2 y 1)
    have hl2:(M.set i (M[i].1,add26 M[i].2 y 1)).length = M.length:=List.length_set ..
    generalize M.set i (M[i].1,add26 M[i].2 y 1) = M' at *
    have htk:List.take M.length (M'.map mA) = M'.map mA:=List.take_of_length_le (by simp [hl2])
    generalize add26 M[i].2 y 1 = x at *
    rw [call_fun (hE _ _) (f:=a223) rfl rfl]
    unfold spA
    simp (maxSteps:=1000000) (disch:=first | omega | decide) only [si,sf,simprocAttr,doBox,a223,a223R,wt,maxLenA,mA,et,hi,hl0,hml2,fac,ew,hmk,hof,hadd,hs,hl2,htk]
  · -- another ID
    have h5:=Int.tmod_lt_of_pos f1 (show (0:Int) < 2 by decide)
    have h6:-2 < f1.tmod 2:=by
      have:=Int.tmod_lt_of_pos (-f1) (show (0:Int) < 2 by decide)
      rw [Int.neg_tmod] at this; omega
    have wd:IntKind.i64.wrap (f1.tmod 2) = f1.tmod 2:=i64w (by omega)
    have ws:IntKind.i64.wrap (M[i].1 + f1.tmod 2) = M[i].1 + f1.tmod 2:=i64w (by omega)
    refine ⟨M.set i (M[i].1 + f1.tmod 2,M[i].2),hbm.set i _ ⟨hbd8,Nat.le_trans hb.2.1 (by decide),hb.2.2⟩,fun H=>?_⟩
    have hs:=hset (M[i].1 + f1.tmod 2) M[i].2
    have hl2:(M.set i (M[i].1 + f1.tmod 2,M[i].2)).length = M.length:=List.length_set ..
    generalize M.set i (M[i].1 + f1.tmod 2,M[i].2) = M' at *
    have htk:List.take M.length (M'.map mA) = M'.map mA:=List.take_of_length_le (by simp [hl2])
    rw [call_fun (hE _ _) (f:=a223) rfl rfl]
    unfold spA
    simp (maxSteps:=1000000) (disch:=first | omega | decide) only [si,sf,simprocAttr,doBox,a223,a223R,wt,maxLenA,mA,et,hi,hl0,hml2,fac,ew,wd,ws,hs,hl2,htk]
  · -- one image less
    refine ⟨M.take i ++ M.drop (i + 1),⟨by have:=hbm.len; simp only [List.length_append,List.length_take,List.length_drop]; omega,fun p hp=>hbm.bd p (by
      rcases List.mem_append.1 hp with hp | hp
      · exact List.mem_of_mem_take hp
      · exact List.mem_of_mem_drop hp)⟩,fun H=>?_⟩
    have wi:IntKind.i64.wrap ((i:Int) + 1) = (i:Int) + 1:=i64w (by omega)
    have q1:(i:Int) ≤ (M.length:Int):=by omega
    have q2:(i:Int) + 1 ≤ (M.length:Int):=by omega
    have q13:(0:Int) ≤ (i:Int) + 1:=by omega
    have q14:((i:Int) + 1).toNat = i + 1:=by omega
    have q3:¬ i = M.length:=by omega
    have q4:i ≤ M.length:=by omega
    have q5:i + 1 + (M.length - (i + 1)) ≤ M.length:=by omega
    have q6:List.take (M.length - (i + 1)) (List.drop (i + 1) (M.map mA)) = List.drop (i + 1) (M.map mA):=List.take_of_length_le (by simp)
    have q7:(List.take i (M.map mA) ++ List.drop (i + 1) (M.map mA)) = (M.take i ++ M.drop (i + 1)).map mA:=by rw [List.map_append,List.map_take,List.map_drop]
    have q8:headSize 2 (List.drop (i + 1) (M.map mA)) = true:=by rw [← List.map_drop]; exact fl_hd rfl
    have q9:AV.hasRefs (List.drop (i + 1) (M.map mA)) = false:=by rw [← List.map_drop]; exact fl_ref _
    have q10:(List.drop (i + 1) (M.map mA)).length = M.length - (i + 1):=by simp
    have q11:i + (M.length - (i + 1)) ≤ 4294967296:=by omega
    have q12:(M.take i ++ M.drop (i + 1)).length = i + (M.length - (i + 1)):=by simp; omega
    generalize hM':M.take i ++ M.drop (i + 1) = M' at *
    have htk:List.take (i + (M.length - (i + 1))) (M'.map mA) = M'.map mA:=List.take_of_length_le (by simp; omega)
    rw [call_fun (hE _ _) (f:=a223) rfl rfl]
    unfold spA
    simp (maxSteps:=1000000) (disch:=first | omega | decide) only [si,sf,simprocAttr,doBox,a223,a223R,wt,maxLenA,mA,et,hi,hl0,hml2,fac,ew,wi,appIn,q1,q2,q3,q4,q5,q6,q7,q8,q9,q10,q11,q12,q13,q14,htk]
  · -- a longer image
    refine ⟨M.set i (M[i].1,M[i].2 ++ [c]),hbm.set i _ ⟨fun q hq=>?_,by have:=hb.2.1; simp; omega,fun q hq=>?_⟩,fun H=>?_⟩
    · rcases List.mem_append.1 hq with hq | hq
      · exact hbd8 q hq
      · rw [List.mem_singleton] at hq; subst hq; omega
    · rcases List.mem_append.1 hq with hq | hq
      · exact hb.2.2 q hq
      · rw [List.mem_singleton] at hq; subst hq; exact c2
    have q1:M[i].2.length ≤ 4294967296:=by have:=hb.2.1; omega
    have q2:M[i].2.length + 1 ≤ 4294967296:=by have:=hb.2.1; omega
    have q3:M[i].2.map fA ++ [fA c] = (M[i].2 ++ [c]).map fA:=by simp
    have hs:=hset M[i].1 (M[i].2 ++ [c])
    have hl2:(M.set i (M[i].1,M[i].2 ++ [c])).length = M.length:=List.length_set ..
    have q4:(M[i].2 ++ [c]).length = M[i].2.length + 1:=by simp
    generalize M.set i (M[i].1,M[i].2 ++ [c]) = M' at *
    generalize M[i].2 ++ [c] = z at *
    have htk:List.take (M[i].2.length + 1) (z.map fA) = z.map fA:=List.take_of_length_le (by simp; omega)
    have htk2:∀ x:AV,List.take M.length ((M.map mA).set i x) = (M.map mA).set i x:=fun x=>List.take_of_length_le (by simp)
    have hfz:∀ n H,((M.map mA).set i (.agg [.int .i64 M[i].1,.sl 2 2 3 0 (M[i].2.length + 1)])).map (fz n H 7) = (M.map mA).set i (fz n H 7 (.agg [.int .i64 M[i].1,.sl 2 2 3 0 (M[i].2.length + 1)])):=fun n H=>by
      rw [List.map_set,fl_fz (by decide)]
    rw [call_fun (hE _ _) (f:=a223) rfl rfl]
    unfold spA
    simp (maxSteps:=1000000) (disch:=first | omega | decide) only [si,sf,simprocAttr,doBox,a223,a223R,wt,maxLenA,mA,et,hi,hl0,hml2,fac,ew,q1,q2,q3,q4,htk,htk2,hfz,List.length_set,fA_size,fA_ref,hs,hl2]
  · -- one image more
    have h5:=Int.tmod_lt_of_pos f1 (show (0:Int) < 3 by decide)
    have h6:-3 < f1.tmod 3:=by
      have:=Int.tmod_lt_of_pos (-f1) (show (0:Int) < 3 by decide)
      rw [Int.neg_tmod] at this; omega
    have hl:M.length - 1 < M.length:=by omega
    have hid:=h.id _ (List.getElem_mem hl)
    have wl:IntKind.i64.wrap ((M.length:Int) - 1) = ((M.length - 1:Nat):Int):=by rw [i64w (by omega)]; omega
    have wd:IntKind.i64.wrap (f1.tmod 3) = f1.tmod 3:=i64w (by omega)
    obtain ⟨id,hq⟩:∃ id,id = M[M.length - 1].1 + f1.tmod 3:=⟨_,rfl⟩
    have ws:IntKind.i64.wrap (M[M.length - 1].1 + f1.tmod 3) = id:=by rw [hq]; exact i64w (by omega)
    refine ⟨M ++ [(id,[])],⟨by simp; omega,fun p hp=>by
      rcases List.mem_append.1 hp with hp | hp
      · exact hbm.bd p hp
      · rw [List.mem_singleton] at hp; subst hp; exact nil_ok⟩,fun H=>?_⟩
    have hm1:M.length + 1 ≤ 4294967296:=by omega
    have q1:(M.map mA ++ [AV.agg [.int .i64 id,.nl]]).length = M.length + 1:=by simp
    have q2:List.take (M.length + 1) (M.map mA ++ [AV.agg [.int .i64 id,.nl]]) = M.map mA ++ [AV.agg [.int .i64 id,.nl]]:=List.take_of_length_le (by simp)
    have q3:∀ n H,(M.map mA ++ [AV.agg [.int .i64 id,.nl]]).map (fz n H 7) = (M ++ [(id,[])]).map mA:=fun n H=>by
      rw [List.map_append,fl_fz (by decide),List.map_append]; rfl
    generalize M ++ [(id,[])] = M' at *
    rw [call_fun (hE _ _) (f:=a223) rfl rfl]
    unfold spA
    simp (maxSteps:=1000000) (disch:=first | omega | decide) only [si,sf,simprocAttr,doBox,a223,a223R,wt,maxLenA,mA,et,hi,hl0,hml2,fac,ew,wl,hl,wd,ws,hm1,q1,q2,q3,Nat.le_refl]
  · -- no image
    refine ⟨M.set i (M[i].1,[]),hbm.set i _ nil_ok,fun H=>?_⟩
    have hs:=hset M[i].1 []
    have hl2:(M.set i (M[i].1,[])).length = M.length:=List.length_set ..
    simp only [List.map_nil] at hs
    generalize M.set i (M[i].1,[]) = M' at *
    have htk:List.take M.length (M'.map mA) = M'.map mA:=List.take_of_length_le (by simp [hl2])
    rw [call_fun (hE _ _) (f:=a223) rfl rfl]
    unfold spA
    simp (maxSteps:=1000000) (disch:=first | omega | decide) only [si,sf,simprocAttr,doBox,a223,a223R,wt,maxLenA,mA,et,hi,hl0,hml2,fac,ew,hs,hl2,htk]
end Tor
namespace Tor
open Go
theorem i_matrix_bad {a b:List Cel} {M:Mp} (k:Int) (h:∀ H,call E2 GP 213 [.isl (a.map cA),.isl (b.map cA),.isl (M.map mA)] H = some (.bool false,H,false)) (H:Heap) :
    call E2 GP 217 [.isl (a.map cA),.isl (b.map cA),.isl (M.map mA),.int .i64 k] H = some (.tup [.agg [.int .i64 0,.int .i64 0,.isl []],.int .i64 290],H,false):=by
  rw [call_fun (E2_none (by decide) (by decide)) (f:=a217) rfl rfl]
  simp (maxSteps:=1000000) (disch:=first | omega | decide) only [si,sf,simprocAttr,a217,a217R,h]
theorem valid_true (k:Nat) (hk:k < 256) (ds:List Dg) (hds:∀ x ∈ ds,x.ok) (hdl:ds.length ≤ 9223372036854775807) (a:Nat) (ha:a < 256) (N:Int) (hN:-128 ≤ N ∧ N ≤ 127) (l:List Int) (hl:l.length ≤ 9223372036854775807) (hl8:∀ x ∈ l,-128 ≤ x ∧ x ≤ 127)
    (w t:Nat) (hw:w ≤ 255) (ht:t ≤ 255) (f0 f1:Int) (h0:-128 ≤ f0 ∧ f0 ≤ 127) (h1:-128 ≤ f1 ∧ f1 ≤ 127) (H:Heap) :
    call E2 GP 222 [rawA k ds a N l,spA w t f0 f1] H = some (.bool true,H,false):=by
  obtain ⟨c,s,m,n,s2,m2,g,hm,hf,hn,g2,hm2,hf2,hmade⟩:=r29_made k hk ds hds hdl a ha N hN l hl hl8
  obtain ⟨e,e1,e2⟩:=fin_e hf
  obtain ⟨ea,ea1,ea2⟩:=fin_e hf2
  have t1:=Int.tmod_lt_of_pos N (show (0:Int) < 4 by omega)
  have t2:=Int.lt_tmod_of_pos N (show (0:Int) < 4 by omega)
  have hM:=hom_vm g hm e2 e1 l (N:=N.tmod 4) (by omega) hn g2
  have hb:=g.len11 hm
  have hkb:=g.ids64 hm
  have ha11:=g2.len11 hm2
  have hna:=idsC_nodup g2.ids
  generalize (hom c l (N.tmod 4)).take n = M at *
  generalize c.take n = a0 at *
  have hal:a0.length ≤ 11:=by simpa [idsC] using ha11
  have hml:M.length ≤ 11:=by have:=hM.cm.len; omega
  have hsm:SM (e + 170) M:=⟨hml,fun p hp=>⟨(hM.cm.gc p hp).bd,Nat.le_trans (hM.cm.gc p hp).len hb,fun q hq=>hkb _ ((hM.cm.gc p hp).key q hq)⟩,fun p hp=>by
    have:p.1 ∈ M.map (·.1):=List.mem_map_of_mem hp
    rw [hM.cm.ids] at this
    obtain ⟨y,hy,e⟩:=List.mem_map.1 this
    have:=g2.idr y hy
    omega⟩
  obtain ⟨M',bm,f1⟩:=r_spoilt hsm (by omega) w t hw ht f0 f1 h0 h1
  have bm0:=hsm.bm (Nat.le_refl _)
  have hx:(rawA k ds a N l).under 0 = true:=by simp [rawA,AV.under,AV.unders]
  have hxk:(rawA k ds a N l).known = true:=rfl
  have hxs:(rawA k ds a N l).size = 5:=by simp [rawA,AV.size,AV.sizes]
  have hxr:(rawA k ds a N l).hasRef = false:=by simp [rawA,AV.hasRef,AV.hasRefs]
  have hxa:(rawA k ds a N l).isA = true:=rfl
  have hmade:=fun H=>up (hmade H)
  generalize rawA k ds a N l = x at *
  have f1:=fun H=>up (f1 H)
  have hce:c.length ≤ 11:=by simpa [idsC] using hb
  have f2:=fun H=>up (r29_validG bm g2 g hm2 hm ea2 e2 (by omega) H)
  have f3:=fun H=>i_validG bm g2 g hm2 hm ea2 e2 (by omega) H
  have f4:=fun H=>up (r29_validG bm0 g g2 hm hm2 e2 ea2 (by omega) H)
  have f5:=fun H=>i_validG bm0 g g2 hm hm2 e2 ea2 (by omega) H
  have f6:=fun H=>up (r29_properG bm (by omega) H)
  have f7:∀ q:Int,∃ m:AV,m.known = true ∧ m.size = 3 ∧ ∀ H,call E2 GP 217 [.isl (a0.map cA),.isl (c.map cA),.isl (M'.map mA),.int .i64 q] H = some (.tup [m,.int .i64 (if decide (valM a0 c M') = true then 0 else 290)],H,false):=fun q=>by
    by_cases hv:valM a0 c M'
    · rw [decide_eq_true hv,if_pos rfl]
      exact ⟨_,rfl,rfl,fun H=>i_matrix (valM_vm bm g hv) g2 g hm2 hm ea2 e2 (by omega) q H⟩
    · rw [decide_eq_false hv,if_neg (by decide)]
      rw [decide_eq_false hv] at f3
      exact ⟨_,rfl,rfl,fun H=>i_matrix_bad q f3 H⟩
  have f8:=fun H=>i_composeG bm hM.cm hna ha11 hb hkb (by omega) H
  have himg:∀ id,Bd (2 ^ (e + 170)) (imgF M id) ∧ (imgF M id).length ≤ 11:=fun id=>⟨(hM.cm.img id).bd,Nat.le_trans (hM.cm.img id).len hb⟩
  have hlen:=bm.len
  have f9:=fun H=>up (r29_compose free1 M' M (2 ^ (e + 170 + 8)) (2 ^ (e + 170)) 11 (by omega) (by have:=hsm.len; omega) (fun p hp=>by
    obtain ⟨x1,x2,x3⟩:=bm.bd p hp
    refine ⟨by omega,x1,?_⟩
    rw [← Nat.pow_add,Nat.mul_assoc]
    exact mul_big (j := 9) (Nat.le_refl _) (by have : (11 + 1) * (p.2.length + 1) ≤ (11 + 1) * 25 := Nat.mul_le_mul_left _ (by omega)
                                               omega) (by omega)) himg (by omega) (pow5_big (by omega)) (pow5_big (by omega)) H)
  have hsc:SmM (compM M' M):=fun p hp=>by
    obtain ⟨q,hq,rfl⟩:=List.mem_map.1 hp
    obtain ⟨x1,x2,x3⟩:=bm.bd q hq
    obtain ⟨a1,a2⟩:=app_bd (imgF M) (2 ^ (e + 170 + 8)) (2 ^ (e + 170)) 11 himg x1
    have hA:2 ^ (e + 170 + 8) * 2 ^ (e + 170) * (11 * q.2.length) < BIG:=by
      rw [← Nat.pow_add]
      exact mul_big (j:=9) (Nat.le_refl _) (by omega) (by omega)
    exact ⟨fun z hz=>sm_of hA (a1 z hz),by simp only; omega⟩
  have f10:=fun H=>up (r29_same free1 (compM M' M) (compM M' M) hsc hsc (by simp [compM]; omega) H)
  have f11:=fun H=>up (r29_same free1 [] [] (fun p hp=>by cases hp) (fun p hp=>by cases hp) (by simp) H)
  simp only [decide_true] at f10 f11
  simp only [List.map_nil] at f11
  have hsan:=san29
  have et:(t:Int).tmod 4 = ((t % 4:Nat):Int):=by rw [Int.tmod_eq_emod_of_nonneg (by omega)]; omega
  have wt:IntKind.i64.wrap ((t % 4:Nat):Int) = ((t % 4:Nat):Int):=i64w (by omega)
  generalize t % 4 = q at et wt
  obtain ⟨m,m1,m2,f7⟩:=f7 q
  unfold spA at f1 ⊢
  generalize decide (valM a0 c M') = v at *
  generalize decide (valM c a0 M) = v2 at *
  generalize decide (propM M') = p at *
  rw [call_fun (E2_none (by decide) (by decide)) (f:=a222) rfl rfl]
  cases p with
  | false =>
    simp (maxSteps:=1000000) (disch:=first | omega | decide) only [si,sf,simprocAttr,a222,a222R,hmade,hsan,hxk,hxs,hxr,hxa,f1,f2,f3,f4,f5,f6,bne_self_eq_false]
  | true =>
    by_cases hp:∀ p ∈ M',∀ q ∈ p.2,(findM M q.1).isSome = true
    · rw [if_pos hp] at f8 f9
      generalize (compM M' M).map mA = Y at *
      cases v with
      | false =>
        simp only [Bool.false_eq_true,if_false] at f7
        simp (maxSteps:=1000000) (disch:=first | omega | decide) only [si,sf,simprocAttr,a222,a222R,hmade,hsan,hxk,hxs,hxr,hxa,et,wt,m1,m2,f1,f2,f3,f4,f5,f6,f7,f8,f9,f10,bne_self_eq_false]
      | true =>
        simp only [if_true] at f7
        simp (maxSteps:=1000000) (disch:=first | omega | decide) only [si,sf,simprocAttr,a222,a222R,hmade,hsan,hxk,hxs,hxr,hxa,et,wt,m1,m2,f1,f2,f3,f4,f5,f6,f7,f8,f9,f10,bne_self_eq_false]
    · rw [if_neg hp] at f8 f9
      cases v with
      | false =>
        simp only [Bool.false_eq_true,if_false] at f7
        simp (maxSteps:=1000000) (disch:=first | omega | decide) only [si,sf,simprocAttr,a222,a222R,hmade,hsan,hxk,hxs,hxr,hxa,et,wt,m1,m2,f1,f2,f3,f4,f5,f6,f7,f8,f9,f11,bne_self_eq_false]
      | true =>
        simp only [if_true] at f7
        simp (maxSteps:=1000000) (disch:=first | omega | decide) only [si,sf,simprocAttr,a222,a222R,hmade,hsan,hxk,hxs,hxr,hxa,et,wt,m1,m2,f1,f2,f3,f4,f5,f6,f7,f8,f9,f11,bne_self_eq_false]
def spS:Shp:=.agg [.int .u8,.int .u8,.agg [.int .i8,.int .i8]]
theorem fits_spS {y:AV} (h:Fits spS y):∃ (w t:Nat) (f0 f1:Int),y = spA w t f0 f1 ∧ w ≤ 255 ∧ t ≤ 255 ∧ (-128 ≤ f0 ∧ f0 ≤ 127) ∧ (-128 ≤ f1 ∧ f1 ≤ 127):=by
  simp only [spS,Fits,Fitss] at h
  obtain ⟨l,rfl,x,r,rfl,⟨w,rfl,hw⟩,x2,r2,rfl,⟨t,rfl,ht⟩,x3,r3,rfl,⟨l2,rfl,y1,s1,rfl,⟨f0,rfl,h0⟩,y2,s2,rfl,⟨f1,rfl,h1⟩,rfl⟩,rfl⟩:=h
  have hw:0 ≤ w ∧ w ≤ 255:=hw
  have ht:0 ≤ t ∧ t ≤ 255:=ht
  refine ⟨w.toNat,t.toNat,f0,f1,?_,by omega,by omega,h0,h1⟩
  unfold spA
  rw [Int.toNat_of_nonneg hw.1,Int.toNat_of_nonneg ht.1]
theorem law222 (xs:List AV) (h:Fitss [rS,spS] xs):call E2 GP 222 xs [] = some (.bool true,[],false):=by
  simp only [Fitss] at h
  obtain ⟨x,r,rfl,hx,y,s,rfl,hy,rfl⟩:=h
  obtain ⟨k,ds,a,N,l,rfl,hk,hds,hdl,ha,hN,hll,hl8⟩:=fits_rS hx
  obtain ⟨w,t,f0,f1,rfl,hw,ht,h0,h1⟩:=fits_spS hy
  exact valid_true k hk ds hds hdl a ha N hN l hll hl8 w t hw ht f0 f1 h0 h1 []
end Tor
namespace Tor
open Go Go.RowKit Go.ChangeShapes
def shpAll (P:Program):List TypeId → List Shp → Bool
  | [],[]=>true
  | t :: ts,s :: ss=>shpOk P t s && shpAll P ts ss
  | _,_=>false
theorem open_all {P:Program} {ι:Nat → FuncId} {w:World} {H:Type} {enc:TypeId × Value → H} {base b0:Nat} {spare:Nat → Bool} {held:Bool} {r:Reach} :
    ∀ (ss:List Shp) (ts:List TypeId) (vs:List Value) (ds:List (DataW H)) (ps:List MemPlace),shpAll P ts ss = true → (∀ (j:Nat) t v,ts[j]? = some t → vs[j]? = some v → Value.okWide P w r b0 t v) →
      DataW.TrodAll enc P w base spare held ts vs ds ps → ∃ xs,Fitss ss xs ∧ Rvs (Cx.init ι w) xs vs
  | [],[],vs,ds,ps,_,_,h=>by
    obtain ⟨rfl,_,_⟩:=trodAll_nil h
    exact ⟨[],rfl,.nil⟩
  | s :: ss,t :: ts,vs,ds,ps,hs,hv,h=>by
    simp only [shpAll,Bool.and_eq_true] at hs
    obtain ⟨v,vs',d,ds',p,q,rfl,rfl,rfl,h1,h2⟩:=trodAll_cons h
    obtain ⟨y,y1,y2⟩:=open_arg (ι:=ι) hs.1 (hv 0 t v rfl rfl) h1
    obtain ⟨xs,x1,x2⟩:=open_all ss ts vs' ds' q hs.2 (fun j t v ht hv'=>hv (j + 1) t v (by simpa using ht) (by simpa using hv')) h2
    exact ⟨y :: xs,by simp only [Fitss]; exact ⟨y,xs,rfl,y1,x1⟩,.cons y2 x2⟩
  | [],_ :: _,_,_,_,hs,_,_=>by cases hs
  | _ :: _,[],_,_,_,hs,_,_=>by cases hs
def rowed (P:Program) (t:TypeId):Bool:=P.readableRec t && decide (t < P.types.size)
theorem keep_all {P:Program} {H:Type} {enc:TypeId × Value → H} (hl:laidOutB P = true) {W W':World} (hb:Below W.heap.size W W') :
    ∀ (ts:List TypeId) (vs:List Value) (ds:List (DataW H)) (ps:List MemPlace),ts.all (rowed P) = true → (∀ x ∈ ps,x.block < W.heap.size) → DataW.TrodAll enc P W 0 (fun _=>true) true ts vs ds ps →
      DataW.TrodAll enc P W' 0 (fun b=>decide (b < W.heap.size)) true ts vs ds ps
  | [],vs,ds,ps,_,_,h=>by
    obtain ⟨rfl,rfl,rfl⟩:=trodAll_nil h
    exact trodAll_mk0
  | t :: ts,vs,ds,ps,ht,hp,h=>by
    simp only [List.all_cons,Bool.and_eq_true,rowed,decide_eq_true_eq] at ht
    obtain ⟨v,vs',d,ds',p,q,rfl,rfl,rfl,h1,h2⟩:=trodAll_cons h
    exact trodAll_cons_mk (Below.trod hl ht.1.1 ht.1.2 h1 hb fun x hx=>hp x (List.mem_append.2 (.inl hx)))
      (keep_all hl hb ts vs' ds' q (by simpa [rowed] using ht.2) (fun x hx=>hp x (List.mem_append.2 (.inr hx))) h2)
theorem places_lt {P:Program} {H:Type} {enc:TypeId × Value → H} {W:World} {ts:List TypeId} {vs:List Value} {ds:List (DataW H)} {ps:List MemPlace} {base:Nat} {spare:Nat → Bool} {held:Bool}
    (h:DataW.TrodAll enc P W base spare held ts vs ds ps):∀ x ∈ ps,x.block < W.heap.size:=h.lt
end Tor
