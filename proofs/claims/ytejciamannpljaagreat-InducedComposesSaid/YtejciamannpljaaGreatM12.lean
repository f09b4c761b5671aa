/-
  A part of the proof: an abstract machine for the program, its soundness, and what the functions compute (Reg3, Wp, Call, Main, Open, Fits, Law11, Law12, Mul1, Mul2, Gd7, Fl, In1, In2).
  Conditions: none.
-/
import Derived.Test.YtejciamannpljaaGreatM06
import Derived.Test.YtejciamannpljaaGreatM07
import Derived.Test.YtejciamannpljaaGreatM08
import Derived.Test.YtejciamannpljaaGreatM11
import Derived.Scope
import Derived.OpenShut
import Derived.ChangeOld
set_option linter.unusedSectionVars false
set_option linter.unusedVariables false
set_option linter.unusedSimpArgs false
set_option linter.defProp false
namespace Tor
open Go Go.RowKit
theorem dstSlot {k:Ck} (hnds:nodupB (k.slots ++ k.cells) = true) {ops aops p i o a} (h:opFits k ops aops p i o a = true) {q:Nat} {t:Tmp} (hd:o.dst = some t) (hq:k.slots[q]? = some t):a.dst = some q:=by
  have key:PD k o a → a.dst = some q:=by
    intro pd
    cases hda:a.dst with
    | none =>
      have:=pd.none t hd hda
      have h2:=List.mem_of_getElem? hq
      simp [h2] at this
    | some q' =>
      obtain ⟨t',h1,h2⟩:=pd.adst q' hda
      rw [hd] at h1; cases h1
      rw [slot_inj hnds h2 hq]
  rcases opFits_cases h with ⟨_,h⟩ | h
  · exact key (plainDst_pd hnds h)
  · unfold cellFits at h
    split at h
    · split at h
      · rename_i t' q' e1 e2
        rw [hd] at e1; cases e1
        simp only [Bool.and_eq_true] at h
        have:=slot_notCell hnds hq
        rw [cell_mem h.1.1.1.1] at this; cases this
      · cases h
    · split at h
      · rename_i t' q' e1 e2
        rw [hd] at e1; cases e1
        simp only [Bool.and_eq_true] at h
        have:=slot_notCell hnds hq
        rw [cell_mem h.1.1.1.1] at this; cases this
      · cases h
    · split at h
      · rename_i e1 _
        rw [hd] at e1; cases e1
      · cases h
    · split at h
      · simp only [Bool.and_eq_true] at h; exact key (plainDst_pd hnds h.2)
      · cases h
    · split at h
      · simp only [Bool.and_eq_true] at h; exact key (plainDst_pd hnds h.1.2)
      · cases h
    · simp only [Bool.and_eq_true] at h; exact key (plainDst_pd hnds h.2)
    · cases h
section
variable {k:Ck} {CF:CallF} {base ent:Nat} {C:Cx} {H0:Heap} {ops:List Oper} {aops:List AOper} {Lf:List AV} {hs:Nat → St} {p:Prec}
theorem RInv.start {st:St} {a:Act} (h0:hs 0 = st) (hsim:Sim base C st.heap) (hv:VOk k base ent C st.heap st.vars a):RInv k base ent C st.heap C ops aops Lf hs (fun _=>false) st.heap a:=by
  have hc:∀ q,cur aops Lf (hs 0).vars (fun _=>false) q aops.length = st.vars.getD q .u:=fun q=>by rw [cur_none _ (fun _ _ _ _ _=>rfl),h0]
  exact ⟨Step.refl hsim,⟨0,Nat.zero_le _,by rw [h0],fun j b _ _=>by simp⟩,fun j o t h=>(by cases h),fun q t hq _=>by rw [h0]; exact hv.rel q t hq,hv.size,hv.defers,
    fun q t hq=>by rw [hc]; exact hv.cell q t hq,fun q q' t t' hq hq' hne h1 h2=>by rw [hc] at h1 h2; exact hv.dist q q' t t' hq hq' hne h1 h2,fun j o b sty t f d q h=>(by cases h),hv.be,hv.es⟩
theorem cur_full {CF:CallF} (tr:∀ i o,aops[i]? = some o → stepAt CF o (Lf.take i) (hs i) (Lf.getD i .u) (hs (i + 1))) {S:Nat → Bool} (q:Nat) (hq:q < (hs 0).vars.length):∀ n,n ≤ aops.length → (∀ j,j < n → S j = true) → cur aops Lf (hs 0).vars S q n = (hs n).vars.getD q .u
  | 0,_,_=>rfl
  | n + 1,hn,hS=>by
    have ih:=cur_full tr q hq n (by omega) fun j hj=>hS j (by omega)
    have ho:aops[n]? = some aops[n]:=List.getElem?_eq_getElem (by omega)
    have hst:=tr n _ ho
    have hl:=(trace_vars tr q n (by omega)).1
    have hv:(hs (n + 1)).vars = match (aops[n]).dst with | some k=>(hs n).vars.set k (Lf.getD n .u) | none=>(hs n).vars:=by
      rcases hst with ⟨_,s1,a1,a2⟩ | ⟨_,a1,a2⟩
      · rw [a2,setVar_vars,aop_vars a1]; cases (aops[n]).dst <;> rfl
      · rw [a2,setVar_vars,a1]; cases (aops[n]).dst <;> rfl
    simp only [cur,ho]
    rw [hv]
    cases hd:(aops[n]).dst with
    | none=>simpa using ih
    | some k' =>
      by_cases hk:k' = q
      · subst hk
        rw [if_pos ⟨hS n (by omega),by simp⟩]
        simp [List.getD,hl,hq]
      · rw [if_neg (by rintro ⟨_,h⟩; simp at h; exact hk h),ih]
        simp [List.getD,hk]
theorem RInv.final {C':Cx} {S:Nat → Bool} {H:Heap} {a:Act} {st':St} (hnds:nodupB (k.slots ++ k.cells) = true) (hlen:ops.length = aops.length) (hp:PureC k.pureF CF)
    (tr:∀ i o,aops[i]? = some o → stepAt CF o (Lf.take i) (hs i) (Lf.getD i .u) (hs (i + 1)))
    (hin:∀ i o a,ops[i]? = some o → aops[i]? = some a → OpIn k ops aops p i o a) (hnd:dstsNodup ops = true) (h1:hs aops.length = st') (hl0:(hs 0).vars.length = k.slots.length + k.cells.length)
    (inv:RInv k base ent C H0 C' ops aops Lf hs S H a) (hS:∀ j,j < ops.length → S j = true):Step base ent C H0 C' st'.heap ∧ VOk k base ent C' st'.heap st'.vars a:=by
  obtain ⟨m,hm1,hm2,hm3⟩:=inv.hinv
  have hH:H = st'.heap:=by
    rw [hm2,← h1]
    have:=heap_const hp tr m (aops.length - m) (by omega) fun j b h1 h2 hb=>by
      cases hw:(clsOf k.pureF b.op).wr with
      | false=>rfl
      | true =>
        have:=(hm3 j b hb hw).1 (hS j (by rw [hlen]; exact (List.getElem?_eq_some_iff.1 hb).1))
        omega
    rw [show m + (aops.length - m) = aops.length by omega] at this
    exact this.symm
  have htv:=fun q=>trace_vars tr q aops.length (Nat.le_refl _)
  have hcv:∀ q t,k.cellIs q t = true → cur aops Lf (hs 0).vars S q aops.length = st'.vars.getD q .u:=by
    intro q t hq
    rw [cur_full tr q _ _ (Nat.le_refl _) fun j hj=>hS j (by omega),h1]
    obtain ⟨c1,c2⟩:=cellIs_iff hq
    have:=(List.getElem?_eq_some_iff.1 c2).1
    omega
  rw [← hH]
  refine ⟨inv.stp,⟨fun q t hq=>?_,inv.size,inv.defers,by rw [← h1,(htv 0).1,hl0],fun q t hq=>by rw [← hcv q t hq]; exact inv.cell q t hq,
    fun q q' t t' hq hq' hne k1 k2=>by rw [← hcv q t hq] at k1; rw [← hcv q' t' hq'] at k2; exact inv.dist q q' t t' hq hq' hne k1 k2,inv.be,Nat.le_trans inv.es inv.stp.below.4⟩⟩
  have hqs:q < k.slots.length:=(List.getElem?_eq_some_iff.1 hq).1
  have hql:q < (hs 0).vars.length:=by rw [hl0]; omega
  have hdst:∀ (j:Nat) (ao:AOper),aops[j]? = some ao → ao.dst = some q → ∃ o:Oper,ops[j]? = some o ∧ o.dst = some t:=by
    intro j ao hao hd
    have hjl:j < ops.length:=by rw [hlen]; exact (List.getElem?_eq_some_iff.1 hao).1
    have hoj:ops[j]? = some ops[j]:=List.getElem?_eq_getElem hjl
    obtain ⟨t',h2,h3⟩:=slotDst hnds (hin j _ ao hoj hao).op hd hqs
    rw [hq] at h3; cases h3
    exact ⟨_,hoj,h2⟩
  by_cases hex:∃ (j:Nat) (o:Oper),ops[j]? = some o ∧ o.dst = some t
  · obtain ⟨j,o,ho,hd⟩:=hex
    have hjl:j < ops.length:=(List.getElem?_eq_some_iff.1 ho).1
    have haj:aops[j]? = some aops[j]:=List.getElem?_eq_getElem (by omega)
    have hnc:=slot_notCell hnds hq
    have hdq:aops[j].dst = some q:=dstSlot hnds (hin j o _ ho haj).op hd hq
    have:=(htv q).2.2 j _ (by omega) haj hdq hql fun j' ao' hj' _ hao' hd'=>by
      obtain ⟨o',ho',hdo'⟩:=hdst j' ao' hao' hd'
      have:=dstsNodup_get hnd j j' o o' t ho ho' hd hdo'
      omega
    rw [← h1,this]
    exact inv.tmp j o t (hS j hjl) ho hd hnc
  · have:=(htv q).2.1 fun j ao hj hao hd=>by
      obtain ⟨o,ho,hdo⟩:=hdst j ao hao hd
      exact hex ⟨j,o,ho,hdo⟩
    rw [← h1,this]
    exact inv.slot q t hq fun j o _ ho hd=>hex ⟨j,o,ho,hd⟩
theorem text_ok {Q:Exit → Act → World → Prop} (hC:SoundC k.P k.ι CF) (hp:PureC k.pureF CF) (hι:C.ι = k.ι) (hlen:ops.length = aops.length)
    (tr:∀ i o,aops[i]? = some o → stepAt CF o (Lf.take i) (hs i) (Lf.getD i .u) (hs (i + 1)))
    (hin:∀ i o a,ops[i]? = some o → aops[i]? = some a → OpIn k ops aops ⟨false,[]⟩ i o a) (hnd:dstsNodup ops = true) (hnds:nodupB (k.slots ++ k.cells) = true)
    (hQ:∀ a' C' H S,RInv k base ent C H0 C' ops aops Lf hs S H a' → (∀ j,j < ops.length → S j = true) → Q .normal a' C'.w) :
    ∀ d m a C' H,d + m = ops.length → RInv k base ent C H0 C' ops aops Lf hs (fun j=>decide (j < m)) H a → wpOps k.P ops.toArray Q (List.range' m d) a C'.w:=by
  intro d
  induction d with
  | zero =>
    intro m a C' H hm inv
    exact hQ _ _ _ _ inv fun j hj=>by simp; omega
  | succ d ih =>
    intro m a C' H hm inv
    rw [List.range'_succ,wpOps_cons]
    refine region_step hC hp hι hlen tr hin hnd hnds inv (by omega) (by simp) ?_ ?_ ?_ fun a' C'' H' inv'=>ih (m + 1) a' C'' H' (by omega) ?_
    · intro j hj
      simp only [Prec.lt,Bool.false_eq_true,if_false,Nat.blt_eq] at hj
      exact ⟨by simpa using hj,hj⟩
    · intro j hj _ j' hj'
      simp only [Prec.lt,Bool.false_eq_true,if_false,Nat.blt_eq] at hj'
      simp only [decide_eq_true_eq] at hj ⊢
      omega
    · intro j _ j' hj'
      simpa only [Prec.lt,Bool.false_eq_true,if_false,Nat.blt_eq] using hj'
    · have:(fun j=>j == m || decide (j < m)) = fun j=>decide (j < m + 1):=by
        funext j
        by_cases h:j = m
        · subst h; simp
        · have:(j == m) = false:=by simpa using h
          rw [this,Bool.false_or]
          by_cases h':j < m <;> simp [h'] <;> omega
      rw [← this]; exact inv'
theorem ready_iff {ops:List Oper} {listed:Array Bool} (hsz:listed.size = ops.length) (j:Nat) :
    j ∈ Region.ready .any ops.toArray listed ↔ ∃ o,ops[j]? = some o ∧ listed.getD j false = false ∧ ∀ e ∈ edgesOf o,listed.getD e false = true:=by
  rw [mem_ready]
  have hgd:j < ops.length → listed.getD j true = listed.getD j false:=by
    intro hj
    have hlt:j < listed.size:=by omega
    simp [Array.getD_eq_getD_getElem?,hlt]
  have key:∀ o:Oper,(∀ e ∈ o.after,Region.binds .any e = true → listed.getD e.on false = true) ↔ ∀ e ∈ edgesOf o,listed.getD e false = true:=by
    intro o
    simp only [edgesOf,List.mem_map,List.mem_filter,Array.mem_toList_iff]
    constructor
    · rintro h e ⟨x,⟨hx,hb⟩,rfl⟩; exact h x hx hb
    · intro h x hx hb; exact h _ ⟨x,⟨hx,hb⟩,rfl⟩
  constructor
  · rintro ⟨h1,o,ho,h2⟩
    have ho':ops[j]? = some o:=by simpa using ho
    exact ⟨o,ho',(hgd (List.getElem?_eq_some_iff.1 ho').1) ▸ h1,(key o).1 h2⟩
  · rintro ⟨o,ho,h1,h2⟩
    exact ⟨(hgd (List.getElem?_eq_some_iff.1 ho).1).trans h1,o,by simpa using ho,(key o).2 h2⟩
def cnt (S:Nat → Bool):Nat → Nat
  | 0=>0
  | n + 1=>cnt S n + if S n then 0 else 1
theorem cnt_zero {S:Nat → Bool}:∀ n,cnt S n = 0 → ∀ j,j < n → S j = true
  | 0,_,j,h=>by omega
  | n + 1,h,j,hj=>by
    simp only [cnt] at h
    have h1:cnt S n = 0:=by omega
    have h2:S n = true:=by
      cases hS:S n with
      | true=>rfl
      | false=>rw [hS] at h; simp at h
    by_cases hjn:j = n
    · subst hjn; exact h2
    · exact cnt_zero n h1 j (by omega)
theorem cnt_put {S:Nat → Bool} {i:Nat} (hi:S i = false):∀ n,cnt (fun j=>j == i || S j) n + (if i < n then 1 else 0) = cnt S n
  | 0=>by simp [cnt]
  | n + 1=>by
    have ih:=cnt_put hi n
    simp only [cnt]
    by_cases hin:i = n
    · subst hin
      simp only [beq_self_eq_true,Bool.true_or,if_true,hi]
      have:¬ i < i:=Nat.lt_irrefl i
      rw [if_neg this] at ih
      simp; omega
    · have hb:(n == i) = false:=by simpa using fun e=>hin e.symm
      simp only [hb,Bool.false_or]
      by_cases hlt:i < n
      · have hlt':i < n + 1:=by omega
        simp only [hlt,hlt',if_true] at ih ⊢
        omega
      · have hlt':¬ i < n + 1:=by omega
        simp only [hlt,hlt',if_false] at ih ⊢
        omega
theorem draw_ok {Q:Exit → Act → World → Prop} {ms:List Nat} (hC:SoundC k.P k.ι CF) (hp:PureC k.pureF CF) (hι:C.ι = k.ι) (hlen:ops.length = aops.length)
    (tr:∀ i o,aops[i]? = some o → stepAt CF o (Lf.take i) (hs i) (Lf.getD i .u) (hs (i + 1)))
    (hin:∀ i o a,ops[i]? = some o → aops[i]? = some a → OpIn k ops aops ⟨true,ms⟩ i o a) (hnd:dstsNodup ops = true) (hnds:nodupB (k.slots ++ k.cells) = true) (hms:masksOk ms 0 ops = true)
    (hQ:∀ a' C' H S,RInv k base ent C H0 C' ops aops Lf hs S H a' → (∀ j,j < ops.length → S j = true) → Q .normal a' C'.w) :
    ∀ fuel (listed:Array Bool) (S:Nat → Bool) a C' H,listed.size = ops.length → (∀ j,listed.getD j false = S j) → cnt S ops.length ≤ fuel → Closed ops S →
      RInv k base ent C H0 C' ops aops Lf hs S H a → wpAny k.P .any ops.toArray Q fuel listed a C'.w:=by
  intro fuel
  induction fuel with
  | zero =>
    intro listed S a C' H hsz hS hf hcl inv
    have hall:=cnt_zero (S:=S) ops.length (by omega)
    refine ⟨?_,hQ _ _ _ _ inv hall⟩
    apply List.eq_nil_iff_forall_not_mem.2
    intro j hj
    obtain ⟨o,ho,h1,_⟩:=(ready_iff hsz j).1 hj
    rw [hS,hall j (List.getElem?_eq_some_iff.1 ho).1] at h1; cases h1
  | succ fuel ih =>
    intro listed S a C' H hsz hS hf hcl inv
    refine ⟨fun hr=>?_,fun i hi=>?_⟩
    · refine hQ _ _ _ _ inv fun j=>?_
      induction j using Nat.strongRecOn with
      | _ j ihj =>
        intro hj
        cases hSj:S j with
        | true=>rfl
        | false =>
          have hoj:ops[j]? = some ops[j]:=List.getElem?_eq_getElem hj
          have:j ∈ Region.ready .any ops.toArray listed:=by
            refine (ready_iff hsz j).2 ⟨_,hoj,by rw [hS]; exact hSj,fun e he=>?_⟩
            have hlt:=(masksOk_get hms j _ hoj).2 e he
            rw [Nat.zero_add] at hlt
            rw [hS]; exact ihj e hlt (by omega)
          rw [hr] at this; cases this
    · obtain ⟨o,hoi,hiS,hie⟩:=(ready_iff hsz i).1 hi
      have hil:i < ops.length:=(List.getElem?_eq_some_iff.1 hoi).1
      rw [hS] at hiS
      have hie:∀ e ∈ edgesOf o,S e = true:=fun e he=>by rw [← hS]; exact hie e he
      have hltp:∀ j,j < ops.length → ∀ j',(⟨true,ms⟩:Prec).lt j' j = true → j' < j:=by
        intro j hj j' hlt
        have hoj:ops[j]? = some ops[j]:=List.getElem?_eq_getElem hj
        exact (mask_in hms (S:=fun _=>true) (fun _ _ _ _ _ _=>rfl) j j _ (Nat.le_refl _) hoj (fun _ _=>rfl) j' (by simpa [Prec.lt] using hlt)).2
      refine region_step hC hp hι hlen tr hin hnd hnds inv hil hiS ?_ ?_ hltp fun a' C'' H' inv'=>ih _ (fun j=>j == i || S j) a' C'' H' (by simpa using hsz) ?_ ?_ ?_ inv'
      · intro j hj
        exact mask_in hms hcl i i _ (Nat.le_refl _) hoi hie j (by simpa [Prec.lt] using hj)
      · intro j hSj hjl j' hj'
        have hoj:ops[j]? = some ops[j]:=List.getElem?_eq_getElem hjl
        exact mask_in hms hcl j j _ (Nat.le_refl _) hoj (hcl j _ hSj hoj) j' (by simpa [Prec.lt] using hj')
      · intro j
        by_cases hji:j = i
        · subst hji
          have:j < listed.size:=by omega
          simp [Array.getD_eq_getD_getElem?,this]
        · rw [getD_set_ne false (fun e=>hji e.symm),hS]
          have:(j == i) = false:=by simpa using hji
          rw [this,Bool.false_or]
      · have:=cnt_put hiS ops.length
        rw [if_pos hil] at this
        omega
      · intro j oj hSj hoj e he
        simp only [Bool.or_eq_true,beq_iff_eq] at hSj ⊢
        rcases hSj with rfl | hSj
        · rw [hoi] at hoj; cases hoj; exact .inr (hie e he)
        · exact .inr (hcl j oj hSj hoj e he)
end
theorem Sim.redrawn {base ent:Nat} {C:Cx} {H:Heap} (hs:Sim base C H) (d:Nat) (he:ent ≤ C.w.heap.size):Step base ent C H { C with w:={ C.w with drawn:=d } } H :=
  grow_step hs (w':={ C.w with drawn:=d }) ⟨rfl,rfl,rfl,Nat.le_refl _,fun _ _=>rfl⟩ he
theorem VOk.step {k:Ck} {base ent:Nat} {C C':Cx} {H:Heap} {vars:List AV} {a:Act} (h:VOk k base ent C H vars a) (hst:OStep base C H C' H):VOk k base ent C' H vars a :=
  ⟨fun j t hj=>Rv_le hst.le (h.rel j t hj),h.size,h.defers,h.len,fun q t hq=>(h.cell q t hq).step hst,h.dist,h.be,Nat.le_trans h.es hst.below.4⟩
theorem region_ok {k:Ck} {CF:CallF} {base ent:Nat} {C:Cx} {ops:List Oper} {aops:List AOper} {draw:Bool} {st st':St} {a:Act} {id:Nat} {Q:Exit → Act → World → Prop}
    (hC:SoundC k.P k.ι CF) (hp:PureC k.pureF CF) (hι:C.ι = k.ι) (hnds:nodupB (k.slots ++ k.cells) = true) (hok:regionOk k ops draw aops = true)
    (h:evalOps CF aops [] st = some st') (hsim:Sim base C st.heap) (hv:VOk k base ent C st.heap st.vars a)
    (hQ:∀ a' C',Step base ent C st.heap C' st'.heap → VOk k base ent C' st'.heap st'.vars a' → Q .normal a' C'.w):(Code.region id ops.toArray draw).wp k.P Q a C.w:=by
  unfold regionOk at hok
  simp only [Bool.and_eq_true] at hok
  obtain ⟨⟨hdr,hnd⟩,hin⟩:=hok
  obtain ⟨hlen,hin⟩:=opsIn_get hin
  obtain ⟨Lf,hs,h0,h1,_,_,tr⟩:=evalOps_trace CF aops [] st st' h
  simp only [List.length_nil,Nat.zero_add] at tr hin
  have hl0:(hs 0).vars.length = k.slots.length + k.cells.length:=by rw [h0]; exact hv.len
  cases draw with
  | false =>
    refine wp_region ?_
    rw [List.size_toArray,List.range_eq_range']
    refine text_ok hC hp hι hlen tr hin hnd hnds (fun a' C' H S inv hS=>?_) ops.length 0 a C st.heap (by omega) (by simpa using RInv.start h0 hsim hv)
    obtain ⟨e1,e2⟩:=inv.final hnds hlen hp tr hin hnd h1 hl0 hS
    exact hQ a' C' e1 e2
  | true =>
    simp only [Bool.not_true,Bool.false_or,Bool.and_eq_true,if_true] at hdr hin
    obtain ⟨⟨hms,hfol⟩,_⟩:=hdr
    refine wp_region_any hfol ?_
    have hst:=hsim.redrawn (C.w.drawn + 1) hv.es
    have hst':=hsim.redrawn (C.w.drawn + 1) (Nat.le_refl C.w.heap.size)
    refine draw_ok (base:=base) (ent:=ent) (C:={ C with w:={ C.w with drawn:=C.w.drawn + 1 } }) hC hp hι hlen tr hin hnd hnds hms (fun a' C' H S inv hS=>?_) _ _ (fun _=>false) a _ st.heap (by simp) (fun j=>?_) ?_ (fun _ _ h=>by cases h) (RInv.start h0 hst.sim (hv.step hst'))
    · obtain ⟨e1,e2⟩:=inv.final hnds hlen hp tr hin hnd h1 hl0 hS
      exact hQ a' C' (hst.trans e1) e2
    · simp only [Array.getD_eq_getD_getElem?,Array.getElem?_replicate]
      split <;> rfl
    · have:∀ n,cnt (fun _=>false) n ≤ n:=by
        intro n
        induction n with
        | zero=>exact Nat.le_refl _
        | succ n ih=>simp only [cnt]; simp; omega
      simpa using this ops.length
end Tor
namespace Tor
open Go Go.RowKit
def opdOut (k:Ck):Operand → AOpd → Bool
  | .tmp t,.v j=>slotIs k.slots j t
  | .const v,.c x=>constOk x v
  | _,_=>false
def codeOk (k:Ck):Code → AIR → Bool
  | .skip,.skip=>true
  | .region _ ops draw,.region aops draw'=>draw == draw' && regionOk k ops.toList draw (aops ())
  | .seq a b,.seq x y=>codeOk k a x && codeOk k b y
  | .cond c a b,.cond c' x y=>opdOut k c c' && codeOk k a x && codeOk k b y
  | .block i a,.block j x=>i == j && codeOk k a x
  | .loop a,.loop _ _ x=>codeOk k a x
  | .exit i,.exit j=>i == j
  | .scope a,.scope x=>codeOk k a x
  | .label _,.label _=>true
  | .ret,.ret=>true
  | _,_=>false
def exOf:Ex → Exit
  | .normal=>.normal
  | .exit j=>.exit j
  | .ret=>.ret
def Post (k:Ck) (base ent:Nat) (C:Cx) (H:Heap) (e:Ex) (st':St) (Q:Exit → Act → World → Prop):Prop :=
  ∀ a' C',Step base ent C H C' st'.heap → VOk k base ent C' st'.heap st'.vars a' → Q (exOf e) a' C'.w
def LW (P:Program) (c:Code) (Q:Exit → Act → World → Prop) (a:Act) (w:World):Prop :=
  ∀ (b:Frame) (k:List Item) (cs:List Frame),∃ e a' w',Q e a' w' ∧ Arrives P (lone (b.at a (.code c :: .inLoop c :: k)) cs w) b k cs e a' w'
theorem LW.loop {P:Program} {c:Code} {Q:Exit → Act → World → Prop} {a:Act} {w:World} (h:LW P c Q a w):(Code.loop c).wp P Q a w:=by
  intro b k cs
  obtain ⟨e,a',w',hq,harr⟩:=h b k cs
  exact ⟨e,a',w',hq,.of_steps (.one step_loop) harr⟩
theorem LW.round {P:Program} {c:Code} {Q:Exit → Act → World → Prop} {a:Act} {w:World} (h:c.wp P (Exit.then (LW P c Q) Q) a w):LW P c Q a w:=by
  intro b k cs
  obtain ⟨e,a₁,w₁,hq,harr⟩:=h b (.inLoop c :: k) cs
  cases e with
  | normal =>
    obtain ⟨e₂,a₂,w₂,hq₂,harr₂⟩:=hq b k cs
    exact ⟨e₂,a₂,w₂,hq₂,.of_steps (Steps.trans harr (.one step_inLoop)) harr₂⟩
  | exit id=>exact ⟨_,a₁,w₁,hq,.pass (x:=.inLoop c) rfl (fun _ _=>.inl (by simp)) harr⟩
  | goto l=>exact ⟨_,a₁,w₁,hq,.pass (x:=.inLoop c) rfl (fun _ _=>.inl (by simp)) harr⟩
  | ret=>exact ⟨_,a₁,w₁,hq,.pass (x:=.inLoop c) rfl (fun _ _=>.inl (by simp)) harr⟩
  | panic ch=>exact ⟨_,a₁,w₁,hq,.pass (x:=.inLoop c) rfl (fun _ _=>.inl (by simp)) harr⟩
  | outgrown=>exact ⟨_,a₁,w₁,hq,.pass (x:=.inLoop c) rfl (fun _ _=>.inl (by simp)) harr⟩
structure RS (k:Ck) (R:AIR → St → Option (Ex × St)):Prop where
  wp:∀ air code st e st',codeOk k code air = true → R air st = some (e,st') → ∀ base ent C a,C.ι = k.ι → Sim base C st.heap → VOk k base ent C st.heap st.vars a →
    ∀ Q,Post k base ent C st.heap e st' Q → code.wp k.P Q a C.w
  loop:∀ gc keep x body st e st',codeOk k body x = true → R (.loop gc keep x) st = some (e,st') → ∀ base ent C a,C.ι = k.ι → Sim base C st.heap → VOk k base ent C st.heap st.vars a →
    ∀ Q,Post k base ent C st.heap e st' Q → LW k.P body Q a C.w
theorem scrubV_length (n0:Nat) (gc:Bool) (keep:List Nat):∀ (l:List AV) (i:Nat),(scrubV n0 gc keep i l).length = l.length
  | [],_=>rfl
  | x :: l,i=>by simp only [scrubV,List.length_cons,scrubV_length n0 gc keep l (i + 1)]
theorem scrubV_get (n0:Nat) (gc:Bool) (keep:List Nat):∀ (l:List AV) (i j:Nat),
    (scrubV n0 gc keep i l).getD j .u = .u ∨ ((scrubV n0 gc keep i l).getD j .u = l.getD j .u ∧ (gc = true → (l.getD j .u).under n0 = true))
  | [],_,_=>.inl rfl
  | x :: l,i,0=>by
    simp only [scrubV,List.getD_cons_zero]
    split
    · split
      · exact .inl rfl
      · rename_i h
        refine .inr ⟨rfl,fun hg=>?_⟩
        subst hg
        simpa using h
    · exact .inl rfl
  | x :: l,i,j + 1=>by
    simp only [scrubV,List.getD_cons_succ]
    exact scrubV_get n0 gc keep l (i + 1) j
theorem Step.dropTo {base ent:Nat} {C C1 C2:Cx} {H H1:Heap} (hs:Sim base C H) (h:Step base ent C H C1 H1) (hu:HUnder H.length H1) (hl:LeU H.length C1 C2) (hw:C2.w = C1.w)
    (hβ:∀ o g,C2.β o g = if o < H.length then C1.β o g else none) (hF:∀ b,C2.F b → C1.F b ∨ ∃ o ob,H.length ≤ o ∧ H1[o]? = some ob ∧ blk C1 o ob = some b) :
    Step base ent C H C2 (H1.take H.length):=by
  have hlt:∀ o g q,C.β o g = some q → o < H.length:=by
    intro o g q h1
    by_cases ho:o < H.length
    · exact ho
    · rw [hs.dom o (by omega) g] at h1; cases h1
  refine ⟨⟨hl.ι.trans h.le.ι,fun b hb=>hl.F b (h.le.F b hb),fun o g q hq=>hl.β o g q (hlt o g q hq) (h.le.β o g q hq),fun b hb=>(hl.mem b (h.le.F b hb)).trans (h.le.mem b hb),fun b s hs1=>hl.shp b s (h.le.shp b s hs1)⟩,
    h.sim.drop hl hw hβ hu hF,by rw [hw]; exact h.below,fun b hb=>?_,fun b hb hFb hno=>?_⟩
  · rcases hF b hb with hb | ⟨o,ob,_,h1,h2⟩
    · exact h.fgr b hb
    · exact .inr (blk_heap (h.sim.obj o ob h1).1 h2).1
  · obtain ⟨p1,p2,p3⟩:=h.priv b hb hFb hno
    refine ⟨by rw [hw]; exact p1,fun hF2=>?_,fun o ob ho hbk=>?_⟩
    · rcases hF b hF2 with hF2 | ⟨o,ob,_,h1,h2⟩
      · exact p2 hF2
      · exact p3 o ob h1 h2
    · obtain ⟨ho1,ho2⟩:=take_get ho
      have:blk C2 o ob = blk C1 o ob:=by cases ob <;> simp [blk,hβ,ho1]
      rw [this] at hbk
      exact p3 o ob ho2 hbk
theorem clean_ok {k:Ck} {base ent:Nat} {C C1:Cx} {st st1 st2:St} {gc:Bool} {keep:List Nat} {a:Act} (hs:Sim base C st.heap) (h1:Step base ent C st.heap C1 st1.heap) (hv:VOk k base ent C1 st1.heap st1.vars a)
    (hk:st1.rs = false → Keeps st.heap st1.heap) (h:clean st.heap.length gc keep st1 = some st2):∃ C2,C2.w = C1.w ∧ Step base ent C st.heap C2 st2.heap ∧ VOk k base ent C2 st2.heap st2.vars a:=by
  unfold clean at h
  split at h
  · cases h
  · rename_i hg
    cases h
    have hdist:∀ q q' t t',k.cellIs q t = true → k.cellIs q' t' = true → q ≠ q' → ((scrubV st.heap.length gc keep 0 st1.vars).getD q .u).known = true → ((scrubV st.heap.length gc keep 0 st1.vars).getD q' .u).known = true → a.tmps.getD t undef ≠ a.tmps.getD t' undef:=by
      intro q q' t t' hq hq' hne k1 k2
      rcases scrubV_get st.heap.length gc keep st1.vars 0 q with e | ⟨e,_⟩
      · rw [e] at k1; cases k1
      · rcases scrubV_get st.heap.length gc keep st1.vars 0 q' with e' | ⟨e',_⟩
        · rw [e'] at k2; cases k2
        · rw [e] at k1; rw [e'] at k2
          exact hv.dist q q' t t' hq hq' hne k1 k2
    cases gc with
    | false =>
      refine ⟨C1,rfl,h1,⟨fun j t hj=>?_,hv.size,hv.defers,by rw [scrubV_length]; exact hv.len,fun q t hq=>?_,hdist,hv.be,hv.es⟩⟩
      · rcases scrubV_get st.heap.length false keep st1.vars 0 j with e | ⟨e,_⟩
        · rw [e]; exact .inl (.inl rfl)
        · rw [e]; exact hv.rel j t hj
      · rcases scrubV_get st.heap.length false keep st1.vars 0 q with e | ⟨e,_⟩
        · rw [e]; exact .inl rfl
        · rw [e]; exact hv.cell q t hq
    | true =>
      have hrs:st1.rs = false:=by simpa using hg
      have hu:HUnder st.heap.length st1.heap:=(hk hrs).2 _ (Nat.le_refl _) (HUnder_sim hs)
      have hl:=leU_cut C1 st.heap.length
      refine ⟨C1.cut st.heap.length,rfl,h1.dropTo hs hu hl rfl (fun _ _=>rfl) (fun b hb=>.inl hb),⟨fun j t hj=>?_,hv.size,hv.defers,by rw [scrubV_length]; exact hv.len,fun q t hq=>?_,hdist,hv.be,hv.es⟩⟩
      · rcases scrubV_get st.heap.length true keep st1.vars 0 j with e | ⟨e,e2⟩
        · rw [e]; exact .inl (.inl rfl)
        · rw [e]; exact Rv_leU hl (e2 rfl) (hv.rel j t hj)
      · rcases scrubV_get st.heap.length true keep st1.vars 0 q with e | ⟨e,e2⟩
        · rw [e]; exact .inl rfl
        · rw [e]
          rcases hv.cell q t hq with h | ⟨b,c,e1,q1,q2,q3,q4⟩
          · exact .inl h
          · refine .inr ⟨b,c,e1,q1,q2,Rc_leU hl _ _ (e2 rfl) q3,q4.base,q4.ent,q4.F,fun o ob ho hbk=>?_⟩
            obtain ⟨ho1,ho2⟩:=take_get ho
            have:blk (C1.cut st.heap.length) o ob = blk C1 o ob:=by cases ob <;> simp [blk,Cx.cut,ho1]
            rw [this] at hbk
            exact q4.no o ob ho2 hbk
section
variable {k:Ck} {CF:CallF} {R:AIR → St → Option (Ex × St)}
theorem opdOut_ok {base ent:Nat} {C:Cx} {H:Heap} {vars:List AV} {a:Act} {x:Operand} {y:AOpd} (h:opdOut k x y = true) (hv:VOk k base ent C H vars a):Rv C (ev [] vars y) (a.eval x):=by
  unfold opdOut at h
  split at h
  · exact hv.rel _ _ (slotIs_iff h)
  · exact constOk_ok h C
  · cases h
theorem stepRun_ok (hC:SoundC k.P k.ι CF) (hp:PureC k.pureF CF) (hnds:nodupB (k.slots ++ k.cells) = true) (hK:RKeeps R) (hR:RS k R):RS k (stepRun CF R):=by
  have hloop:∀ gc keep x body st e st',codeOk k body x = true → stepRun CF R (.loop gc keep x) st = some (e,st') → ∀ base ent C a,C.ι = k.ι → Sim base C st.heap → VOk k base ent C st.heap st.vars a →
      ∀ Q,Post k base ent C st.heap e st' Q → LW k.P body Q a C.w:=by
    intro gc keep x body st e st' hok h base ent C a hι hs hv Q hQ
    simp only [stepRun] at h
    cases hr:R x { vars:=st.vars,heap:=st.heap,rs:=false } with
    | none=>rw [hr] at h; cases h
    | some q =>
      obtain ⟨e1,st1⟩:=q
      rw [hr] at h
      have hkeep:st1.rs = false → Keeps st.heap st1.heap:=fun hrs=>(hK _ _ _ _ hr hrs).2
      refine LW.round (hR.wp x body _ _ _ hok hr base ent C a hι hs hv _ fun a' C1 hst1 hv1=>?_)
      cases e1 with
      | normal =>
        simp only [loopK] at h
        cases hcl:clean st.heap.length gc keep st1 with
        | none=>rw [hcl] at h; cases h
        | some st2 =>
          rw [hcl] at h
          simp only [loopC] at h
          obtain ⟨C2,hw2,hst2,hv2⟩:=clean_ok hs hst1 hv1 hkeep hcl
          show LW k.P body Q a' C1.w
          rw [← hw2]
          exact hR.loop gc keep x body (orRs st.rs st2) e st' hok h base ent C2 a' (hst2.le.ι.trans hι) hst2.sim hv2 Q fun a'' C'' hst'' hv''=>hQ a'' C'' (hst2.trans hst'') hv''
      | exit j=>simp only [loopK] at h; cases h; exact hQ a' C1 hst1 hv1
      | ret=>simp only [loopK] at h; cases h; exact hQ a' C1 hst1 hv1
  refine ⟨?_,hloop⟩
  intro air code st e st' hok h base ent C a hι hs hv Q hQ
  unfold codeOk at hok
  split at hok
  · cases h; exact wp_skip (hQ a C (Step.refl hs) hv)
  · rename_i id ops draw aops draw'
    simp only [Bool.and_eq_true,beq_iff_eq] at hok
    obtain ⟨rfl,hok⟩:=hok
    simp only [stepRun] at h
    obtain ⟨st1,h1,e1⟩:=regionK_inv h
    cases e1
    have:=region_ok (Q:=Q) (id:=id) hC hp hι hnds hok h1 hs hv fun a' C' hst hv'=>hQ a' C' hst hv'
    simpa using this
  · rename_i p q x y
    simp only [Bool.and_eq_true] at hok
    simp only [stepRun] at h
    cases hr:R x st with
    | none=>rw [hr] at h; cases h
    | some r =>
      obtain ⟨e1,st1⟩:=r
      rw [hr] at h
      refine wp_seq (hR.wp x p _ _ _ hok.1 hr base ent C a hι hs hv _ fun a' C1 hst1 hv1=>?_)
      cases e1 with
      | normal =>
        simp only [seqK] at h
        exact hR.wp y q _ _ _ hok.2 h base ent C1 a' (hst1.le.ι.trans hι) hst1.sim hv1 Q fun a'' C'' hst'' hv''=>hQ a'' C'' (hst1.trans hst'') hv''
      | exit j=>simp only [seqK] at h; cases h; exact hQ a' C1 hst1 hv1
      | ret=>simp only [seqK] at h; cases h; exact hQ a' C1 hst1 hv1
  · rename_i c p q c' x y
    simp only [Bool.and_eq_true] at hok
    obtain ⟨⟨h1,h2⟩,h3⟩:=hok
    simp only [stepRun] at h
    have hc:=opdOut_ok h1 hv
    generalize ev [] st.vars c' = X at h hc
    cases X <;> try (cases h; done)
    rename_i b
    have hb:=Rv_bool hc
    cases b with
    | true=>exact wp_cond_true hb (hR.wp x p _ _ _ h2 h base ent C a hι hs hv Q hQ)
    | false=>exact wp_cond_false hb (hR.wp y q _ _ _ h3 h base ent C a hι hs hv Q hQ)
  · rename_i i p j x
    simp only [Bool.and_eq_true,beq_iff_eq] at hok
    obtain ⟨rfl,h2⟩:=hok
    simp only [stepRun] at h
    cases hr:R x st with
    | none=>rw [hr] at h; cases h
    | some r =>
      obtain ⟨e1,st1⟩:=r
      rw [hr] at h
      refine wp_block (hR.wp x p _ _ _ h2 hr base ent C a hι hs hv _ fun a' C1 hst1 hv1=>?_)
      cases e1 with
      | normal=>simp only [blockK] at h; cases h; exact hQ a' C1 hst1 hv1
      | ret=>simp only [blockK] at h; cases h; exact hQ a' C1 hst1 hv1
      | exit j =>
        simp only [blockK] at h
        split at h
        · rename_i hj
          cases h
          simp only [exOf,Exit.inBlock,hj,if_true]
          exact hQ a' C1 hst1 hv1
        · rename_i hj
          cases h
          simp only [exOf,Exit.inBlock,hj,if_false]
          exact hQ a' C1 hst1 hv1
  · exact (hloop _ _ _ _ st e st' hok h base ent C a hι hs hv Q hQ).loop
  · rename_i i j
    simp only [beq_iff_eq] at hok
    subst hok
    cases h
    exact wp_exit (hQ a C (Step.refl hs) hv)
  · rename_i p x
    simp only [stepRun] at h
    refine wp_scope_straight (hR.wp x p _ _ _ hok h base ent C a hι hs hv _ fun a' C1 hst1 hv1=>?_)
    have:=hQ a' C1 hst1 hv1
    cases e <;> exact this
  · cases h; exact wp_label (hQ a C (Step.refl hs) hv)
  · cases h; exact wp_ret (hQ a C (Step.refl hs) hv)
  · cases hok
end
end Tor
namespace Tor
open Go Go.RowKit
def resOk (k:Ck):ResultVar → ARes → Bool
  | .tmp t,.v j=>slotIs k.slots j t
  | .cell t ty,.cell j ag sz=>slotIs k.slots j t && aggB k.P ty == some ag && sizeB k.P ty == some sz
  | .cell t ty,.c q ag sz=>k.cellIs q t && aggB k.P ty == some ag && sizeB k.P ty == some sz
  | _,_=>false
def ressOk (k:Ck):List ResultVar → List ARes → Bool
  | [],[]=>true
  | r :: l,x :: m=>resOk k r x && ressOk k l m
  | _,_=>false
def isRange:Nat → List Tmp → Nat → Bool
  | _,_,0=>true
  | _,[],_ + 1=>false
  | i,t :: l,n + 1=>t == i && isRange (i + 1) l n
def funOk (k:Ck) (fn:Func) (f:AFun):Bool :=
  (match fn.body with
    | some c=>codeOk k c f.body
    | none=>false) && nodupB (k.slots ++ k.cells) && k.slots.length + k.cells.length == f.slots && k.ntmps == fn.ntmps && isRange 0 k.slots f.params && Nat.ble f.params fn.ntmps &&
    ressOk k fn.results.toList f.results && !(fn.name == "runtime.NumGoroutine")
theorem isRange_get:∀ {l:List Tmp} {i n:Nat},isRange i l n = true → ∀ j,j < n → l[j]? = some (i + j)
  | _,_,0,_,j,hj=>by omega
  | [],_,n + 1,h,_,_=>by simp [isRange] at h
  | t :: l,i,n + 1,h,j,hj=>by
    simp only [isRange,Bool.and_eq_true,beq_iff_eq] at h
    cases j with
    | zero=>simp [h.1]
    | succ j =>
      have:=isRange_get h.2 j (by omega)
      simp only [List.getElem?_cons_succ,this]
      congr 1; omega
section
variable {k:Ck} {base ent:Nat} {C:Cx}
def resSem (a:Array Value):ResultVar → Sem Value
  | .tmp t=>pure (a.getD t undef)
  | .cell c t=>do loadVar t (← asAddr (a.getD c undef))
theorem results_eq (fn:Func) (tmps:Array Value):results fn tmps = (do
    let vs ← fn.results.mapM (resSem tmps)
    pure (if h:vs.size = 1 then vs[0] else .tuple vs)):=by
  unfold results
  have:(fun x=>match x with
    | .tmp t=>pure (tmps.getD t undef)
    | .cell a t=>do loadVar t (← asAddr (tmps.getD a undef)):ResultVar → Sem Value) = resSem tmps:=by
    funext x; cases x <;> rfl
  rw [← this]
  rfl
theorem res_ok {H:Heap} {vars:List AV} {a:Act} {r:ResultVar} {x:ARes} {y:AV} (hs:Sim base C H) (hv:VOk k base ent C H vars a) (hok:resOk k r x = true) (h:resOf H vars x = some y) :
    ∃ v,(resSem a.tmps r).run k.P C.w = .ok v C.w ∧ Rv C y v:=by
  unfold resOk at hok
  split at hok
  · cases h
    exact ⟨_,rfl,hv.rel _ _ (slotIs_iff hok)⟩
  · rename_i t ty j ag sz
    simp only [Bool.and_eq_true,beq_iff_eq] at hok
    obtain ⟨⟨h1,h2⟩,h3⟩:=hok
    have hr:=hv.rel _ _ (slotIs_iff h1)
    simp only [resOf] at h
    obtain ⟨u,e1,e2⟩:=load_ok hs h2 h3 hr h
    refine ⟨u,?_,e2⟩
    have hp:∃ p,a.tmps.getD t undef = .pointer (some p):=by
      generalize vars.getD j .u = X at h hr
      cases X <;> try (cases h; done)
      · obtain ⟨b,off,xs,e,_⟩:=Rv_iptr hr; exact ⟨_,e⟩
      · obtain ⟨b,bs,_,e⟩:=Rv_ptr hr; exact ⟨_,e⟩
    obtain ⟨p,hp⟩:=hp
    rw [hp] at e1
    simp only [resSem,hp]
    simpa only [Instr.loadAt,Instr.sureAddr,asAddr,Sem.run_bind,Sem.run_pure,Result.andThen_ok] using e1
  · rename_i t ty q ag sz
    simp only [Bool.and_eq_true,beq_iff_eq] at hok
    obtain ⟨⟨h1,h2⟩,h3⟩:=hok
    simp only [resOf] at h
    have hc:=hv.cell q t h1
    obtain ⟨u,e1,e2⟩:=cl_ok (P:=k.P) h2 h3 hc h
    refine ⟨u,?_,e2⟩
    have hp:∃ p,a.tmps.getD t undef = .pointer (some p):=by
      rcases hc with hc | ⟨b,c,e,q1,_⟩
      · unfold doCl at h
        split at h
        · rename_i hk; rw [hk] at hc; cases hc
        · cases h
      · exact ⟨_,q1⟩
    obtain ⟨p,hp⟩:=hp
    rw [hp] at e1
    simp only [resSem,hp]
    simpa only [Instr.loadAt,Instr.sureAddr,asAddr,Sem.run_bind,Sem.run_pure,Result.andThen_ok] using e1
  · cases hok
theorem ress_ok {H:Heap} {vars:List AV} {a:Act} (hs:Sim base C H) (hv:VOk k base ent C H vars a):∀ {l:List ResultVar} {m:List ARes} {ys:List AV},ressOk k l m = true → resList H vars m = some ys →
    ∃ vs,(l.mapM (resSem a.tmps)).run k.P C.w = .ok vs C.w ∧ Rvs C ys vs
  | [],[],ys,_,h=>by cases h; exact ⟨[],rfl,.nil⟩
  | [],_ :: _,_,h,_=>by simp [ressOk] at h
  | _ :: _,[],_,h,_=>by simp [ressOk] at h
  | r :: l,x :: m,ys,h,hr=>by
    simp only [ressOk,Bool.and_eq_true] at h
    simp only [resList] at hr
    cases h1:resOf H vars x with
    | none=>rw [h1] at hr; cases hr
    | some y =>
      rw [h1] at hr
      cases h2:resList H vars m with
      | none=>rw [h2] at hr; cases hr
      | some ys' =>
        rw [h2] at hr
        cases hr
        obtain ⟨v,e1,e2⟩:=res_ok hs hv h.1 h1
        obtain ⟨vs,e3,e4⟩:=ress_ok hs hv h.2 h2
        refine ⟨v :: vs,?_,.cons e2 e4⟩
        rw [List.mapM_cons]
        simp only [Sem.run_bind,e1,Result.andThen_ok,e3,Sem.run_pure]
theorem Rvs_plain {l vs} (h:Rvs C l vs) (hp:l.all AV.plain = true):Rvl C l vs:=by
  induction h with
  | nil=>exact .nil
  | cons a _ ih =>
    simp only [List.all_cons,Bool.and_eq_true] at hp
    refine .cons ?_ (ih hp.2)
    rcases a with a | ⟨l,vs,rfl,_⟩
    · exact a
    · simp [AV.plain] at hp
theorem results_ok {fn:Func} {m:List ARes} {st:St} {a:Act} {r:AV} (hs:Sim base C st.heap) (hv:VOk k base ent C st.heap st.vars a) (hok:ressOk k fn.results.toList m = true) (h:resAll st m = some r) :
    ∃ v,(results fn a.tmps).run k.P C.w = .ok v C.w ∧ Rv C r v:=by
  unfold resAll at h
  cases hl:resList st.heap st.vars m with
  | none=>rw [hl] at h; cases h
  | some ys =>
    rw [hl] at h
    obtain ⟨vs,e1,e2⟩:=ress_ok hs hv hok hl
    have e3:(results fn a.tmps).run k.P C.w = .ok (if h:vs.toArray.size = 1 then vs.toArray[0] else .tuple vs.toArray) C.w:=by
      rw [results_eq,show fn.results.mapM (resSem a.tmps) = fn.results.toList.toArray.mapM (resSem a.tmps) by rw [Array.toArray_toList],List.mapM_toArray]
      simp only [map_eq_pure_bind,Sem.run_bind,e1,Result.andThen_ok,Sem.run_pure]
    refine ⟨_,e3,?_⟩
    cases e2 with
    | nil=>simp only [oneOf] at h; cases h; exact Rv_tup_mk (vs:=[]) .nil
    | cons a1 a2 =>
      cases a2 with
      | nil=>simp only [oneOf] at h; cases h; simpa using a1
      | cons a2 a3 =>
        simp only [oneOf,tupOf] at h
        split at h
        · rename_i hpl
          cases h
          have:=Rvs_plain (.cons a1 (.cons a2 a3)) hpl
          rw [dif_neg (by simp)]
          exact Rv_tup_mk this
        · cases h
theorem start_ok {f:AFun} {fn:Func} {args:List AV} {H:Heap} {vals:List Value} (hok:funOk k fn f = true) (hr:Rvs C args vals) (hl:args.length = f.params) (hbs:base ≤ C.w.heap.size) :
    VOk k base C.w.heap.size C H (start f args H).vars { tmps:=vals.toArray ++ Array.replicate (fn.ntmps - vals.toArray.size) undef,defers:=[] }:=by
  unfold funOk at hok
  simp only [Bool.and_eq_true,beq_iff_eq] at hok
  obtain ⟨⟨⟨⟨⟨⟨⟨h1,h2⟩,h3⟩,h4⟩,h5⟩,h6⟩,h7⟩,h8⟩:=hok
  have hlen:=Rvs_length hr
  have hrg:=isRange_get h5
  have hps:f.params ≤ k.slots.length:=by
    by_cases h0:f.params = 0
    · omega
    · have:=hrg (f.params - 1) (by omega)
      have:=(List.getElem?_eq_some_iff.1 this).1
      omega
  have hpn:f.params ≤ fn.ntmps:=Nat.le_of_ble_eq_true h6
  have hrest:∀ j,f.params ≤ j → (args ++ List.replicate (f.slots - args.length) AV.u).getD j .u = .u:=by
    intro j hj
    simp only [List.getD]
    rw [List.getElem?_append_right (by omega),List.getElem?_replicate]
    split <;> rfl
  have hcell:∀ q t,k.cellIs q t = true → ((start f args H).vars.getD q .u) = .u:=by
    intro q t hq
    have:=(cellIs_iff hq).1
    exact hrest q (by omega)
  refine ⟨fun j t hj=>?_,by simp; omega,rfl,by simp [start]; omega,fun q t hq=>(by rw [hcell q t hq]; exact .inl rfl),fun q q' t t' hq _ _ hk _=>(by rw [hcell q t hq] at hk; cases hk),hbs,Nat.le_refl _⟩
  simp only [start]
  by_cases hjp:j < f.params
  · have:=hrg j hjp
    rw [hj] at this
    cases this
    rw [Nat.zero_add]
    have h9:=Rvs_get hr j undef (by omega)
    have e1:(args ++ List.replicate (f.slots - args.length) AV.u).getD j .u = args.getD j .u:=by
      simp only [List.getD]
      rw [List.getElem?_append_left (by omega)]
    have e2:(vals.toArray ++ Array.replicate (fn.ntmps - vals.toArray.size) undef).getD j undef = vals.getD j undef:=by
      rw [Array.getD_eq_getD_getElem?,Array.getElem?_append_left (by simp; omega)]
      simp [List.getD]
    rw [e1,e2]; exact h9
  · rw [hrest j (by omega)]; exact .inl (.inl rfl)
theorem body_ok {R:AIR → St → Option (Ex × St)} {f:AFun} {fn:Func} {g:Nat} {args:List AV} {H:Heap} {vals:List Value} {st:St} {r:AV} (hR:RS k R) (hfn:k.P.funcs[k.ι g]? = some fn) (hok:funOk k fn f = true)
    (hι:C.ι = k.ι) (hs:Sim base C H) (hr:Rvs C args vals) (hl:args.length = f.params) (h:ended (R f.body (start f args H)) = some st) (hres:resAll st f.results = some r)
    {W:Value → World → Prop} (hW:∀ v C',OStep base C H C' st.heap → Rv C' r v → W v C'.w):Called k.P (k.ι g) vals.toArray C.w W:=by
  have hv:=start_ok (H:=H) hok hr hl hs.bsz
  unfold funOk at hok
  simp only [Bool.and_eq_true,beq_iff_eq] at hok
  obtain ⟨⟨⟨⟨⟨⟨⟨h1,h2⟩,h3⟩,h4⟩,h5⟩,h6⟩,h7⟩,h8⟩:=hok
  obtain ⟨e,he⟩:=ended_inv h
  cases hb:fn.body with
  | none=>rw [hb] at h1; cases h1
  | some c =>
    rw [hb] at h1
    have hcall:(callFunc (k.ι g) vals.toArray).run k.P C.w = .ok (.enter (k.ι g) vals.toArray) C.w:=by
      have hname:(fn.name == "runtime.NumGoroutine") = false:=by simpa using h8
      simp [callFunc,hfn,beq_eq_false_iff_ne.1 hname,hb]
    unfold Called
    rw [hcall]
    refine calls_of_wp hfn hb (hR.wp f.body c _ _ _ h1 he base _ C _ hι hs hv _ fun a' C' hst hv'=>?_)
    obtain ⟨v,r1,r2⟩:=results_ok hst.sim hv' h7 hres
    have:=hW v C' hst r2
    cases e with
    | normal=>exact ⟨hv'.defers,v,r1,this⟩
    | ret=>exact ⟨hv'.defers,v,r1,this⟩
    | exit j=>rw [he] at h; cases h
end
end Tor
namespace Tor
open Go Go.RowKit
theorem Rvs_leU {n:Nat} {C C':Cx} (h:LeU n C C') {l vs} (hu:AV.unders n l = true) (hr:Rvs C l vs):Rvs C' l vs:=by
  induction hr with
  | nil=>exact .nil
  | cons a _ ih =>
    simp only [AV.unders,Bool.and_eq_true] at hu
    exact .cons (Rv_leU h hu.1 a) (ih hu.2)
theorem shut_inv {n H o r} (h:shut n H o = some r):∃ x,o = some x ∧ r = fz n H fzDepth x ∧ (fz n H fzDepth x).under n = true ∧ (fz n H fzDepth x).solid = true:=by
  cases o with
  | none=>cases h
  | some x =>
    simp only [shut] at h
    split at h
    · rename_i hh; cases h; exact ⟨x,rfl,rfl,hh⟩
    · cases h
theorem shrEnd_inv {n rs o r} (h:shrEnd n rs o = some r):∃ st x,o = some st ∧ st.rs = false ∧ shut n st.heap (resAll st rs) = some x ∧ r = (x,st.heap.take n,false):=by
  cases o with
  | none=>cases h
  | some st =>
    simp only [shrEnd] at h
    split at h
    · cases h
    · rename_i hrs
      obtain ⟨x,hx,e⟩:=withHeap_inv h
      exact ⟨st,x,rfl,by simpa using hrs,hx,e⟩
theorem keepEnd_inv {rs o r} (h:keepEnd rs o = some r):∃ st x,o = some st ∧ resAll st rs = some x ∧ r = (x,st.heap,st.rs):=by
  cases o with
  | none=>cases h
  | some st =>
    obtain ⟨x,hx,e⟩:=withHeap_inv h
    exact ⟨st,x,rfl,hx,e⟩
theorem runIso_inv {R f args r} (h:runIso R f args = some r):AV.hasRefs args = false ∧ ∃ st,ended (R f.body (start f args [])) = some st ∧ shut 0 st.heap (resAll st f.results) = some r:=by
  unfold runIso at h
  split at h
  · cases h
  · rename_i hh
    refine ⟨by simpa using hh,?_⟩
    cases he:ended (R f.body (start f args [])) with
    | none=>rw [he] at h; cases h
    | some st=>rw [he] at h; exact ⟨st,rfl,h⟩
section
variable {k:Ck} {base:Nat} {C:Cx}
theorem iso_ok {R:AIR → St → Option (Ex × St)} {f:AFun} {fn:Func} {g:Nat} {args:List AV} {H:Heap} {vals:List Value} {r:AV} (hR:RS k R) (hfn:k.P.funcs[k.ι g]? = some fn) (hok:funOk k fn f = true)
    (hι:C.ι = k.ι) (hs:Sim base C H) (hr:Rvs C args vals) (hl:args.length = f.params) (h:runIso R f args = some r):Called k.P (k.ι g) vals.toArray C.w (CPost base C H r H):=by
  obtain ⟨hnr,st,he,hsh⟩:=runIso_inv h
  obtain ⟨x,hx,rfl,hun,hso⟩:=shut_inv hsh
  let C0:Cx:={ C with β:=fun _ _=>none }
  have hC0:Sim C.w.heap.size C0 []:=⟨hs.fsz,fun _ _ _=>rfl,fun o ob ho=>by simp at ho,fun o o' ob ob' b ho=>by simp at ho,Nat.le_refl _⟩
  have hl0:LeU 0 C C0:=⟨rfl,fun _ h=>h,fun o g q ho=>by omega,fun _ _=>rfl,fun _ _ h=>h⟩
  have hr0:Rvs C0 args vals:=Rvs_leU hl0 (noRefs_unders 0 args hnr) hr
  refine body_ok (C:=C0) hR hfn hok hι hC0 hr0 hl he hx fun v C1 hst hv=>?_
  -- the objects are given up; their blocks stay
  have hu0:HUnder 0 st.heap:=fun o ob ho=>by omega
  have hst2:OStep C.w.heap.size C0 [] (C1.fzn 0 st.heap) (st.heap.take 0):=hst.dropTo hC0 hu0 (leU_fzn C1 0 st.heap) rfl (fun _ _=>rfl) (fun _ h=>h)
  have hv2:=fz_Rv hst.sim 0 fzDepth hv hso hun
  let C3:Cx:={ C1.fzn 0 st.heap with β:=C.β }
  have hle:Le C C3:=⟨hst2.le.ι,hst2.le.F,fun _ _ _ h=>h,hst2.le.mem,hst2.le.shp⟩
  have hl3:LeU 0 (C1.fzn 0 st.heap) C3:=⟨rfl,fun _ h=>h,fun o g q ho=>by omega,fun _ _=>rfl,fun _ _ h=>h⟩
  have hfg:∀ b,C3.F b → C.F b ∨ C.w.heap.size ≤ b:=hst2.fgr
  refine ⟨C3,rfl,⟨hle,hs.world hle (fun b hb=>⟨hst2.sim.fsz b hb,hfg b hb⟩) (fun _ _=>rfl) hst2.below.4 (fun b hb _ _=>hst2.below.5 b hb),
    ⟨hst2.below.1,hst2.below.2,hst2.below.3,hst2.below.4,fun b hb=>hst2.below.5 b (Nat.lt_of_lt_of_le hb hs.bsz)⟩,fun b hb=>?_,fun b hb hF hno=>⟨hst2.below.5 b hb,fun h=>(hfg b h).elim hF (fun h=>by omega),hno⟩⟩,Rv_leU hl3 hun hv2⟩
  rcases hfg b hb with hb | hb
  · exact .inl hb
  · exact .inr (Nat.le_trans hs.bsz hb)
theorem consume_ok:∀ (args:List AV) (vals:List Value) (C:Cx) (H:Heap) (args':List AV) (H':Heap),Sim base C H → Rvs C args vals → consume H args = some (args',H') →
    ∃ C',C'.w = C.w ∧ OStep base C H C' H' ∧ Rvs C' args' vals ∧ args'.length = args.length
  | [],vals,C,H,args',H',hs,hr,h=>by
    simp only [consume] at h; cases h
    cases hr
    exact ⟨C,rfl,Step.refl hs,.nil,rfl⟩
  | x :: r,_,C,H,args',H',hs,hr,h=>by
    cases hr with
    | cons hx hr =>
      rename_i v vs
      have keep:∀ y H0,(∀ z,x ≠ z ∨ True) → consume1 y (consume H0 r) = some (args',H') → ∃ l',consume H0 r = some (l',H') ∧ args' = y :: l':=by
        intro y H0 _ h
        cases hc:consume H0 r with
        | none=>rw [hc] at h; cases h
        | some q=>obtain ⟨l',H2⟩:=q; rw [hc] at h; cases h; exact ⟨l',rfl,rfl⟩
      by_cases hsl:∃ o g sz st len,x = .sl o g sz st len
      · obtain ⟨o,g,sz,st,len,rfl⟩:=hsl
        simp only [consume] at h
        cases hel:elems H (.sl o g sz st len) with
        | none=>rw [hel] at h; cases h
        | some l =>
          rw [hel] at h
          simp only at h
          split at h
          · cases h
          · rename_i hnr
            obtain ⟨l',hc,rfl⟩:=keep _ _ (fun _=>.inr trivial) h
            obtain ⟨a,cap,ob,rfl,hob,hcs⟩:=sl_cells hs hx hel
            let C1:Cx:={ C with F:=fun b=>C.F b ∨ blk C o ob = some b }
            have hle:Le C C1:=⟨rfl,fun _ h=>.inl h,fun _ _ _ h=>h,fun _ _=>rfl,fun _ _ h=>h⟩
            have hbl:=fun b (hb:blk C o ob = some b)=>blk_heap (hs.obj o ob hob).1 hb
            have hst:OStep base C H C1 (H.set o .dead):=by
              refine ⟨hle,hs.set hob hle (fun b hb=>?_) (Nat.le_refl _) (fun _ _ _=>rfl) (fun _ _ _=>rfl) trivial trivial (fun b hb=>by cases hb),(Grow.refl C.w).below hs.bsz,fun b hb=>?_,fun b hb hF hno=>⟨rfl,fun h=>h.elim hF (hno o ob hob),fun o1 ob1 h1 hbk=>?_⟩⟩
              · rcases hb with hb | hb
                · exact ⟨hs.fsz b hb,.inl hb⟩
                · exact ⟨(hbl b hb).2.2,.inr (.inr hb)⟩
              · rcases hb with hb | hb
                · exact .inl hb
                · exact .inr (hbl b hb).1
              · rw [List.getElem?_set] at h1
                split at h1
                · split at h1
                  · cases h1; cases hbk
                  · cases h1
                · have:blk C1 o1 ob1 = blk C o1 ob1:=by cases ob1 <;> rfl
                  rw [this] at hbk
                  exact hno o1 ob1 h1 hbk
            obtain ⟨C2,hw,hst2,hr2,hl2⟩:=consume_ok r vs C1 _ _ _ hst.sim (Rvs_le hle hr) hc
            refine ⟨C2,hw,hst.trans hst2,.cons (Rv_le hst2.le (Rv_one ?_ rfl rfl)) hr2,by simp [hl2]⟩
            simp only [Rc]
            refine ⟨by simpa using hnr,_,rfl,a,cap,rfl,?_⟩
            rcases hcs with rfl | ⟨b,off,css,rfl,hb,hcap,h1,h2,h3⟩
            · exact .inl rfl
            · exact .inr ⟨b,off,css,sz,rfl,.inr hb,hcap,Rcl_le hle _ _ h1,h2,h3⟩
      · have h':consume1 x (consume H r) = some (args',H'):=by
          cases x <;> first | exact h | exact absurd ⟨_,_,_,_,_,rfl⟩ hsl
        obtain ⟨l',hc,rfl⟩:=keep _ _ (fun _=>.inr trivial) h'
        obtain ⟨C2,hw,hst2,hr2,hl2⟩:=consume_ok r vs C _ _ _ hs hr hc
        exact ⟨C2,hw,hst2,.cons (Rv_le hst2.le hx) hr2,by simp [hl2]⟩
end
structure Tied (P:Program) (ι:Nat → FuncId) (pureF:Nat → Bool) (E:CallF) (GP:Nat → Option AFun):Prop where
  funs:∀ g f,GP g = some f → ∃ k fn,k.P = P ∧ k.ι = ι ∧ k.pureF = pureF ∧ P.funcs[ι g]? = some fn ∧ funOk k fn f = true
  pureG:∀ g,pureF g = true → (∀ f,GP g = some f → f.mode = .iso) ∧ ∀ args H H2,E g args H = none → E g args H2 = none
  pureE:PureC pureF E
  soundE:SoundC P ι E
  keepE:CKeeps E
theorem Called.mono {P f args w} {R R':Value → World → Prop} (h:Called P f args w R) (hR:∀ v w',R v w' → R' v w'):Called P f args w R':=by
  unfold Called at h ⊢
  split
  · rename_i e; rw [e] at h; exact hR _ _ h
  · rename_i e
    rw [e] at h
    refine Calls.mono h fun e' w' he=>?_
    cases e' with
    | returned v=>exact hR _ _ he
    | panicked _=>exact he.elim
    | outgrown=>exact he.elim
  · rename_i h1 h2
    split at h
    · rename_i e; exact absurd e (h1 _ _)
    · rename_i e; exact absurd e (h2 _ _ _)
    · exact h
section
variable {P:Program} {ι:Nat → FuncId} {pureF:Nat → Bool} {E:CallF} {GP:Nat → Option AFun}
theorem stepCall_pure (T:Tied P ι pureF E GP) (R:AIR → St → Option (Ex × St)):PureC pureF (stepCall E GP R):=by
  intro g hg args H r H' b h
  obtain ⟨h1,h2⟩:=T.pureG g hg
  unfold stepCall at h ⊢
  cases hE:E g args H with
  | some q =>
    rw [hE] at h
    simp only [callE] at h
    cases h
    obtain ⟨a1,a2,a3⟩:=T.pureE g hg args H _ _ _ hE
    exact ⟨a1,a2,fun H2=>by rw [a3 H2]; rfl⟩
  | none =>
    rw [hE] at h
    simp only [callE] at h
    have hE2:=fun H2=>h2 args H H2 hE
    cases hf:GP g with
    | none=>rw [hf] at h; cases h
    | some f =>
      rw [hf] at h
      simp only [callG,h1 f hf] at h
      split at h
      · rename_i hl
        simp only [callFun] at h
        obtain ⟨x,hx,e⟩:=withHeap_inv h
        cases e
        refine ⟨rfl,rfl,fun H2=>?_⟩
        rw [hE2 H2]
        simp only [callE]
        rw [hf]
        simp only [callG,hl,if_true,h1 f hf,callFun,hx,withHeap]
      · cases h
theorem stepCall_ok (T:Tied P ι pureF E GP) {R:AIR → St → Option (Ex × St)} (hK:RKeeps R) (hR:∀ k:Ck,k.P = P → k.ι = ι → k.pureF = pureF → nodupB (k.slots ++ k.cells) = true → RS k R):SoundC P ι (stepCall E GP R):=by
  intro g args H r H' b h base C vals hι hs hr
  unfold stepCall at h
  cases hE:E g args H with
  | some q =>
    rw [hE] at h
    simp only [callE] at h
    cases h
    exact T.soundE g args H _ _ _ hE base C vals hι hs hr
  | none =>
    rw [hE] at h
    simp only [callE] at h
    cases hf:GP g with
    | none=>rw [hf] at h; cases h
    | some f =>
      rw [hf] at h
      simp only [callG] at h
      split at h
      case isFalse=>cases h
      rename_i hl
      obtain ⟨k,fn,rfl,rfl,rfl,hfn,hok⟩:=T.funs g f hf
      have hnd:nodupB (k.slots ++ k.cells) = true:=by
        have:=hok
        unfold funOk at this
        simp only [Bool.and_eq_true] at this
        exact this.1.1.1.1.1.1.2
      have hRk:=hR k rfl rfl rfl hnd
      cases hm:f.mode with
      | iso =>
        rw [hm] at h
        simp only [callFun] at h
        obtain ⟨x,hx,e⟩:=withHeap_inv h
        cases e
        exact iso_ok hRk hfn hok hι hs hr hl hx
      | con =>
        rw [hm] at h
        simp only [callFun] at h
        cases hc:consume H args with
        | none=>rw [hc] at h; cases h
        | some q =>
          obtain ⟨args',H2⟩:=q
          rw [hc] at h
          simp only [conCall] at h
          obtain ⟨x,hx,e⟩:=withHeap_inv h
          cases e
          obtain ⟨C2,hw,hst,hr2,hl2⟩:=consume_ok args vals C H _ _ hs hr hc
          rw [← hw]
          refine (iso_ok hRk hfn hok (hst.le.ι.trans hι) hst.sim hr2 (hl2.trans hl) hx).mono ?_
          rintro v w' ⟨C',hw',hst',hv⟩
          exact ⟨C',hw',hst.trans (hst'.ent_le (by rw [hw]; exact Nat.le_refl _)),hv⟩
      | shr =>
        rw [hm] at h
        simp only [callFun] at h
        obtain ⟨st,x,he,hrs,hsh,e⟩:=shrEnd_inv h
        cases e
        obtain ⟨y,hy,rfl,hun,hso⟩:=shut_inv hsh
        obtain ⟨e,hbody⟩:=ended_inv he
        have hu:HUnder H.length st.heap:=((hK _ _ _ _ hbody hrs).2).2 _ (Nat.le_refl _) (HUnder_sim hs)
        refine body_ok hRk hfn hok hι hs hr hl he hy fun v C1 hst hv=>?_
        exact ⟨C1.fzn H.length st.heap,rfl,hst.dropTo hs hu (leU_fzn C1 _ st.heap) rfl (fun _ _=>rfl) (fun _ h=>h),fz_Rv hst.sim _ fzDepth hv hso hun⟩
      | keep =>
        rw [hm] at h
        simp only [callFun] at h
        obtain ⟨st,x,he,hx,e⟩:=keepEnd_inv h
        cases e
        exact body_ok hRk hfn hok hι hs hr hl he hx fun v C1 hst hv=>⟨C1,rfl,hst,hv⟩
theorem machine_ok (T:Tied P ι pureF E GP) (n:Nat):(∀ k:Ck,k.P = P → k.ι = ι → k.pureF = pureF → nodupB (k.slots ++ k.cells) = true → RS k (Tor.runN E GP n)) ∧ SoundC P ι (callN E GP n) ∧ PureC pureF (callN E GP n):=by
  induction n with
  | zero =>
    refine ⟨fun k _ _ _ _=>⟨fun air code st e st' _ h=>?_,fun gc keep x body st e st' _ h=>?_⟩,fun g args H r H' b h=>?_,fun g _ args H r H' b h=>?_⟩
    · rw [Tor.runN] at h; cases h
    · rw [Tor.runN] at h; cases h
    · rw [callN] at h; cases h
    · rw [callN] at h; cases h
  | succ n ih =>
    obtain ⟨h1,h2,h3⟩:=ih
    have hK:=runN_keeps (E:=E) (GP:=GP) T.keepE n
    refine ⟨?_,?_,?_⟩
    · rintro k rfl rfl rfl hnd
      rw [Tor.runN]
      exact stepRun_ok h2 h3 hnd hK.1 (h1 k rfl rfl rfl hnd)
    · rw [callN]; exact stepCall_ok T hK.1 h1
    · rw [callN]; exact stepCall_pure T _
theorem call_sound (T:Tied P ι pureF E GP):SoundC P ι (call E GP):=by
  intro g args H r H' b h
  obtain ⟨n,hn⟩:=call_ex h
  exact (machine_ok T n).2.1 g args H r H' b hn
end
end Tor
namespace Tor
open Go Go.RowKit
inductive Shp where
  | int (k:IntKind)
  | bool
  | sl (s:Shp)
  | agg (l:List Shp)
mutual
def Fits:Shp → AV → Prop
  | .int k,x=>∃ n,x = .int k n ∧ k.min ≤ n ∧ n ≤ k.max
  | .bool,x=>∃ b,x = .bool b
  | .sl s,x=>∃ l,x = .isl l ∧ l.length ≤ maxLen ∧ ∀ y ∈ l,Fits s y
  | .agg ss,x=>∃ l,x = .agg l ∧ Fitss ss l
def Fitss:List Shp → List AV → Prop
  | [],l=>l = []
  | s :: ss,l=>∃ x r,l = x :: r ∧ Fits s x ∧ Fitss ss r
end
def partsOf (P:Program) (t:TypeId):Option (List (TypeId × Nat)) :=
  match P.underlying t with
  | some (.struct fs)=>some (fs.toList.map fun f=>(f.type,f.offset))
  | some (.array n e)=>some ((List.range n).map fun i=>(e,i * P.cellsOf e))
  | _=>none
mutual
def shpOk (P:Program) (t:TypeId):Shp → Bool
  | .int k=>(match P.underlying t with | some (.int k')=>k' == k | _=>false)
  | .bool=>(match P.underlying t with | some .bool=>true | _=>false)
  | .sl s=>(match sliceB P t with | some e=>!(P.cellsOf e == 0) && shpOk P e s | none=>false)
  | .agg ss=>(match partsOf P t with | some ps=>shpsOk P 0 (P.cellsOf t) ps ss | none=>false)
def shpsOk (P:Program) (off total:Nat):List (TypeId × Nat) → List Shp → Bool
  | [],[]=>off == total
  | (t,o) :: ps,s :: ss=>o == off && shpOk P t s && shpsOk P (off + P.cellsOf t) total ps ss
  | _,_=>false
end
def Cx.init (ι:Nat → FuncId) (w:World):Cx:={ ι:=ι,F:=fun b=>b < w.heap.size,β:=fun _ _=>none,w:=w }
theorem Sim.init (ι:Nat → FuncId) (w:World):Sim w.heap.size (Cx.init ι w) [] :=
  ⟨fun _ h=>h,fun _ _ _=>rfl,fun o ob ho=>by simp at ho,fun o o' ob ob' b ho=>by simp at ho,Nat.le_refl _⟩
section
variable {P:Program} {ι:Nat → FuncId} {w:World} {H:Type} {enc:TypeId × Value → H} {base:Nat} {spare:Nat → Bool} {held:Bool}
mutual
theorem Fits_ref:∀ (s:Shp) (x:AV),Fits s x → x.hasRef = false
  | .int k,x,h=>by simp only [Fits] at h; obtain ⟨n,rfl,_⟩:=h; rfl
  | .bool,x,h=>by simp only [Fits] at h; obtain ⟨n,rfl⟩:=h; rfl
  | .sl s,x,h=>by simp only [Fits] at h; obtain ⟨l,rfl,_⟩:=h; rfl
  | .agg ss,x,h=>by
    simp only [Fits] at h; obtain ⟨l,rfl,h⟩:=h
    simp only [AV.hasRef]; exact Fitss_ref ss l h
theorem Fitss_ref:∀ (ss:List Shp) (l:List AV),Fitss ss l → AV.hasRefs l = false
  | [],l,h=>by simp only [Fitss] at h; subst h; rfl
  | s :: ss,l,h=>by
    simp only [Fitss] at h; obtain ⟨x,r,rfl,h1,h2⟩:=h
    simp only [AV.hasRefs,Bool.or_eq_false_iff]; exact ⟨Fits_ref s x h1,Fitss_ref ss r h2⟩
end
theorem cells_at {a:Addr} {n:Nat} {cs:List Value} (h:w.cells? base a n = some cs) (hn:n ≠ 0):a.spot = none ∧ a.block < w.heap.size ∧ cs.length = n ∧ cellsAt w a.block a.off cs:=by
  have hb:=World.cells?_block h (by omega)
  have hs:=World.cells?_some h
  obtain ⟨_,hl,hc⟩:=hs
  have h0:w.cell? a = cs[0]?:=by
    have:=hc 0 (by omega)
    simpa [Addr.add] using this
  have hsp:a.spot = none:=by
    have:cs[0]? = some cs[0]:=List.getElem?_eq_getElem (by omega)
    rw [this] at h0
    exact World.cell?_spot h0
  obtain ⟨b,off,sp⟩:=a
  simp only at hsp
  subst hsp
  refine ⟨rfl,hb,hl,fun i x hx=>?_⟩
  have hi:i < n:=by rw [← hl]; exact (List.getElem?_eq_some_iff.1 hx).1
  have:=hc i hi
  rw [addr_add] at this
  exact this.trans hx
theorem trod_parts {t:TypeId} {ps:List (TypeId × Nat)} {fuel:Nat} {cs:List Value} {x:DataW H × List MemPlace} (hp:partsOf P t = some ps) (h:DataW.trod enc P w base spare held fuel t cs = some x) :
    cs.length = P.cellsOf t ∧ ∃ m,∀ (i:Nat) (e:TypeId) (o:Nat),ps[i]? = some (e,o) → ∃ y,DataW.trod enc P w base spare held m e ((cs.drop o).take (P.cellsOf e)) = some y:=by
  unfold partsOf at hp
  split at hp
  · rename_i fs ht
    cases hp
    obtain ⟨xs,n,_,_,hl,hx,hi⟩:=DataW.trod_struct ht h
    refine ⟨hl,n,fun i e o he=>?_⟩
    rw [List.getElem?_map] at he
    cases hf:fs.toList[i]? with
    | none=>rw [hf] at he; cases he
    | some f =>
      rw [hf] at he
      cases he
      have hf':fs[i]? = some f:=by simpa using hf
      have:=hi i f hf'
      have hlt:i < xs.length:=by rw [hx]; exact (Array.getElem?_eq_some_iff.1 hf').1
      exact ⟨xs[i],by rw [this]; exact List.getElem?_eq_getElem hlt⟩
  · rename_i n e ht
    cases hp
    obtain ⟨xs,m,_,_,hl,hx,hi⟩:=DataW.trod_array ht h
    refine ⟨hl,m,fun i e' o he=>?_⟩
    rw [List.getElem?_map] at he
    by_cases hin:i < n
    · rw [List.getElem?_range hin] at he
      cases he
      have:=hi i hin
      exact ⟨xs[i],by rw [this]; exact List.getElem?_eq_getElem (by omega)⟩
    · rw [List.getElem?_eq_none (by simpa using hin)] at he; cases he
  · cases hp
mutual
theorem open_ok:∀ (s:Shp) (t:TypeId) (fuel:Nat) (cs:List Value) (x:DataW H × List MemPlace),shpOk P t s = true → DataW.trod enc P w base spare held fuel t cs = some x →
    ∃ y,Fits s y ∧ Rc (Cx.init ι w) y cs
  | .int k,t,fuel,cs,x,hs,h=>by
    simp only [shpOk] at hs
    split at hs
    · rename_i k' ht
      simp only [beq_iff_eq] at hs
      subst hs
      obtain ⟨n,rfl,_,hw⟩:=DataW.trod_int ht h
      simp only [Lit.wf,Bool.and_eq_true,decide_eq_true_eq] at hw
      exact ⟨.int k' n,by simp only [Fits]; exact ⟨n,rfl,hw⟩,by simp [Rc]⟩
    · cases hs
  | .bool,t,fuel,cs,x,hs,h=>by
    simp only [shpOk] at hs
    split at hs
    · rename_i ht
      cases fuel with
      | zero=>simp [DataW.trod] at h
      | succ n =>
        unfold DataW.trod at h
        rw [ht] at h
        split at h <;> simp_all
        rename_i b
        exact ⟨.bool b,by simp only [Fits]; exact ⟨_,rfl⟩,by simp [Rc]⟩
    · cases hs
  | .sl s,t,fuel,cs,x,hs,h=>by
    simp only [shpOk] at hs
    split at hs
    · rename_i e he
      simp only [Bool.and_eq_true,Bool.not_eq_true',beq_eq_false_iff_ne] at hs
      rcases DataW.trod_slice (sliceB_inv he) h with ⟨rfl,_⟩ | ⟨a,len,cap,elems,rest,n,_,rfl,_,hb,hl,hm,hlen,hel,_,_⟩
      · exact ⟨.isl [],by simp only [Fits]; exact ⟨[],rfl,Nat.zero_le _,fun y hy=>by cases hy⟩,by simp only [Rc]; exact ⟨rfl,_,rfl,none,0,rfl,.inl rfl⟩⟩
      · have each:∀ i,i < len → ∃ cs' y,w.cells? base (a.add (i * P.cellsOf e)) (P.cellsOf e) = some cs' ∧ Fits s y ∧ Rc (Cx.init ι w) y cs':=by
          intro i hi
          have h1:=hel i hi
          have h2:elems[i]? = some elems[i]:=List.getElem?_eq_getElem (by omega)
          rw [h2] at h1
          cases hc:w.cells? base (a.add (i * P.cellsOf e)) (P.cellsOf e) with
          | none=>rw [hc] at h1; cases h1
          | some cs' =>
            rw [hc] at h1
            obtain ⟨y,hy1,hy2⟩:=open_ok s e n cs' _ hs.2 h1
            exact ⟨cs',y,rfl,hy1,hy2⟩
        have hrow:∀ k,k ≤ len → ∃ (l:List AV) (css:List (List Value)),l.length = k ∧ (∀ y ∈ l,Fits s y) ∧ Rcl (Cx.init ι w) l css ∧ (∀ c ∈ css,c.length = P.cellsOf e) ∧
            (k = 0 ∨ (a.spot = none ∧ a.block < w.heap.size)) ∧ cellsAt w a.block a.off css.flatten:=by
          intro k
          induction k with
          | zero=>intro _; exact ⟨[],[],rfl,fun y hy=>(by cases hy),rfl,fun c hc=>(by cases hc),.inl rfl,fun i x hx=>by simp at hx⟩
          | succ k ih =>
            intro hk
            obtain ⟨l,css,i1,i2,i3,i4,i5,i6⟩:=ih (by omega)
            obtain ⟨cs',y,h1,h2,h3⟩:=each k (by omega)
            obtain ⟨s1,s2,s3,s4⟩:=cells_at h1 hs.1
            have hsp:a.spot = none:=by
              obtain ⟨b,off,sp⟩:=a
              cases sp with
              | none=>rfl
              | some q=>simp [Addr.add] at s1; split at s1 <;> simp_all
            obtain ⟨b,off,sp⟩:=a
            simp only at hsp
            subst hsp
            rw [addr_add] at s2 s4
            have hcl:=Rcl_count _ _ i3
            refine ⟨l ++ [y],css ++ [cs'],by simp [i1],fun z hz=>?_,Rcl_append _ _ _ _ i3 (by simp only [Rcl]; exact ⟨cs',[],rfl,h3,rfl⟩),fun c hc=>?_,.inr ⟨rfl,s2⟩,?_⟩
            · rcases List.mem_append.1 hz with hz | hz
              · exact i2 z hz
              · simp at hz; subst hz; exact h2
            · rcases List.mem_append.1 hc with hc | hc
              · exact i4 c hc
              · simp at hc; subst hc; exact s3
            · intro i x hx
              rw [List.flatten_append,List.flatten_singleton] at hx
              have hfl:=uniform_len css i4
              rw [hcl,i1] at hfl
              by_cases hi:i < css.flatten.length
              · rw [List.getElem?_append_left hi] at hx
                exact i6 i x hx
              · rw [List.getElem?_append_right (by omega)] at hx
                have:=s4 (i - css.flatten.length) x hx
                rw [← this]
                simp only
                congr 2
                omega
        obtain ⟨l,css,i1,i2,i3,i4,i5,i6⟩:=hrow len (Nat.le_refl _)
        refine ⟨.isl l,by simp only [Fits]; exact ⟨l,rfl,by omega,i2⟩,?_⟩
        simp only [Rc]
        refine ⟨hasRefs_of_mem fun y hy=>Fits_ref s y (i2 y hy),_,rfl,some a,cap,by rw [i1],?_⟩
        rcases i5 with h0 | ⟨h1,h2⟩
        · exact .inl (by omega)
        · obtain ⟨b,off,sp⟩:=a
          simp only at h1
          subst h1
          exact .inr ⟨b,off,css,P.cellsOf e,rfl,h2,by omega,i3,i4,i6⟩
    · cases hs
  | .agg ss,t,fuel,cs,x,hs,h=>by
    simp only [shpOk] at hs
    split at hs
    · rename_i ps hp
      obtain ⟨hl,m,hi⟩:=trod_parts hp h
      obtain ⟨ys,css,h1,h2,h3⟩:=opens_ok ss ps 0 (P.cellsOf t) m cs hs hl hi
      refine ⟨.agg ys,by simp only [Fits]; exact ⟨ys,rfl,h1⟩,?_⟩
      simp only [Rc]
      exact ⟨css,h2,by simpa using h3⟩
    · cases hs
theorem opens_ok:∀ (ss:List Shp) (ps:List (TypeId × Nat)) (off total m:Nat) (cs:List Value),shpsOk P off total ps ss = true → cs.length = total →
    (∀ (i:Nat) (e:TypeId) (o:Nat),ps[i]? = some (e,o) → ∃ y:DataW H × List MemPlace,DataW.trod enc P w base spare held m e ((cs.drop o).take (P.cellsOf e)) = some y) →
    ∃ ys css,Fitss ss ys ∧ Rcl (Cx.init ι w) ys css ∧ cs.drop off = css.flatten
  | [],[],off,total,m,cs,hs,hl,_=>by
    simp only [shpsOk,beq_iff_eq] at hs
    exact ⟨[],[],rfl,rfl,by rw [hs,← hl]; simp⟩
  | [],_ :: _,off,total,m,cs,hs,hl,_=>by simp [shpsOk] at hs
  | _ :: _,[],off,total,m,cs,hs,hl,_=>by simp [shpsOk] at hs
  | s :: ss,(t,o) :: ps,off,total,m,cs,hs,hl,hi=>by
    simp only [shpsOk,Bool.and_eq_true,beq_iff_eq] at hs
    obtain ⟨⟨rfl,h1⟩,h2⟩:=hs
    obtain ⟨y,hy⟩:=hi 0 t o rfl
    obtain ⟨z,z1,z2⟩:=open_ok s t m _ y h1 hy
    obtain ⟨ys,css,e1,e2,e3⟩:=opens_ok ss ps _ total m cs h2 hl fun i e o' he=>hi (i + 1) e o' (by simpa using he)
    refine ⟨z :: ys,_ :: css,by simp only [Fitss]; exact ⟨z,ys,rfl,z1,e1⟩,by simp only [Rcl]; exact ⟨_,css,rfl,z2,e2⟩,?_⟩
    rw [List.flatten_cons,← e3,← List.drop_drop,List.take_append_drop]
end
theorem open_arg {s:Shp} {r:Reach} {b0:Nat} {t:TypeId} {v:Value} {d:DataW H} {ps:List MemPlace} (hs:shpOk P t s = true) (hv:Value.okWide P w r b0 t v)
    (h:DataW.Trod enc P w base spare held t v d ps):∃ y,Fits s y ∧ Rv (Cx.init ι w) y v:=by
  obtain ⟨fuel,hf⟩:=h
  obtain ⟨y,h1,h2⟩:=open_ok (ι:=ι) s t fuel _ _ hs hf
  refine ⟨y,h1,?_⟩
  have hno:∀ (v:Value),vIsA v = false → y.isA = false → Rc (Cx.init ι w) y v.cells.toList → Rv (Cx.init ι w) y v:=fun v h3 h4 h5=>by
    rw [cells_one h3] at h5; exact Rv_one h5 h4 h3
  cases s with
  | int k =>
    simp only [Fits] at h1
    obtain ⟨n,rfl,_⟩:=h1
    simp only [shpOk] at hs
    split at hs
    · rename_i k' hk
      refine hno v ?_ rfl h2
      cases v <;> first | rfl | (simp only [Value.okWide,hk,Cell.okWide,Cell.ok] at hv)
    · cases hs
  | bool =>
    simp only [Fits] at h1
    obtain ⟨n,rfl⟩:=h1
    simp only [shpOk] at hs
    split at hs
    · rename_i hk
      refine hno v ?_ rfl h2
      cases v <;> first | rfl | (simp only [Value.okWide,hk,Cell.okWide,Cell.ok] at hv)
    · cases hs
  | sl s =>
    simp only [Fits] at h1
    obtain ⟨l,rfl,_⟩:=h1
    simp only [shpOk] at hs
    split at hs
    · rename_i e he
      obtain ⟨a,len,cap,rfl⟩:=Go.WideShapes.okWide_slice (sliceB_inv he) hv
      exact hno _ rfl rfl h2
    · cases hs
  | agg ss =>
    simp only [Fits] at h1
    obtain ⟨l,rfl,_⟩:=h1
    simp only [shpOk] at hs
    have:∃ cs,v = .agg cs:=by
      split at hs
      · rename_i ps hp
        unfold partsOf at hp
        split at hp
        · rename_i fs ht
          simp only [Value.okWide,ht] at hv
          obtain ⟨cs,e,_⟩:=hv; exact ⟨cs,e⟩
        · rename_i n e ht
          simp only [Value.okWide,ht] at hv
          obtain ⟨cs,e,_⟩:=hv; exact ⟨cs,e⟩
        · cases hp
      · cases hs
    obtain ⟨cs,rfl⟩:=this
    exact Rv_of h2 rfl
end
theorem law_calls {P:Program} {ι:Nat → FuncId} {pureF:Nat → Bool} {E:CallF} {GP:Nat → Option AFun} (T:Tied P ι pureF E GP) {g:Nat} {xs:List AV} {H':Heap} {b:Bool} {vals:List Value} {W:World}
    (h:call E GP g xs [] = some (.bool true,H',b)) (hr:Rvs (Cx.init ι W) xs vals) (henter:∀ args w,(callFunc (ι g) args).run P w = .ok (.enter (ι g) args) w) :
    Calls P (ι g) vals.toArray W fun e w'=>e = .returned (.bool true) ∧ Below W.heap.size W w':=by
  have hc:=call_sound T g xs [] _ _ _ h W.heap.size (Cx.init ι W) vals rfl (Sim.init ι W) hr
  have hw:(Cx.init ι W).w = W:=rfl
  rw [hw] at hc
  unfold Called at hc
  rw [henter] at hc
  refine Calls.mono hc fun e w' he=>?_
  cases e with
  | returned v =>
    obtain ⟨C',rfl,hst,hv⟩:=he
    exact ⟨by rw [Rv_bool hv],hst.below⟩
  | panicked _=>exact he.elim
  | outgrown=>exact he.elim
end Tor
namespace Tor
open Go
theorem fits_list {S:Shp} {α:Type} {f:α → AV} {Q:α → Prop} (h:∀ y,Fits S y → ∃ p,y = f p ∧ Q p):∀ (l:List AV),(∀ y ∈ l,Fits S y) → ∃ m:List α,l = m.map f ∧ ∀ p ∈ m,Q p
  | [],_=>⟨[],rfl,fun p hp=>by cases hp⟩
  | y :: r,hl=>by
    obtain ⟨p,rfl,hp⟩:=h y (hl y (.head _))
    obtain ⟨m,rfl,hm⟩:=fits_list h r fun z hz=>hl z (.tail _ hz)
    exact ⟨p :: m,rfl,fun q hq=>by
      cases hq with
      | head=>exact hp
      | tail _ hq=>exact hm q hq⟩
end Tor
namespace Tor
open Go
def dS:Shp:=.agg [.int .i8,.int .i8,.int .i8,.int .i8]
theorem fits_gA {y:AV} (h:Fits dS y):∃ p:Dg,y = gA p ∧ p.ok:=by
  simp only [dS,Fits,Fitss] at h
  obtain ⟨l,rfl,x,r,rfl,⟨a,rfl,ha⟩,x2,r2,rfl,⟨b,rfl,hb⟩,x3,r3,rfl,⟨c,rfl,hc⟩,x4,r4,rfl,⟨d,rfl,hd⟩,rfl⟩:=h
  exact ⟨⟨a,b,c,d⟩,rfl,ha,hb,hc,hd⟩
end Tor
namespace Tor
open Go
theorem fits_bA {y:AV} (h:Fits (.int .i8) y):∃ p:Int,y = bA p ∧ (-128 ≤ p ∧ p ≤ 127):=by
  simp only [Fits] at h
  obtain ⟨n,rfl,hn⟩:=h
  exact ⟨n,rfl,hn⟩
end Tor
namespace Tor
open Go
def mulRow (K:Nat) (A B:List (List Int)) (C i:Nat):List Int:=(List.range C).map fun j=>mulE K A B i j
def mulMat (K:Nat) (A B:List (List Int)) (R C:Nat):List (List Int):=(List.range R).map (mulRow K A B C)
def MulOk (K:Nat) (A B:List (List Int)) (i j:Nat):Prop:=∀ n,n < K → Fit (sumN n fun k=>at2 A i k * at2 B k j) ∧ Fit (at2 A i n * at2 B n j) ∧ (limbs (at2 A i n).natAbs).length < 536870000 ∧ (limbs (at2 B n j).natAbs).length < 536870000
variable {E:CallF} (hE:Free E)
include hE
theorem mul_inner (R K C:Nat) (hR:R < 2147483648) (hK:K < 2147483648) (hC:C < 2147483648) (A B:List (List Int)) (sA:Sha R K A) (sB:Sha K C B) (o:Nat) (rs:List Nat) (hrs:rs.length = R) (i j:Nat) (hi:i < R) (hj:j < C) (ok:MulOk K A B i j) (M:List (List Int)) (hM:M.length = R) (x:List Int) (hx:x.length = C) (b7 b8:AV) :
    ∀ (n k:Nat) (H:Heap) (b:Bool),K = k + n → HMat H o R C rs (M.set i (x.set j (sumN k fun k=>at2 A i k * at2 B k j))) →
    ∃ H',run E GP a73l2 { vars:=[MI R K A,MI K C B,.int .i64 0,.int .i64 i,.int .i64 j,.int .i64 k,.bool false,.bool true,.bool true,.u,MI R K A,MI K C B,.agg [.int .i64 0,.int .i64 0,.nl],HV o R R C],heap:=H,rs:=b } =
      some (.exit 4,{ vars:=[MI R K A,MI K C B,.int .i64 0,.int .i64 i,.int .i64 j,.int .i64 K,.bool false,.bool true,.bool true,.bool false,MI R K A,MI K C B,.agg [.int .i64 0,.int .i64 0,.nl],HV o R R C],heap:=H',rs:=b }) ∧
      HMat H' o R C rs (M.set i (x.set j (mulE K A B i j))) ∧ Fr rs H H':=by
  intro n
  induction n with
  | zero =>
    intro k H b h hm
    have hk:k = K:=by omega
    subst hk
    have k1:¬ (k:Int) < (k:Int):=by omega
    refine ⟨H,?_,hm,Fr.refl _ _⟩
    unfold MI HV
    rw [a73l2_run]
    simp (maxSteps:=1000000) only [si,simprocAttr,a73b2,a73R,k1]
  | succ n ih =>
    intro k H b h hm
    have k1:(k:Int) < (K:Int):=by omega
    have ki:(i:Int) < (R:Int):=by omega
    have kj:(j:Int) < (C:Int):=by omega
    have wi:IntKind.i64.wrap ((k:Int) + 1) = ((k + 1:Nat):Int):=i64a (by omega)
    have hlM:i < M.length:=by omega
    have g1:=hm.top
    have g2:=tops_get (C:=C) (rs:=rs) (i:=i) (by omega)
    have g3:=hm.row i (by omega)
    rw [gets_self _ _ _ _ hlM] at g3
    have hxl:j < (x.set j (sumN k fun k=>at2 A i k * at2 B k j)).length:=by simp; omega
    have g4:=rowA_get hxl
    rw [gets_self _ _ _ _ (by omega)] at g4
    have g5:=rowsI_get (A:=A) (i:=i) (by rw [sA.1]; exact hi)
    have g6:=rowA_get (r:=A.getD i []) (i:=k) (by rw [sA.2 i hi]; omega)
    have g7:=rowsI_get (A:=B) (i:=k) (by rw [sB.1]; omega)
    have g8:=rowA_get (r:=B.getD k []) (i:=j) (by rw [sB.2 k (by omega)]; omega)
    rw [show (A.getD i []).getD k 0 = at2 A i k from rfl] at g6
    rw [show (B.getD k []).getD j 0 = at2 B k j from rfl] at g8
    obtain ⟨o1,o2,o3,o4⟩:=ok k (by omega)
    have hmul:=fun H=>r1_mul hE (at2 A i k) (at2 B k j) H (by omega) (by omega) (by omega)
    have hadd:=fun H=>r1_add hE (sumN k fun k=>at2 A i k * at2 B k j) (at2 A i k * at2 B k j) H (by unfold Fit at o1; omega) (by unfold Fit at o2; omega)
    have hset:=rowA_set (x.set j (sumN k fun k=>at2 A i k * at2 B k j)) j ((sumN k fun k=>at2 A i k * at2 B k j) + at2 A i k * at2 B k j)
    have hrow:=hm.setRow (i:=i) (by omega) (r:=(x.set j (sumN k fun k=>at2 A i k * at2 B k j)).set j ((sumN k fun k=>at2 A i k * at2 B k j) + at2 A i k * at2 B k j)) (by simp [hx])
    have e1:(x.set j (sumN k fun k=>at2 A i k * at2 B k j)).set j ((sumN k fun k=>at2 A i k * at2 B k j) + at2 A i k * at2 B k j) = x.set j (sumN (k + 1) fun k=>at2 A i k * at2 B k j):=by rw [List.set_set]; rfl
    rw [e1] at hrow hset
    rw [List.set_set] at hrow
    obtain ⟨H',f1,f2,f3⟩:=ih (k + 1) _ b (by omega) hrow
    refine ⟨H',?_,f2,(Fr.set (getD_mem (by omega)) _).trans f3⟩
    rw [← f1]
    generalize (sumN k fun k=>at2 A i k * at2 B k j) = y at *
    generalize (sumN (k + 1) fun k=>at2 A i k * at2 B k j) = y' at *
    generalize at2 A i k = p at *
    generalize at2 B k j = q at *
    have hrA:=refs_rowsI A
    have hrB:=refs_rowsI B
    unfold MI HV
    conv=>lhs; rw [a73l2_run]
    simp (maxSteps:=1000000) only [si,simprocAttr,a73b2,a73R,k1,ki,kj,wi,g1,g2,g3,g4,g5,g6,g7,g8,hmul,hadd,hset,hrA,hrB]
theorem mul_mid (R K C:Nat) (hR:R < 2147483648) (hK:K < 2147483648) (hC:C < 2147483648) (A B:List (List Int)) (sA:Sha R K A) (sB:Sha K C B) (o:Nat) (rs:List Nat) (hrs:rs.length = R) (i:Nat) (hi:i < R) (ok:∀ j,j < C → MulOk K A B i j) (M:List (List Int)) (hM:M.length = R) :
    ∀ (n j:Nat) (H:Heap) (b:Bool),C = j + n → HMat H o R C rs (M.set i ((List.range j).map (mulE K A B i) ++ List.replicate n 0)) →
    ∃ H',run E GP a73l1 { vars:=[MI R K A,MI K C B,.int .i64 0,.int .i64 i,.int .i64 j,.u,.bool false,.bool true,.u,.u,MI R K A,MI K C B,.agg [.int .i64 0,.int .i64 0,.nl],HV o R R C],heap:=H,rs:=b } =
      some (.exit 2,{ vars:=[MI R K A,MI K C B,.int .i64 0,.int .i64 i,.int .i64 C,.u,.bool false,.bool true,.bool false,.u,MI R K A,MI K C B,.agg [.int .i64 0,.int .i64 0,.nl],HV o R R C],heap:=H',rs:=b }) ∧
      HMat H' o R C rs (M.set i (mulRow K A B C i)) ∧ Fr rs H H':=by
  intro n
  induction n with
  | zero =>
    intro j H b h hm
    have hj:j = C:=by omega
    subst hj
    have k1:¬ (j:Int) < (j:Int):=by omega
    refine ⟨H,?_,by simpa [mulRow] using hm,Fr.refl _ _⟩
    unfold MI HV
    rw [a73l1_run]
    simp (maxSteps:=1000000) only [si,simprocAttr,a73b1,a73R,k1]
  | succ n ih =>
    intro j H b h hm
    have hj:j < C:=by omega
    have k1:(j:Int) < (C:Int):=by omega
    have wi:IntKind.i64.wrap ((j:Int) + 1) = ((j + 1:Nat):Int):=i64a (by omega)
    have hx0:((List.range j).map (mulE K A B i) ++ List.replicate (n + 1) (0:Int)).set j (sumN 0 fun k=>at2 A i k * at2 B k j) = (List.range j).map (mulE K A B i) ++ List.replicate (n + 1) (0:Int):=by
      rw [List.set_append_right _ _ (by simp)]
      simp [List.replicate_succ,sumN]
    obtain ⟨H1,f1,f2,f3⟩:=mul_inner hE R K C hR hK hC A B sA sB o rs hrs i j hi hj (ok j hj) M hM ((List.range j).map (mulE K A B i) ++ List.replicate (n + 1) (0:Int)) (by simp; omega) .u .u K 0 H false (by omega) (by rw [hx0]; exact hm)
    have hx1:((List.range j).map (mulE K A B i) ++ List.replicate (n + 1) (0:Int)).set j (mulE K A B i j) = (List.range (j + 1)).map (mulE K A B i) ++ List.replicate n (0:Int):=by
      rw [List.set_append_right _ _ (by simp)]
      simp [List.replicate_succ,List.range_succ]
    rw [hx1] at f2
    obtain ⟨H',g1,g2,g3⟩:=ih (j + 1) H1 b (by omega) f2
    refine ⟨H',?_,g2,f3.trans g3⟩
    rw [← g1]
    simp only [Int.ofNat_zero] at f1
    have hrA:=refs_rowsI A
    have hrB:=refs_rowsI B
    unfold MI HV at *
    conv=>lhs; rw [a73l1_run]
    simp (maxSteps:=1000000) only [si,simprocAttr,a73b1,a73R,k1,wi,f1,hrA,hrB]
theorem mul_outer (R K C:Nat) (hR:R < 2147483648) (hK:K < 2147483648) (hC:C < 2147483648) (A B:List (List Int)) (sA:Sha R K A) (sB:Sha K C B) (o:Nat) (rs:List Nat) (hrs:rs.length = R) (ok:∀ i j,i < R → j < C → MulOk K A B i j) :
    ∀ (n i:Nat) (H:Heap) (b:Bool),R = i + n → HMat H o R C rs ((List.range i).map (mulRow K A B C) ++ List.replicate n (List.replicate C 0)) →
    ∃ H',run E GP a73l0 { vars:=[MI R K A,MI K C B,.int .i64 0,.int .i64 i,.u,.u,.bool false,.u,.u,.u,MI R K A,MI K C B,.agg [.int .i64 0,.int .i64 0,.nl],HV o R R C],heap:=H,rs:=b } =
      some (.exit 0,{ vars:=[MI R K A,MI K C B,.int .i64 0,.int .i64 R,.u,.u,.bool false,.bool false,.u,.u,MI R K A,MI K C B,.agg [.int .i64 0,.int .i64 0,.nl],HV o R R C],heap:=H',rs:=b }) ∧
      HMat H' o R C rs (mulMat K A B R C) ∧ Fr rs H H':=by
  intro n
  induction n with
  | zero =>
    intro i H b h hm
    have hi:i = R:=by omega
    subst hi
    have k1:¬ (i:Int) < (i:Int):=by omega
    refine ⟨H,?_,by simpa [mulMat] using hm,Fr.refl _ _⟩
    unfold MI HV
    rw [a73l0_run]
    simp (maxSteps:=1000000) only [si,simprocAttr,a73b0,a73R,k1]
  | succ n ih =>
    intro i H b h hm
    have hi:i < R:=by omega
    have k1:(i:Int) < (R:Int):=by omega
    have wi:IntKind.i64.wrap ((i:Int) + 1) = ((i + 1:Nat):Int):=i64a (by omega)
    have hset0:((List.range i).map (mulRow K A B C) ++ List.replicate (n + 1) (List.replicate C (0:Int))).set i (List.replicate C 0) = (List.range i).map (mulRow K A B C) ++ List.replicate (n + 1) (List.replicate C (0:Int)):=by
      rw [List.set_append_right _ _ (by simp)]
      simp [List.replicate_succ]
    obtain ⟨H1,f1,f2,f3⟩:=mul_mid hE R K C hR hK hC A B sA sB o rs hrs i hi (fun j hj=>ok i j hi hj) ((List.range i).map (mulRow K A B C) ++ List.replicate (n + 1) (List.replicate C (0:Int))) (by simp; omega) C 0 H false (by omega) (by simpa using (by rw [hset0]; exact hm:HMat H o R C rs (((List.range i).map (mulRow K A B C) ++ List.replicate (n + 1) (List.replicate C (0:Int))).set i (List.replicate C 0))))
    have hB:((List.range i).map (mulRow K A B C) ++ List.replicate (n + 1) (List.replicate C (0:Int))).set i (mulRow K A B C i) = (List.range (i + 1)).map (mulRow K A B C) ++ List.replicate n (List.replicate C 0):=by
      rw [List.set_append_right _ _ (by simp)]
      simp [List.range_succ,List.replicate_succ]
    rw [hB] at f2
    obtain ⟨H',g1,g2,g3⟩:=ih (i + 1) H1 b (by omega) f2
    refine ⟨H',?_,g2,f3.trans g3⟩
    rw [← g1]
    simp only [Int.ofNat_zero] at f1
    unfold MI HV at *
    conv=>lhs; rw [a73l0_run]
    simp (maxSteps:=1000000) only [si,simprocAttr,a73b0,a73R,k1,wi,f1]
theorem r5_mul (R K C:Nat) (hR:R < 2147483648) (hK:K < 2147483648) (hC:C < 2147483648) (A B:List (List Int)) (sA:Sha R K A) (sB:Sha K C B) (ok:∀ i j,i < R → j < C → MulOk K A B i j) (H:Heap) :
    call E GP 73 [MI R K A,MI K C B] H = some (.tup [MI R C (mulMat K A B R C),.int .i64 0],H,false):=by
  rw [call_fun (hE _ _ _ (by decide)) (f:=a73) rfl rfl]
  obtain ⟨b,hb⟩:=r5_new hE R C hR hC []
  obtain ⟨H',e1,e2,e3⟩:=mul_outer hE R K C hR hK hC A B sA sB 0 (news 0 R) (news_len _ _) ok R 0 (newH 0 R C) (false || b) (by omega) (by simpa using newH_mat [] R C)
  have hz:=fz_HV e2 (news_len _ _) 2
  have hrA:=refs_rowsI A
  have hrB:=refs_rowsI B
  have hrM:=refs_rowsI (mulMat K A B R C)
  have hsM:=solids_rowsI (mulMat K A B R C)
  unfold HV MI at *
  simp only [Int.ofNat_zero,List.length_nil,List.nil_append,Bool.false_or] at e1 hb
  simp (maxSteps:=1000000) only [si,simprocAttr,a73,a73R,hb,e1,hz,hrA,hrB,hrM,hsM,ne_eq,not_true_eq_false]
end Tor
namespace Tor
open Go
variable {E:CallF} (hE:Free E)
include hE
theorem r5_product (R K C:Nat) (hR:R < 2147483648) (hK:K < 2147483648) (hC:C < 2147483648) (A B:List (List Int)) (sA:Sha R K A) (sB:Sha K C B) (ok:∀ i j,i < R → j < C → MulOk K A B i j) (H:Heap) :
    call E GP 60 [MI R K A,MI K C B] H = some (MI R C (mulMat K A B R C),H,false):=by
  rw [call_fun (hE _ _ _ (by decide)) (f:=a60) rfl rfl]
  have hm:=fun H=>r5_mul hE R K C hR hK hC A B sA sB ok H
  have hrf:=refs_rowsI
  have hso:=solids_rowsI
  unfold MI at *
  simp (maxSteps:=1000000) only [si,simprocAttr,a60,a60R,hm,hrf,hso]
end Tor
namespace Tor
open Go
theorem bnd_look (c:List Cel) (hc:∀ id,Canon none (cellOf? c id).b) (k:Int):∀ (x a:List (Int × Int)),Canon none a → lookL k (x.foldl (bndF c) a) = lookL k a + lin (fun i=>lookL k (cellOf? c i).b) x
  | [],a,_=>by simp [lin]
  | p :: r,a,h=>by
    obtain ⟨h1,h2⟩:=add_law p.2 (cellOf? c p.1).b a h
    rw [List.foldl_cons,bnd_look c hc k r (bndF c a p) h1,show bndF c a p = add26 a (cellOf? c p.1).b p.2 from rfl,h2,tot_canon k _ none (hc p.1)]
    simp only [lin]; omega
theorem bnd_lin (c:List Cel) (f:Int → Int):∀ (x a:List (Int × Int)),lin f (x.foldl (bndF c) a) = lin f a + lin (fun i=>lin f (cellOf? c i).b) x
  | [],a=>by simp [lin]
  | p :: r,a=>by
    rw [List.foldl_cons,bnd_lin c f r]
    unfold bndF
    rw [lin_add]
    simp only [lin]; omega
theorem lin_zero {f:Int → Int}:∀ {x:List (Int × Int)},(∀ p ∈ x,f p.1 = 0) → lin f x = 0
  | [],_=>rfl
  | p :: r,h=>by simp only [lin]; rw [h p (.head _),lin_zero (fun q hq=>h q (.tail _ hq))]; simp
theorem canon_zero {l:List (Int × Int)} (h:Canon none l) (hz:∀ k,lookL k l = 0):l = [] :=
  canon_ext l [] none none h trivial fun k=>by rw [hz]; rfl
theorem dim_of {c:List Cel} {s:GS} {m:Nat} (g:Good c s m) {k:Int} {x:List (Int × Int)} (hx:∀ p ∈ x,p.1 ∈ cellsC c k):dim26 c x = (if x = [] then -1 else k,0):=by
  have hf:∀ p ∈ x,(findC c p.1).isSome = true ∧ (cellOf? c p.1).dim = k:=fun p hp=>by
    obtain ⟨y,hy,hd,hid⟩:=cells_mem.1 (hx p hp)
    rw [← hid]
    exact ⟨by rw [find_mem g.ids hy]; rfl,by rw [cellC_mem g.ids hy]; exact hd⟩
  unfold dim26
  rw [dim_all c k x true (-1) false (fun p hp=>(hf p hp).1) (fun p hp=>(hf p hp).2) (.inl rfl)]
  rfl
theorem cn_of {c:List Cel} {s:GS} {m:Nat} (g:Good c s m) (id:Int):Canon none (cellOf? c id).b:=by
  unfold cellOf?
  cases hf:findC c id with
  | none=>trivial
  | some y=>exact g.cn y (List.mem_of_find?_eq_some hf)
theorem bnd_down {c:List Cel} {s:GS} {m:Nat} (g:Good c s m) {k:Int} {x:List (Int × Int)} (hx:∀ p ∈ x,p.1 ∈ cellsC c k):∀ p ∈ bnd26 c x,p.1 ∈ cellsC c (k - 1) :=
  bnd_keys c (· ∈ cellsC c (k - 1)) x [] (fun p hp q hq=>by
    obtain ⟨y,hy,hd,hid⟩:=cells_mem.1 (hx p hp)
    rw [← hid,cellC_mem g.ids hy] at hq
    have:=g.key y hy q hq
    rw [hd] at this; exact this) (fun p hp=>by cases hp)
theorem bnd_bnd {c:List Cel} {s:GS} {m:Nat} (g:Good c s m) {k:Int} {x:List (Int × Int)} (hx:∀ p ∈ x,p.1 ∈ cellsC c k):bnd26 c (bnd26 c x) = []:=by
  refine canon_zero (bnd_canon c _) fun id=>?_
  unfold bnd26
  rw [bnd_look c (cn_of g) id _ [] trivial,bnd_lin]
  have:lin (fun i=>lin (fun i=>lookL id (cellOf? c i).b) (cellOf? c i).b) x = 0:=lin_zero fun p hp=>by
    obtain ⟨y,hy,hd,hid⟩:=cells_mem.1 (hx p hp)
    rw [← hid,cellC_mem g.ids hy]
    exact g.bb y hy id
  rw [this]; rfl
theorem bnd_one {c:List Cel} {s:GS} {m:Nat} (g:Good c s m) {y:Cel} (hy:y ∈ c):bnd26 c [(y.id,1)] = y.b:=by
  refine canon_ext _ _ none none (bnd_canon c _) (g.cn y hy) fun k=>?_
  unfold bnd26
  rw [bnd_look c (cn_of g) k _ [] trivial]
  simp [lookL,lin,cellC_mem g.ids hy]
end Tor
namespace Tor
open Go
class Fl {α:Type} (e:α → AV) where
  d:Nat
  s:Nat
  ref:∀ x,(e x).hasRef = false
  sol:∀ x,(e x).solid = true
  fz:∀ n H k x,fz n H (k + d) (e x) = e x
  sz:∀ x,(e x).size = s
section
variable {α:Type} {e:α → AV} [F:Fl e]
theorem fl_ref:∀ l:List α,AV.hasRefs (l.map e) = false
  | []=>rfl
  | x :: r=>by simp only [List.map_cons,AV.hasRefs,F.ref,fl_ref r,Bool.or_self]
theorem fl_sol:∀ l:List α,AV.solids (l.map e) = true
  | []=>rfl
  | x :: r=>by simp only [List.map_cons,AV.solids,F.sol,fl_sol r,Bool.and_self]
theorem fl_fz {n H k} {l:List α} (h:Fl.d e ≤ k):(l.map e).map (fz n H k) = l.map e:=by
  obtain ⟨j,rfl⟩:=Nat.exists_eq_add_of_le' h
  rw [List.map_map]; apply List.map_congr_left; intro y _; exact F.fz n H j y
theorem fl_hd {s:Nat} {l:List α} (h:s = Fl.s e):headSize s (l.map e) = true:=by
  subst h
  cases l with
  | nil=>rfl
  | cons x r=>simp [headSize,F.sz]
end
theorem gM {α:Type} {f:α → AV} {l:List α} {i:Nat} (h:i < l.length):(l.map f)[i]? = some (f l[i]):=by simp [h]
theorem w64 {n:Int} (h:-9223372036854775808 ≤ n ∧ n ≤ 9223372036854775807):IntKind.i64.wrap n = n:=i64w h
instance flfA:Fl fA where
  d:=3
  s:=3
  ref:=fA_ref
  sol p:=by simp [fA,AV.solid,AV.solids,Z_solid]
  fz n H k p:=fz_fA n H k p
  sz p:=by simp [fA,AV.size,AV.sizes,Z_size]
instance flcA:Fl cA where
  d:=6
  s:=3
  ref:=cA_ref
  sol x:=by simp [cA,AV.solid,AV.solids,refs_fA,solids_fA]
  fz:=fz_cA
  sz x:=by simp [cA,AV.size,AV.sizes]
instance fliA:Fl iA where
  d:=1
  s:=1
  ref _:=rfl
  sol _:=rfl
  fz _ _ _ _:=rfl
  sz _:=rfl
instance flbA:Fl bA where
  d:=1
  s:=1
  ref _:=rfl
  sol _:=rfl
  fz _ _ _ _:=rfl
  sz _:=rfl
def mA (p:Int × List (Int × Int)):AV:=.agg [.int .i64 p.1,.isl (p.2.map fA)]
instance flmA:Fl mA where
  d:=2
  s:=2
  ref p:=by simp [mA,AV.hasRef,AV.hasRefs]
  sol p:=by simp [mA,AV.solid,AV.solids,refs_fA,solids_fA]
  fz n H k p:=by simp only [mA,fz,List.map_cons,List.map_nil]
  sz p:=by simp [mA,AV.size,AV.sizes]
theorem loop_ind {E:CallF} {GP:Nat → Option AFun} {l:AIR} (S:Nat → St) (r:Option (Ex × St)):∀ n,(∀ i,i < n → run E GP l (S i) = run E GP l (S (i + 1))) → run E GP l (S n) = r → run E GP l (S 0) = r
  | 0,_,h=>h
  | n + 1,hs,h=>loop_ind S r n (fun i hi=>hs i (by omega)) ((hs n (by omega)).trans h)
theorem sf:type_of% (And.intro (And.intro (And.intro (@fl_ref) (@fl_sol)) (And.intro (@fl_fz) (@fl_hd))) (And.intro (And.intro (@gM) (@w64)) (And.intro (@Int.ofNat_lt) (@Int.natCast_add)))):=And.intro (And.intro (And.intro (@fl_ref) (@fl_sol)) (And.intro (@fl_fz) (@fl_hd))) (And.intro (And.intro (@gM) (@w64)) (And.intro (@Int.ofNat_lt) (@Int.natCast_add)))
end Tor
namespace Tor
open Go
abbrev Mp:=List (Int × List (Int × Int))
def findM (m:Mp) (id:Int):Option (List (Int × Int)):=(m.find? fun p=>decide (p.1 = id)).map (·.2)
def imgF (m:Mp) (id:Int):List (Int × Int):=(findM m id).getD []
variable {E:CallF} (hE:Free E)
include hE
def fst242 (m:Mp) (id:Int) (i:Nat) (w5:AV):St:={ vars:=[.isl (m.map mA),.int .i64 id,.isl [],.bool false,.int .i64 (i:Nat),w5,.u],heap:=[],rs:=false }
theorem find242_loop (m:Mp) (id:Int) (hm:m.length < 2147483648):∀ (n i:Nat),m.length = i + n →
    (findM (m.drop i) id = none → run E GP a242l0 (fst242 m id i .u) = some (.exit 0,fst242 m id m.length (.bool false))) ∧
    (∀ y,findM (m.drop i) id = some y → ∃ w4,run E GP a242l0 (fst242 m id i .u) = some (.ret,{ vars:=[.isl (m.map mA),.int .i64 id,.isl (y.map fA),.bool true,w4,.bool true,.bool true],heap:=[],rs:=false })):=by
  intro n
  induction n with
  | zero =>
    intro i h
    have hi:i = m.length:=by omega
    subst hi
    rw [List.drop_length]
    refine ⟨fun _=>?_,fun y hy=>by cases hy⟩
    unfold fst242
    rw [a242l0_run]
    simp (maxSteps:=1000000) (disch:=first | omega | decide) only [si,sf,simprocAttr,a242b0,a242R,Nat.lt_irrefl]
  | succ n ih =>
    intro i h
    have hi:i < m.length:=by omega
    obtain ⟨ih1,ih2⟩:=ih (i + 1) (by omega)
    rw [List.drop_eq_getElem_cons hi]
    have e1:∀ r,findM (m[i] :: r) id = if m[i].1 = id then some m[i].2 else findM r id:=fun r=>by
      unfold findM
      by_cases hq:m[i].1 = id <;> simp [hq]
    rw [e1]
    by_cases hq:m[i].1 = id
    · rw [if_pos hq]
      refine ⟨fun h=>(by cases h),fun y hy=>?_⟩
      cases hy
      refine ⟨.int .i64 i,?_⟩
      unfold fst242
      rw [a242l0_run]
      simp (maxSteps:=1000000) (disch:=first | omega | decide) only [si,sf,simprocAttr,a242b0,a242R,hi,mA,hq]
    · rw [if_neg hq]
      have key:run E GP a242l0 (fst242 m id i .u) = run E GP a242l0 (fst242 m id (i + 1) .u):=by
        unfold fst242
        conv=>lhs; rw [a242l0_run]
        simp (maxSteps:=1000000) (disch:=first | omega | decide) only [si,sf,simprocAttr,a242b0,a242R,hi,mA,hq]
      rw [key]
      exact ⟨ih1,ih2⟩
theorem r29_find (m:Mp) (id:Int) (hm:m.length < 2147483648) (H:Heap) :
    call E GP 242 [.isl (m.map mA),.int .i64 id] H = some (.tup [.isl ((imgF m id).map fA),.bool (findM m id).isSome],H,false):=by
  rw [call_fun (hE _ _ _ (by decide)) (f:=a242) rfl rfl]
  obtain ⟨h1,h2⟩:=find242_loop hE m id hm m.length 0 (by omega)
  unfold fst242 at h1 h2
  simp only [List.drop_zero,Int.ofNat_zero] at h1 h2
  unfold imgF
  cases hf:findM m id with
  | none =>
    have h1:=h1 hf
    simp only [Option.getD_none,Option.isSome_none,List.map_nil]
    simp (maxSteps:=1000000) (disch:=first | omega | decide) only [si,sf,simprocAttr,a242,a242R,h1]
  | some y =>
    obtain ⟨w,h2⟩:=h2 y hf
    simp only [Option.getD_some,Option.isSome_some]
    simp (maxSteps:=1000000) (disch:=first | omega | decide) only [si,sf,simprocAttr,a242,a242R,h2]
omit hE in
theorem first_bad (P:Nat → Prop):∀ n,(∀ i,i < n → P i) ∨ ∃ j,j < n ∧ ¬ P j ∧ ∀ i,i < j → P i
  | 0=>.inl fun i h=>by omega
  | n + 1=>by
    rcases first_bad P n with h | ⟨j,h1,h2,h3⟩
    · by_cases hn:P n
      · exact .inl fun i hi=>by
          by_cases e:i = n
          · subst e; exact hn
          · exact h i (by omega)
      · exact .inr ⟨n,by omega,hn,h⟩
    · exact .inr ⟨j,by omega,h2,h3⟩
def appF (F:Int → List (Int × Int)) (x:List (Int × Int)):List (Int × Int):=x.foldl (fun a p=>add26 a (F p.1) p.2) []
omit hE in
theorem appF_succ (F:Int → List (Int × Int)) {x:List (Int × Int)} {i:Nat} (hi:i < x.length):appF F (x.take (i + 1)) = add26 (appF F (x.take i)) (F x[i].1) x[i].2:=by
  unfold appF
  rw [List.take_succ_eq_append_getElem hi,List.foldl_append]; rfl
omit hE in
theorem appF_bd (F:Int → List (Int × Int)) (A N L:Nat) (hF:∀ id,Bd N (F id) ∧ (F id).length ≤ L):∀ (x a:List (Int × Int)) (M K:Nat),(∀ p ∈ x,p.2.natAbs ≤ A) → Bd M a → a.length ≤ K →
    Bd (M + A * N * L * x.length) (x.foldl (fun a p=>add26 a (F p.1) p.2) a) ∧ (x.foldl (fun a p=>add26 a (F p.1) p.2) a).length ≤ K + L * x.length
  | [],a,M,K,_,h1,h2=>by simpa using ⟨h1,h2⟩
  | p :: r,a,M,K,hx,h1,h2=>by
    obtain ⟨n1,n2⟩:=hF p.1
    have hp:∀ q ∈ F p.1,(p.2 * q.2).natAbs ≤ A * N:=fun q hq=>by
      rw [Int.natAbs_mul]; exact Nat.mul_le_mul (hx p (.head _)) (n1 q hq)
    obtain ⟨b1,b2⟩:=add_bd p.2 (F p.1) a M hp h1
    have hL:A * N * (F p.1).length ≤ A * N * L:=Nat.mul_le_mul_left _ n2
    obtain ⟨c1,c2⟩:=appF_bd F A N L hF r _ (M + A * N * L) (K + L) (fun q hq=>hx q (.tail _ hq)) (bd_mono (by omega) b1) (by omega)
    rw [List.foldl_cons,List.length_cons,Nat.mul_succ,Nat.mul_succ]
    exact ⟨bd_mono (by omega) c1,by omega⟩
theorem r29_apply (m:Mp) (x:List (Int × Int)) (A N L:Nat) (hm:m.length < 2147483648) (hxl:x.length < 100000) (hx:∀ p ∈ x,p.2.natAbs ≤ A) (hF:∀ id,Bd N (imgF m id) ∧ (imgF m id).length ≤ L) (hL:L < 10000)
    (hA:A < BIG) (hN:N < BIG) (hB:A * N * (L + 1) * (x.length + 1) < BIG) (H:Heap) :
    call E GP 243 [.isl (m.map mA),.isl (x.map fA)] H = some (if (∀ p ∈ x,(findM m p.1).isSome = true) then .tup [.isl ((appF (imgF m) x).map fA),.int .i64 0] else .tup [.isl [],.int .i64 290],H,false):=by
  rw [call_fun (hE _ _ _ (by decide)) (f:=a243) rfl rfl]
  have hfind:=fun id H=>r29_find hE m id hm H
  let S:Nat → St:=fun i=>{ vars:=[.isl (m.map mA),.isl (x.map fA),.isl [],.int .i64 0,.isl ((appF (imgF m) (x.take i)).map fA),.int .i64 (i:Nat),.u,.u,.u,.u],heap:=[],rs:=false }
  have hstep:∀ i,i < x.length → (∀ hi:i < x.length,(findM m x[i].1).isSome = true) → run E GP a243l0 (S i) = run E GP a243l0 (S (i + 1)):=by
    intro i hi hs
    have hs:=hs hi
    have hxi:=hx x[i] (List.getElem_mem hi)
    obtain ⟨n1,n2⟩:=hF x[i].1
    have lt:(x.take i).length = i:=by simp; omega
    obtain ⟨b1,b2⟩:=appF_bd (imgF m) A N L hF (x.take i) [] 0 0 (fun p hp=>hx p (List.mem_of_mem_take hp)) (fun p hp=>by cases hp) (Nat.le_refl _)
    rw [lt] at b1 b2
    have q1:A * N * (L + 1) * (x.length + 1) = A * N * (L + 1) * x.length + A * N * (L + 1):=Nat.mul_succ _ _
    have q2:A * N * L * i ≤ A * N * (L + 1) * x.length:=Nat.mul_le_mul (Nat.mul_le_mul_left _ (by omega)) (by omega)
    have q3:A * N * ((imgF m x[i].1).length + 1) ≤ A * N * (L + 1):=Nat.mul_le_mul_left _ (by omega)
    have q4:L * i ≤ 10000 * 100000:=Nat.mul_le_mul (by omega) (by omega)
    have hadd:=fun H=>r26_add hE (appF (imgF m) (x.take i)) (imgF m x[i].1) x[i].2 _ (A * N) b1 (sm_of hA (by simpa using hxi)) (fun p hp=>sm_of hN (n1 p hp)) (fun q hq=>by rw [Int.natAbs_mul]; exact Nat.mul_le_mul hxi (n1 q hq)) (by unfold appF; omega) (by omega) (by omega) H
    rw [← appF_succ _ hi] at hadd
    have hfi:=hfind x[i].1
    rw [hs] at hfi
    show run E GP a243l0 { vars:=_,heap:=_,rs:=_ } = run E GP a243l0 { vars:=_,heap:=_,rs:=_ }
    generalize imgF m x[i].1 = y at *
    generalize appF (imgF m) (x.take (i + 1)) = a2 at *
    generalize appF (imgF m) (x.take i) = a1 at *
    conv=>lhs; rw [a243l0_run]
    simp (maxSteps:=1000000) (disch:=first | omega | decide) only [si,sf,simprocAttr,a243b0,a243R,hi,fA,hfi,hadd]
  rcases first_bad (fun i=>∀ hi:i < x.length,(findM m x[i].1).isSome = true) x.length with hall | ⟨j,hj,hbad,hbefore⟩
  · have hp:∀ p ∈ x,(findM m p.1).isSome = true:=fun p hp=>by
      obtain ⟨i,hi,rfl⟩:=List.getElem_of_mem hp
      exact hall i hi hi
    rw [if_pos hp]
    have hl:=loop_ind S _ x.length (fun i hi=>hstep i hi (hall i hi)) rfl
    have he:run E GP a243l0 (S x.length) = some (.exit 0,{ vars:=[.isl (m.map mA),.isl (x.map fA),.isl [],.int .i64 0,.isl ((appF (imgF m) x).map fA),.int .i64 x.length,.u,.u,.bool false,.u],heap:=[],rs:=false }):=by
      show run E GP a243l0 { vars:=_,heap:=_,rs:=_ } = _
      rw [List.take_length]
      rw [a243l0_run]
      simp (maxSteps:=1000000) (disch:=first | omega | decide) only [si,sf,simprocAttr,a243b0,a243R,Nat.lt_irrefl]
    rw [he] at hl
    have hl:run E GP a243l0 { vars:=[.isl (m.map mA),.isl (x.map fA),.isl [],.int .i64 0,.isl [],.int .i64 0,.u,.u,.u,.u],heap:=[],rs:=false } = _:=hl
    simp (maxSteps:=1000000) (disch:=first | omega | decide) only [si,sf,simprocAttr,a243,a243R,hl]
  · have hnp:¬ ∀ p ∈ x,(findM m p.1).isSome = true:=fun h=>hbad fun hi=>h _ (List.getElem_mem hi)
    rw [if_neg hnp]
    have hl:=loop_ind S _ j (fun i hi=>hstep i (by omega) (hbefore i hi)) rfl
    have hfi:=hfind x[j].1
    have hno:(findM m x[j].1).isSome = false:=by
      cases h:(findM m x[j].1).isSome with
      | false=>rfl
      | true=>exact absurd (fun _=>h) hbad
    rw [hno] at hfi
    have he:∃ w1 w2,run E GP a243l0 (S j) = some (.ret,{ vars:=[.isl (m.map mA),.isl (x.map fA),.isl [],.int .i64 290,w1,.int .i64 j,w2,.bool false,.bool true,.bool true],heap:=[],rs:=false }):=by
      show ∃ w1 w2,run E GP a243l0 { vars:=_,heap:=_,rs:=_ } = _
      generalize imgF m x[j].1 = y at *
      generalize appF (imgF m) (x.take j) = a1 at *
      rw [a243l0_run]
      refine ⟨.isl (a1.map fA),.isl (y.map fA),?_⟩
      simp (maxSteps:=1000000) (disch:=first | omega | decide) only [si,sf,simprocAttr,a243b0,a243R,hj,fA,hfi]
    obtain ⟨w1,w2,he⟩:=he
    rw [he] at hl
    have hl:run E GP a243l0 { vars:=[.isl (m.map mA),.isl (x.map fA),.isl [],.int .i64 0,.isl [],.int .i64 0,.u,.u,.u,.u],heap:=[],rs:=false } = _:=hl
    simp (maxSteps:=1000000) (disch:=first | omega | decide) only [si,sf,simprocAttr,a243,a243R,hl]
end Tor
namespace Tor
open Go
def idsC (c:List Cel):List Int:=c.map (·.id)
structure GC (S:List Int) (u:Nat) (x:List (Int × Int)):Prop where
  can:Canon none x
  bd:Bd (2 ^ u) x
  key:∀ p ∈ x,p.1 ∈ S
theorem canon_lt:∀ (x:List (Int × Int)) (b:Option Int),Canon b x → (∀ p ∈ x,∀ m,b = some m → m < p.1) ∧ (x.map (·.1)).Pairwise (· < ·)
  | [],b,_=>⟨fun p hp=>(by cases hp),.nil⟩
  | (j,v) :: r,b,h=>by
    obtain ⟨h1,h2⟩:=canon_lt r (some j) h.2.2
    refine ⟨fun p hp m hm=>?_,List.pairwise_cons.2 ⟨fun k hk=>?_,h2⟩⟩
    · have:=h.1 m hm
      cases hp with
      | head=>exact this
      | tail _ hp=>have:=h1 p hp j rfl; omega
    · obtain ⟨p,hp,rfl⟩:=List.mem_map.1 hk
      exact h1 p hp j rfl
theorem sub_len:∀ (l S:List Int),l.Nodup → (∀ k ∈ l,k ∈ S) → l.length ≤ S.length
  | [],_,_,_=>Nat.zero_le _
  | k :: r,S,h,hs=>by
    obtain ⟨h1,h2⟩:=List.nodup_cons.1 h
    have hk:=hs k (.head _)
    have:=sub_len r (S.erase k) h2 fun j hj=>(List.mem_erase_of_ne (fun e=>h1 (by rw [← e]; exact hj))).2 (hs j (.tail _ hj))
    rw [List.length_erase_of_mem hk] at this
    have:=List.length_pos_of_mem hk
    simp only [List.length_cons]; omega
theorem GC.len {S u x} (h:GC S u x):x.length ≤ S.length:=by
  have h1:=(canon_lt x none h.can).2
  have h2:(x.map (·.1)).Nodup:=h1.imp fun h=>by omega
  have:=sub_len (x.map (·.1)) S h2 fun k hk=>by
    obtain ⟨p,hp,rfl⟩:=List.mem_map.1 hk
    exact h.key p hp
  simpa using this
theorem GC.mono {S u v x} (h:GC S u x) (huv:u ≤ v):GC S v x:=⟨h.can,fun p hp=>Nat.le_trans (h.bd p hp) (Nat.pow_le_pow_right (by decide) huv),h.key⟩
theorem GC.sub {S S' u x} (h:GC S u x) (hs:∀ k ∈ S,k ∈ S'):GC S' u x:=⟨h.can,h.bd,fun p hp=>hs _ (h.key p hp)⟩
theorem GC.nil {S u}:GC S u []:=⟨trivial,fun p hp=>(by cases hp),fun p hp=>(by cases hp)⟩
theorem GC.one {S:List Int} {u:Nat} {k n:Int} (hk:k ∈ S) (hn:n ≠ 0) (hb:n.natAbs ≤ 2 ^ u):GC S u [(k,n)] :=
  ⟨⟨fun m hm=>(by cases hm),hn,trivial⟩,fun p hp=>(by rw [List.mem_singleton] at hp; subst hp; exact hb),fun p hp=>(by rw [List.mem_singleton] at hp; subst hp; exact hk)⟩
theorem pow_le {a b:Nat} (h:a ≤ b):2 ^ a ≤ 2 ^ b:=Nat.pow_le_pow_right (by decide) h
theorem pow5_big {a:Nat} (h:a ≤ 15000000000):2 ^ a < BIG:=Nat.lt_of_lt_of_le (Nat.pow_lt_pow_right (by decide) (Nat.lt_succ_self a)) (two_big (by omega))
theorem GC.sm {S u x} (h:GC S u x) (hu:u ≤ 15000000000):∀ p ∈ x,Sm p:=fun p hp=>sm_of (pow5_big hu) (h.bd p hp)
theorem GC.ch {S u x L} (h:GC S u x) (hS:S.length ≤ L) (hi:∀ k ∈ S,in64 k = true):Ch (2 ^ u) L x:=⟨h.can,h.bd,Nat.le_trans h.len hS,fun p hp=>hi _ (h.key p hp)⟩
theorem gadd {S:List Int} {s t r u:Nat} {a b:List (Int × Int)} {n:Int} (hS:S.length ≤ 11) (ha:GC S s a) (hb:GC S t b) (hn:n.natAbs ≤ 2 ^ r) (h1:s + 1 ≤ u) (h2:r + t + 5 ≤ u) (hu:u ≤ 15000000000) :
    (∀ (E:CallF),Free E → ∀ H,call E GP 16 [.isl (a.map fA),.isl (b.map fA),Z n] H = some (.isl ((add26 a b n).map fA),H,false)) ∧ GC S u (add26 a b n):=by
  have hp:∀ p ∈ b,(n * p.2).natAbs ≤ 2 ^ (r + t):=fun p hp=>by
    rw [Int.natAbs_mul,Nat.pow_add]; exact Nat.mul_le_mul hn (hb.bd p hp)
  have lb:=hb.len
  have la:=ha.len
  have e1:2 ^ (r + t) * (b.length + 1) ≤ 2 ^ (r + t) * 16:=Nat.mul_le_mul_left _ (by omega)
  have e3:2 ^ (r + t + 5) = 2 ^ (r + t) * 32:=by rw [Nat.pow_add 2 (r + t) 5]
  have e4:2 ^ s + 2 ^ s = 2 ^ (s + 1):=by rw [Nat.pow_succ]; omega
  have e5:=pow_le h1
  have e6:=pow_le h2
  have e7:2 ^ (r + t) * b.length ≤ 2 ^ (r + t) * 16:=Nat.mul_le_mul_left _ (by omega)
  refine ⟨fun E hE H=>r26_add hE a b n _ (2 ^ (r + t)) ha.bd (sm_of (pow5_big (a:=r) (by omega)) (by simpa using hn)) (hb.sm (by omega)) hp (by omega) (by omega) (by have:=pow5_big hu; omega) H,?_⟩
  obtain ⟨b1,_⟩:=add_bd n b a (2 ^ s) hp ha.bd
  exact ⟨(add_law n b a ha.can).1,bd_mono (by omega) b1,add_keys n b a hb.key ha.key⟩
theorem gapp {S S':List Int} {F:Int → List (Int × Int)} {s t u:Nat} {x:List (Int × Int)} (hS:S.length ≤ 11) (hS':S'.length ≤ 11) (hx:GC S' s x) (hF:∀ id,GC S t (F id)) (h1:s + t + 7 ≤ u) :
    GC S u (appF F x):=by
  obtain ⟨b1,_⟩:=appF_bd F (2 ^ s) (2 ^ t) 11 (fun id=>⟨(hF id).bd,Nat.le_trans (hF id).len hS⟩) x [] 0 0 hx.bd (fun p hp=>by cases hp) (Nat.le_refl _)
  have lx:=hx.len
  have e1:2 ^ s * 2 ^ t * 11 * x.length ≤ 2 ^ s * 2 ^ t * 11 * 11:=Nat.mul_le_mul_left _ (by omega)
  have e2:2 ^ s * 2 ^ t * 11 * 11 ≤ 2 ^ (s + t + 7):=by
    rw [Nat.pow_add,Nat.pow_add,Nat.mul_assoc]; exact Nat.mul_le_mul_left _ (by decide)
  have e3:=pow_le h1
  have hc:∀ (x a:List (Int × Int)),Canon none a → (∀ p ∈ a,p.1 ∈ S) → Canon none (x.foldl (fun a p=>add26 a (F p.1) p.2) a) ∧ ∀ p ∈ x.foldl (fun a p=>add26 a (F p.1) p.2) a,p.1 ∈ S:=by
    intro x
    induction x with
    | nil=>exact fun a h1 h2=>⟨h1,h2⟩
    | cons p r ih=>exact fun a h1 h2=>ih _ (add_law p.2 (F p.1) a h1).1 (add_keys p.2 (F p.1) a (hF p.1).key h2)
  obtain ⟨c1,c2⟩:=hc x [] trivial (fun p hp=>by cases hp)
  exact ⟨c1,bd_mono (by omega) b1,c2⟩
theorem appF_look (F:Int → List (Int × Int)) (hF:∀ id,Canon none (F id)) (k:Int):∀ (x a:List (Int × Int)),Canon none a → lookL k (x.foldl (fun a p=>add26 a (F p.1) p.2) a) = lookL k a + lin (fun i=>lookL k (F i)) x
  | [],a,_=>by simp [lin]
  | p :: r,a,h=>by
    obtain ⟨h1,h2⟩:=add_law p.2 (F p.1) a h
    rw [List.foldl_cons,appF_look F hF k r _ h1,h2,tot_canon k _ none (hF p.1)]
    simp only [lin]; omega
theorem app_look (F:Int → List (Int × Int)) (hF:∀ id,Canon none (F id)) (k:Int) (x:List (Int × Int)):lookL k (appF F x) = lin (fun i=>lookL k (F i)) x:=by
  unfold appF; rw [appF_look F hF k x [] trivial]; simp [lookL]
theorem app_canon (F:Int → List (Int × Int)) (x:List (Int × Int)):Canon none (appF F x):=by
  have hc:∀ (x a:List (Int × Int)),Canon none a → Canon none (x.foldl (fun a p=>add26 a (F p.1) p.2) a):=by
    intro x
    induction x with
    | nil=>exact fun a h1=>h1
    | cons p r ih=>exact fun a h1=>ih _ (add_law p.2 (F p.1) a h1).1
  exact hc x [] trivial
theorem app_lin (f:Int → Int) (F:Int → List (Int × Int)):∀ (x a:List (Int × Int)),lin f (x.foldl (fun a p=>add26 a (F p.1) p.2) a) = lin f a + lin (fun i=>lin f (F i)) x
  | [],a=>by simp [lin]
  | p :: r,a=>by
    rw [List.foldl_cons,app_lin f F r,lin_add]
    simp only [lin]; omega
variable {E:CallF} (hE:Free E)
include hE
theorem r29_image (m:Mp) (x:List (Int × Int)) (A N L:Nat) (hm:m.length < 2147483648) (hxl:x.length < 100000) (hx:∀ p ∈ x,p.2.natAbs ≤ A) (hF:∀ id,Bd N (imgF m id) ∧ (imgF m id).length ≤ L) (hL:L < 10000)
    (hA:A < BIG) (hN:N < BIG) (hB:A * N * (L + 1) * (x.length + 1) < BIG) (hall:∀ p ∈ x,(findM m p.1).isSome = true) (H:Heap) :
    call E GP 221 [.isl (m.map mA),.isl (x.map fA)] H = some (.isl ((appF (imgF m) x).map fA),H,false):=by
  rw [call_fun (hE _ _ _ (by decide)) (f:=a221) rfl rfl]
  have h:=fun H=>r29_apply hE m x A N L hm hxl hx hF hL hA hN hB H
  rw [if_pos hall] at h
  generalize appF (imgF m) x = y at *
  simp (maxSteps:=1000000) (disch:=first | omega | decide) only [si,sf,simprocAttr,a221,a221R,h]
theorem r26_scale {S:List Int} {t r:Nat} {b:List (Int × Int)} {n:Int} (hS:S.length ≤ 11) (hb:GC S t b) (hn:n.natAbs ≤ 2 ^ r) (hu:r + t ≤ 14000000000) (H:Heap) :
    call E GP 246 [.isl (b.map fA),Z n] H = some (.isl ((add26 [] b n).map fA),H,false):=by
  rw [call_fun (hE _ _ _ (by decide)) (f:=a246) rfl rfl]
  have h:=(gadd hS (GC.nil (u:=0)) hb hn (u:=r + t + 5) (by omega) (by omega) (by omega)).1 E hE
  simp only [List.map_nil] at h
  generalize add26 [] b n = y at *
  simp (maxSteps:=1000000) (disch:=first | omega | decide) only [si,sf,simprocAttr,a246,a246R,h]
theorem r26_edge {c:List Cel} {x y:List (Int × Int)} {e:Int} (h:∀ H,call E GP 7 [.isl (c.map cA),.isl (x.map fA)] H = some (.tup [.isl (y.map fA),.int .i64 e],H,false)) (H:Heap) :
    call E GP 244 [.isl (c.map cA),.isl (x.map fA)] H = some (.isl (y.map fA),H,false):=by
  rw [call_fun (hE _ _ _ (by decide)) (f:=a244) rfl rfl]
  simp (maxSteps:=1000000) (disch:=first | omega | decide) only [si,sf,simprocAttr,a244,a244R,h]
end Tor
