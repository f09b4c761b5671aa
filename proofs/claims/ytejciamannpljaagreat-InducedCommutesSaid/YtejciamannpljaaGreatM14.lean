/-
  A part of the proof: an abstract machine for the program, its soundness, and what the functions compute (In18, In19, In22, In23, In24, In25, Frame).
  Conditions: none.
-/
import Derived.Test.YtejciamannpljaaGreatM08
import Derived.Test.YtejciamannpljaaGreatM12
import Derived.Test.YtejciamannpljaaGreatM13
import Derived.Carry
import Derived.ChangeShapes
set_option linter.unusedSectionVars false
set_option linter.unusedVariables false
set_option linter.unusedSimpArgs false
set_option linter.defProp false
namespace Tor
open Go
theorem set_same {α:Type} {l:List α} {i:Nat} {x:α} (h:l[i]? = some x):l.set i x = l:=by
  apply List.ext_getElem?
  intro j
  by_cases e:i = j
  · subst e
    have hi:i < l.length:=(List.getElem?_eq_some_iff.1 h).1
    rw [List.getElem?_set_self hi,h]
  · rw [List.getElem?_set_ne e]
def rsK (o R:Nat):List Nat:=(List.range R).map (o + 1 + ·)
def topK (o R C i:Nat):List AV:=tops C (rsK o i) ++ List.replicate (R - i) .nl
theorem rsK_len (o R):(rsK o R).length = R:=by simp [rsK]
theorem topK_len {o R C i} (h:i ≤ R):(topK o R C i).length = R:=by simp [topK,tops_len,rsK_len]; omega
theorem topK_set {o R C i} (h:i < R):(topK o R C i).set i (.sl (o + 1 + i) 0 2 0 C) = topK o R C (i + 1):=by
  unfold topK
  have e:R - i = (R - (i + 1)) + 1:=by omega
  have hl:(tops C (rsK o i)).length = i:=by rw [tops_len,rsK_len]
  rw [e,List.replicate_succ,List.set_append_right _ _ (by omega),hl,Nat.sub_self,List.set_cons_zero]
  simp [tops,rsK,List.range_succ]
structure KH (H K:Heap) (R C i:Nat):Prop where
  top:K[H.length]? = some (.arr 0 1 (topK H.length R C i))
  len:K.length = H.length + 1 + i
  row:∀ j,j < i → K[H.length + 1 + j]? = some (.arr 0 2 (rowA (List.replicate C 0)))
  old:∀ y,y < H.length → K[y]? = H[y]?
def bst18 (o R C i:Nat) (K:Heap) (b:Bool):St :=
  { vars:=[.int .i64 R,.int .i64 C,.fn 250 [],.u,.u,.int .i64 R,.int .i64 (i:Nat),.u,.u,.u,.u,.agg [.int .i64 0,.int .i64 0,.nl],HV o 0 R C],heap:=K,rs:=b }
variable {E:CallF} (hE:Free E)
include hE
theorem i_zero (i j:Int) (H:Heap):call E GP 250 [.int .i64 i,.int .i64 j] H = some (Z 0,H,false):=by
  rw [call_fun (hE _ _ _ (by decide)) (f:=a250) rfl rfl]
  rw [Z_zero]
  simp (maxSteps:=1000000) (disch:=first | omega | decide) only [si,sf,simprocAttr,a250,a250R]
theorem build_step (H:Heap) (R C:Nat) (hR:R < 2147483648) (hC:C < 2147483648) (i:Nat) (hi:i < R) (st:St) (h:∃ K b,st = bst18 H.length R C i K b ∧ KH H K R C i) :
    ∃ st',(∃ K b,st' = bst18 H.length R C (i + 1) K b ∧ KH H K R C (i + 1)) ∧ run E GP a251l0 st = run E GP a251l0 st':=by
  obtain ⟨K,b,rfl,h1,h2,h3,h4⟩:=h
  let K':Heap:=(K ++ [AObj.arr 0 2 (rowA (List.replicate C 0))]).set H.length (.arr 0 1 (topK H.length R C (i + 1)))
  have hk':KH H K' R C (i + 1):=by
    refine ⟨?_,by simp [K',h2]; omega,fun j hj=>?_,fun y hy=>?_⟩
    · exact List.getElem?_set_self (by simp [h2]; omega)
    · simp only [K']
      rw [List.getElem?_set_ne (by omega)]
      by_cases e:j = i
      · subst e
        rw [List.getElem?_append_right (by omega),h2,Nat.sub_self]; rfl
      · rw [List.getElem?_append_left (by omega)]; exact h3 j (by omega)
    · simp only [K']
      rw [List.getElem?_set_ne (by omega),List.getElem?_append_left (by omega)]; exact h4 y hy
  refine ⟨_,⟨K',true,rfl,hk'⟩,?_⟩
  have g1:(K ++ [AObj.arr 0 2 (rowA (List.replicate C 0))])[H.length]? = some (.arr 0 1 (topK H.length R C i)):=by
    rw [List.getElem?_append_left (by omega)]; exact h1
  have tl:=topK_len (o:=H.length) (R:=R) (C:=C) (i:=i) (by omega)
  have ts:=topK_set (o:=H.length) (R:=R) (C:=C) (i:=i) hi
  have hrow:=hk'.row i (by omega)
  have htop:=hk'.top
  have hrg:(topK H.length R C (i + 1))[i]? = some (.sl (H.length + 1 + i) 0 2 0 C):=by
    unfold topK
    rw [List.getElem?_append_left (by rw [tops_len,rsK_len]; omega),tops_get (by rw [rsK_len]; omega)]
    simp [rsK,List.getD]
  have hz:=fun i j H=>i_zero hE i j H
  let T:Nat → St:=fun j=>{ vars:=[.int .i64 R,.int .i64 C,.fn 250 [],.int .i64 (i:Nat),.u,.int .i64 R,.int .i64 (i:Nat),.bool true,.int .i64 C,.int .i64 (j:Nat),.u,.agg [.int .i64 0,.int .i64 0,.nl],HV H.length 0 R C],heap:=K',rs:=true }
  have hinner:∀ j,j < C → run E GP a251l1 (T j) = run E GP a251l1 (T (j + 1)):=by
    intro j hj
    have hzl:(rowA (List.replicate C 0)).length = C:=by simp [rowA_len]
    have hzs:(rowA (List.replicate C 0)).set j (Z 0) = rowA (List.replicate C 0):=by
      rw [rowA_set]; congr 1; exact set_same (by simp [hj])
    have hzg:(rowA (List.replicate C 0))[j]? = some (Z 0):=by
      rw [rowA_get (by simp [hj])]; simp [List.getD,hj]
    have hks:K'.set (H.length + 1 + i) (.arr 0 2 (rowA (List.replicate C 0))) = K':=set_same hrow
    have htl':=topK_len (o:=H.length) (R:=R) (C:=C) (i:=i + 1) (by omega)
    show run E GP a251l1 { vars:=_,heap:=_,rs:=_ } = run E GP a251l1 { vars:=_,heap:=_,rs:=_ }
    unfold HV
    generalize K' = Y at *
    generalize rowA (List.replicate C 0) = zr at *
    generalize topK H.length R C (i + 1) = tp at *
    conv=>lhs; rw [a251l1_run]
    simp (maxSteps:=1000000) (disch:=first | omega | decide) only [si,sf,simprocAttr,a251b1,a251R,hj,hi,htop,hrg,htl',hrow,hzl,hzg,hz,hzs,hks]
  have hl:=loop_ind T _ C hinner rfl
  have he:run E GP a251l1 (T C) = some (.exit 2,{ vars:=[.int .i64 R,.int .i64 C,.fn 250 [],.int .i64 (i:Nat),.u,.int .i64 R,.int .i64 (i:Nat),.bool true,.int .i64 C,.int .i64 C,.bool false,.agg [.int .i64 0,.int .i64 0,.nl],HV H.length 0 R C],heap:=K',rs:=true }):=by
    show run E GP a251l1 { vars:=_,heap:=_,rs:=_ } = _
    unfold HV
    rw [a251l1_run]
    simp (maxSteps:=1000000) (disch:=first | omega | decide) only [si,sf,simprocAttr,a251b1,a251R,Nat.lt_irrefl]
  rw [he] at hl
  have hl:run E GP a251l1 { vars:=[.int .i64 R,.int .i64 C,.fn 250 [],.int .i64 (i:Nat),.u,.int .i64 R,.int .i64 (i:Nat),.bool true,.int .i64 C,.int .i64 0,.u,.agg [.int .i64 0,.int .i64 0,.nl],HV H.length 0 R C],heap:=K',rs:=true } = _:=hl
  have hc1:(C:Int) ≤ 4294967296:=by omega
  have hc2:(0:Int) ≤ (C:Int):=by omega
  have hgi:(topK H.length R C i)[i]? = some .nl:=by
    unfold topK
    rw [List.getElem?_append_right (by rw [tops_len,rsK_len]; omega),tops_len,rsK_len,Nat.sub_self,List.getElem?_replicate,if_pos (by omega)]
  have ek:K' = (K ++ [AObj.arr 0 2 (rowA (List.replicate C 0))]).set H.length (.arr 0 1 ((topK H.length R C i).set i (.sl (H.length + 1 + i) 0 2 0 C))):=by rw [ts]
  unfold bst18
  unfold HV at hl ⊢
  conv=>lhs; rw [a251l0_run]
  simp (maxSteps:=1000000) (disch:=first | omega | decide) only [si,sf,simprocAttr,a251b0,a251R,hi,g1,tl,hgi,h2,rowA_zero,hc1,hc2,maxLenA,← ek,hl]
theorem i_build (R C:Nat) (hR:R < 2147483648) (hC:C < 2147483648) (H:Heap):∃ K b,call E GP 281 [.int .i64 R,.int .i64 C,.fn 250 []] H = some (HV H.length 0 R C,K,b) ∧ KH H K R C R:=by
  have h0:KH H (H ++ [.arr 0 1 (List.replicate R .nl)]) R C 0:=by
    refine ⟨?_,by simp,fun j hj=>by omega,fun y hy=>List.getElem?_append_left hy⟩
    rw [List.getElem?_append_right (Nat.le_refl _),Nat.sub_self]
    simp [topK,tops,rsK]
  obtain ⟨st,⟨K,b,rfl,hk⟩,hl⟩:=loop_ex (E:=E) (GP:=GP) (l:=a251l0) (fun i st=>∃ K b,st = bst18 H.length R C i K b ∧ KH H K R C i) R (bst18 H.length R C 0 (H ++ [.arr 0 1 (List.replicate R .nl)]) false) ⟨_,_,rfl,h0⟩ (fun i hi st h=>build_step hE H R C hR hC i hi st h)
  have he:run E GP a251l0 (bst18 H.length R C R K b) = some (.exit 0,{ vars:=[.int .i64 R,.int .i64 C,.fn 250 [],.u,.u,.int .i64 R,.int .i64 R,.bool false,.u,.u,.u,.agg [.int .i64 0,.int .i64 0,.nl],HV H.length 0 R C],heap:=K,rs:=b }):=by
    unfold bst18 HV
    rw [a251l0_run]
    simp (maxSteps:=1000000) (disch:=first | omega | decide) only [si,sf,simprocAttr,a251b0,a251R,Nat.lt_irrefl]
  rw [he] at hl
  have hl:run E GP a251l0 { vars:=[.int .i64 R,.int .i64 C,.fn 250 [],.u,.u,.int .i64 R,.int .i64 0,.u,.u,.u,.u,.agg [.int .i64 0,.int .i64 0,.nl],HV H.length 0 R C],heap:=H ++ [.arr 0 1 (List.replicate R .nl)],rs:=false } = _:=hl
  have hc1:(R:Int) ≤ 4294967296:=by omega
  have hc2:(0:Int) ≤ (R:Int):=by omega
  refine ⟨K,b,?_,hk⟩
  have hmode:a281.mode = .keep:=rfl
  rw [call_fun (hE _ _ _ (by decide)) (f:=a281) rfl rfl]
  unfold HV at hl ⊢
  simp (maxSteps:=1000000) (disch:=first | omega | decide) only [si,sf,simprocAttr,hmode,a281,a251,a251R,hc1,hc2,maxLenA,hl]
theorem i_new (R C:Nat) (hR:R < 2147483648) (hC:C < 2147483648) (H:Heap):∃ K b,call E GP 280 [.int .i64 R,.int .i64 C] H = some (HV H.length 0 R C,K,b) ∧ KH H K R C R:=by
  obtain ⟨K,b,h,hk⟩:=i_build hE R C hR hC H
  refine ⟨K,b,?_,hk⟩
  have hmode:a280.mode = .keep:=rfl
  rw [call_fun (hE _ _ _ (by decide)) (f:=a280) rfl rfl]
  unfold HV at h ⊢
  simp (maxSteps:=1000000) (disch:=first | omega | decide) only [si,sf,simprocAttr,hmode,a280,a240,a240R,h]
omit hE in
theorem KH.mat {H K:Heap} {R C:Nat} (h:KH H K R C R):HMat K H.length 0 C (rsK H.length R) (List.replicate R (List.replicate C 0)) where
  top:=by
    have:=h.top
    unfold topK at this
    rwa [Nat.sub_self,List.replicate_zero,List.append_nil] at this
  row:=fun i hi=>by
    rw [rsK_len] at hi
    have:=h.row i hi
    have e:(rsK H.length R).getD i 0 = H.length + 1 + i:=by simp [rsK,List.getD,hi]
    have e2:(List.replicate R (List.replicate C (0:Int))).getD i [] = List.replicate C 0:=by simp [List.getD,hi]
    rw [e,e2]; exact this
  len:=by simp [rsK_len]
  wid:=fun i hi=>by
    rw [rsK_len] at hi
    simp [List.getD,hi]
  nod:=by
    unfold rsK
    rw [List.Nodup,List.pairwise_map]
    exact List.nodup_range.imp fun h=>by omega
  off:=by simp [rsK]; omega
end Tor
namespace Tor
open Go
def matF (a b:List Cel) (M:Mp) (k:Int):List (List Int):=(cellsC a k).map fun id=>vecV b k (imgF M id)
theorem matF_sha (a b:List Cel) (M:Mp) (k:Int):Sha (cellsC a k).length (cellsC b k).length (matF a b M k) :=
  ⟨by simp [matF],fun i hi=>by simp [matF,List.getD,hi,vecV]⟩
theorem HMat.ext {H H':Heap} {om g C o:Nat} {rs:List Nat} {A:List (List Int)} (h:HMat H om g C rs A) (he:Ext o H H') (h1:om ≠ o) (h2:∀ r ∈ rs,r ≠ o):HMat H' om g C rs A where
  top:=(he.2 om (List.getElem?_eq_some_iff.1 h.top).1 h1).trans h.top
  row:=fun i hi=>(he.2 _ (List.getElem?_eq_some_iff.1 (h.row i hi)).1 (h2 _ (getD_mem hi))).trans (h.row i hi)
  len:=h.len
  wid:=h.wid
  nod:=h.nod
  off:=h.off
def mst19 (a b:List Cel) (M:Mp) (k:Int) (ids:List Int) (o C i:Nat) (H:Heap) (f:Bool):St :=
  { vars:=[.isl (a.map cA),.isl (b.map cA),.isl (M.map mA),.int .i64 k,.int .i64 0,.isl (ids.map iA),.ptr o 0 [],.u,.u,.u,.u,.bool false,.isl (ids.map iA),.int .i64 ids.length,.int .i64 (i:Nat),.u,.agg [.int .i64 0,.int .i64 0,.nl],HV 0 0 ids.length C],heap:=H,rs:=f }
def rowsT (a b:List Cel) (M:Mp) (k:Int) (i:Nat):List (List Int):=(matF a b M k).take i ++ List.replicate ((cellsC a k).length - i) (List.replicate (cellsC b k).length 0)
theorem vm_vector {a b:List Cel} {sb:GS} {mb u:Nat} {M:Mp} (h:VM a b u M) (gb:Good b sb mb) (hmb:mb ≤ 11) (hna:(idsC a).Nodup) {k:Int} {id:Int} (hid:id ∈ cellsC a k) (H:Heap) :
    call E2 GP 8 [.isl (b.map cA),.int .i64 k,.isl ((imgF M id).map fA)] H = some (.tup [.isl (rowA (vecV b k (imgF M id))),.int .i64 0],H,false):=by
  obtain ⟨y,hy,hd,rfl⟩:=cells_mem.1 hid
  have hk:=h.keyAt hna hy
  have hlen:=(h.cm.img y.id).len
  have hb:=gb.len11 hmb
  have:=up (c_vector free1 b k (imgF M y.id) gb.ids (by have:=gb.len; omega) (by omega) H)
  have e:vec26 b k (imgF M y.id) = (vecV b k (imgF M y.id),0):=by
    unfold vec26
    rw [dim_of gb hk]
    simp only [ne_eq,not_true_eq_false,if_false]
    by_cases h0:imgF M y.id = []
    · simp [h0]
    · simp [h0,hd]
  rw [e] at this
  exact this
theorem mat_step {a b:List Cel} {sa sb:GS} {ma mb u:Nat} {M:Mp} (h:VM a b u M) (ga:Good a sa ma) (gb:Good b sb mb) (hma:ma ≤ 11) (hmb:mb ≤ 11) (k:Int) (i:Nat) (hi:i < (cellsC a k).length) (st:St)
    (hI:∃ H f,st = mst19 a b M k (cellsC a k) ((cellsC a k).length + 1) (cellsC b k).length i H f ∧ IX H ((cellsC a k).length + 1) M ∧ HMat H 0 0 (cellsC b k).length (rsK 0 (cellsC a k).length) (rowsT a b M k i)) :
    ∃ st',(∃ H f,st' = mst19 a b M k (cellsC a k) ((cellsC a k).length + 1) (cellsC b k).length (i + 1) H f ∧ IX H ((cellsC a k).length + 1) M ∧ HMat H 0 0 (cellsC b k).length (rsK 0 (cellsC a k).length) (rowsT a b M k (i + 1))) ∧ run E2 GP a217l0 st = run E2 GP a217l0 st':=by
  obtain ⟨H,f,rfl,hix,hm⟩:=hI
  have hna:=idsC_nodup ga.ids
  have hML:=h.cm.len
  have hal:=ga.len
  have hcl:=cellsC_len a k
  have hcl2:=cellsC_len b k
  have hbl:=gb.len
  obtain ⟨H2,b2,f1,f2,f3⟩:=i_find M (by omega) (by rw [h.cm.ids]; exact hna) H ((cellsC a k).length + 1) ((cellsC a k)[i]) hix
  have hv:=fun H=>vm_vector h gb hmb hna (List.getElem_mem hi) H
  have hsome:(findM M (cellsC a k)[i]).isSome = true:=h.cm.isS (cells_ids _ (List.getElem_mem hi))
  have hm2:=hm.ext f3 (by omega) (fun r hr=>by simp [rsK] at hr; omega)
  have hir:i < (rsK 0 (cellsC a k).length).length:=by rw [rsK_len]; exact hi
  have er:(rsK 0 (cellsC a k).length).getD i 0 = 1 + i:=by simp [rsK,List.getD,hi]
  have hvl:(vecV b k (imgF M (cellsC a k)[i])).length = (cellsC b k).length:=by simp [vecV]
  have hrow:=hm2.row i hir
  have hwid:=hm2.wid i hir
  have hset:=hm2.setRow hir hvl
  have htop:=hm2.top
  have hrg:(tops (cellsC b k).length (rsK 0 (cellsC a k).length))[i]? = some (.sl (1 + i) 0 2 0 (cellsC b k).length):=by
    rw [tops_get hir,er]
  have htl:(tops (cellsC b k).length (rsK 0 (cellsC a k).length)).length = (cellsC a k).length:=by rw [tops_len,rsK_len]
  rw [er] at hrow hset
  have es:(rowsT a b M k i).set i (vecV b k (imgF M (cellsC a k)[i])) = rowsT a b M k (i + 1):=by
    have hml:(matF a b M k).length = (cellsC a k).length:=by simp [matF]
    unfold rowsT
    rw [List.set_append_right _ _ (by simp; omega),List.take_succ_eq_append_getElem (by rw [hml]; exact hi)]
    have e1:i - ((matF a b M k).take i).length = 0:=by simp; omega
    have e2:(cellsC a k).length - i = ((cellsC a k).length - (i + 1)) + 1:=by omega
    rw [e1,e2,List.replicate_succ,List.set_cons_zero]
    simp [matF]
  rw [es] at hset
  refine ⟨_,⟨_,f || b2,rfl,f2.set hrow (.arr 0 2 (rowA (vecV b k (imgF M (cellsC a k)[i])))),hset⟩,?_⟩
  have hvl':(rowA (vecV b k (imgF M (cellsC a k)[i]))).length = (cellsC b k).length:=by rw [rowA_len,hvl]
  have hwl':(rowA ((rowsT a b M k i).getD i [])).length = (cellsC b k).length:=by rw [rowA_len,hwid]
  have hhs:headSize 2 (rowA (vecV b k (imgF M (cellsC a k)[i]))) = true:=by
    cases vecV b k (imgF M (cellsC a k)[i]) with
    | nil=>rfl
    | cons x r=>simp [rowA,headSize,Z_size]
  have hrf:=refs_rowA (vecV b k (imgF M (cellsC a k)[i]))
  have hmin:Nat.min (cellsC b k).length (cellsC b k).length = (cellsC b k).length:=Nat.min_self _
  have htk:(rowA (vecV b k (imgF M (cellsC a k)[i]))).take (cellsC b k).length = rowA (vecV b k (imgF M (cellsC a k)[i])):=List.take_of_length_le (by omega)
  have hdr:(rowA ((rowsT a b M k i).getD i [])).drop (cellsC b k).length = []:=List.drop_of_length_le (by omega)
  obtain ⟨y,hy⟩:=Option.isSome_iff_exists.1 hsome
  rw [hy] at f1
  have f1:call E2 GP 241 [.ptr ((cellsC a k).length + 1) 0 [],.int .i64 (cellsC a k)[i]] H = some (.tup [.isl (y.map fA),.bool true],H2,b2):=f1
  have ey:imgF M (cellsC a k)[i] = y:=by unfold imgF; rw [hy]; rfl
  unfold mst19 HV
  generalize rowA (vecV b k (imgF M (cellsC a k)[i])) = V at *
  generalize rowA ((rowsT a b M k i).getD i []) = W at *
  generalize tops (cellsC b k).length (rsK 0 (cellsC a k).length) = tp at *
  rw [ey] at hv
  generalize cellsC a k = ids at *
  conv=>lhs; rw [a217l0_run]
  simp (maxSteps:=1000000) (disch:=first | omega | decide) only [si,sf,simprocAttr,a217b0,a217R,hi,iA,f1,hv,htop,hrg,htl,hrow,hvl',hwl',hhs,hrf,hmin,htk,hdr,List.append_nil]
theorem i_matrix {a b:List Cel} {sa sb:GS} {ma mb ea eb u:Nat} {M:Mp} (h:VM a b u M) (ga:Good a sa ma) (gb:Good b sb mb) (hma:ma ≤ 11) (hmb:mb ≤ 11) (hea:∀ k,sa.b k ≤ ea) (heb:∀ k,sb.b k ≤ eb) (hu:ea + eb + u ≤ 10000000000) (k:Int) (H:Heap) :
    call E2 GP 217 [.isl (a.map cA),.isl (b.map cA),.isl (M.map mA),.int .i64 k] H = some (.tup [MI (cellsC a k).length (cellsC b k).length (matF a b M k),.int .i64 0],H,false):=by
  have hE2:∀ a H,E2 217 a H = none:=fun a H=>E2_none (by decide) (by decide)
  have hal:=ga.len
  have hbl:=gb.len
  have hcl:=cellsC_len a k
  have hcl2:=cellsC_len b k
  have hv:=fun H=>h.valid ga gb hma hmb hea heb hu H
  have hc1:=fun H=>up (c_cells free1 a k (by omega) H)
  have hc2:=fun H=>up (c_cells free1 b k (by omega) H)
  obtain ⟨K,b0,hnew,hK⟩:=i_new free1 (cellsC a k).length (cellsC b k).length (by omega) (by omega) []
  have hnew:=up hnew
  have hKl:K.length = (cellsC a k).length + 1:=by have:=hK.len; rw [List.length_nil] at this; omega
  have hlen:(K ++ [AObj.var (idx0 M)]).length = (cellsC a k).length + 2:=by simp; omega
  have hoi:(K ++ [AObj.var (idx0 M)])[(cellsC a k).length + 1]? = some (.var (idx0 M)):=by
    rw [List.getElem?_append_right (by omega),show (cellsC a k).length + 1 - K.length = 0 by omega]; rfl
  have hmat:HMat (K ++ [AObj.var (idx0 M)]) 0 0 (cellsC b k).length (rsK 0 (cellsC a k).length) (rowsT a b M k 0):=by
    have:=(hK.mat).app [AObj.var (idx0 M)]
    unfold rowsT
    rw [List.take_zero,List.nil_append,Nat.sub_zero]
    exact this
  obtain ⟨st,⟨H1,b1,rfl,h1,h2⟩,hl⟩:=loop_ex (E:=E2) (GP:=GP) (l:=a217l0) (fun i st=>∃ H f,st = mst19 a b M k (cellsC a k) ((cellsC a k).length + 1) (cellsC b k).length i H f ∧ IX H ((cellsC a k).length + 1) M ∧ HMat H 0 0 (cellsC b k).length (rsK 0 (cellsC a k).length) (rowsT a b M k i)) (cellsC a k).length (mst19 a b M k (cellsC a k) ((cellsC a k).length + 1) (cellsC b k).length 0 (K ++ [AObj.var (idx0 M)]) b0) ⟨_,_,rfl,.inl hoi,hmat⟩ (fun i hi st hI=>mat_step h ga gb hma hmb k i hi st hI)
  have he:run E2 GP a217l0 (mst19 a b M k (cellsC a k) ((cellsC a k).length + 1) (cellsC b k).length (cellsC a k).length H1 b1) = some (.exit 0,{ vars:=[.isl (a.map cA),.isl (b.map cA),.isl (M.map mA),.int .i64 k,.int .i64 0,.isl ((cellsC a k).map iA),.ptr ((cellsC a k).length + 1) 0 [],.u,.u,.u,.u,.bool false,.isl ((cellsC a k).map iA),.int .i64 (cellsC a k).length,.int .i64 (cellsC a k).length,.bool false,.agg [.int .i64 0,.int .i64 0,.nl],HV 0 0 (cellsC a k).length (cellsC b k).length],heap:=H1,rs:=b1 }):=by
    unfold mst19 HV
    generalize cellsC a k = ids at *
    rw [a217l0_run]
    simp (maxSteps:=1000000) (disch:=first | omega | decide) only [si,sf,simprocAttr,a217b0,a217R,Nat.lt_irrefl]
  rw [he] at hl
  have hl:run E2 GP a217l0 { vars:=[.isl (a.map cA),.isl (b.map cA),.isl (M.map mA),.int .i64 k,.int .i64 0,.isl ((cellsC a k).map iA),.ptr ((cellsC a k).length + 1) 0 [],.u,.u,.u,.u,.bool false,.isl ((cellsC a k).map iA),.int .i64 (cellsC a k).length,.int .i64 0,.u,.agg [.int .i64 0,.int .i64 0,.nl],HV 0 0 (cellsC a k).length (cellsC b k).length],heap:=K ++ [AObj.var (idx0 M)],rs:=b0 } = _:=hl
  have erows:rowsT a b M k (cellsC a k).length = matF a b M k:=by
    unfold rowsT
    rw [Nat.sub_self,List.replicate_zero,List.append_nil,List.take_of_length_le (by simp [matF])]
  rw [erows] at h2
  have hz:=fz_HV h2 (rsK_len _ _) 2
  have hrM:=refs_rowsI (matF a b M k)
  have hsM:=solids_rowsI (matF a b M k)
  rw [call_fun (hE2 _ _) (f:=a217) rfl rfl]
  unfold HV MI at *
  unfold idx0 onceV at hl
  simp only [List.length_nil] at hnew
  generalize matF a b M k = A at *
  generalize cellsC a k = ids at *
  simp (maxSteps:=1000000) (disch:=first | omega | decide) only [si,sf,simprocAttr,doBox,a217,a217R,hv,hc1,hc2,hnew,hKl,hl,hz,hrM,hsM]
end Tor
namespace Tor
open Go
variable {E:CallF} (hE:Free E)
include hE
theorem r5_same (R C:Nat) (hR:R < 2147483648) (hC:C < 2147483648) (A:List (List Int)) (sA:Sha R C A) (hf:∀ i,i < R → ∀ y ∈ A.getD i [],Fit y) (H:Heap) :
    call E GP 220 [MI R C A,MI R C A] H = some (.bool true,H,false):=by
  rw [call_fun (hE _ _ _ (by decide)) (f:=a220) rfl rfl]
  have hl:=rowsI_len A
  rw [sA.1] at hl
  let S:Nat → St:=fun i=>{ vars:=[MI R C A,MI R C A,.bool false,.int .i64 (i:Nat),.bool false,.u,.u,MI R C A,MI R C A],heap:=[],rs:=false }
  have hstep:∀ i,i < R → run E GP a220l0 (S i) = run E GP a220l0 (S (i + 1)):=by
    intro i hi
    have hg:=rowsI_get (A:=A) (i:=i) (by rw [sA.1]; exact hi)
    have hv:=fun H=>r5_samevec hE (A.getD i []) (A.getD i []) (hf i hi) (hf i hi) (by rw [sA.2 i hi]; omega) H
    simp only [decide_true] at hv
    show run E GP a220l0 { vars:=_,heap:=_,rs:=_ } = run E GP a220l0 { vars:=_,heap:=_,rs:=_ }
    unfold MI
    generalize rowA (A.getD i []) = r at *
    generalize rowsI A = W at *
    conv=>lhs; rw [a220l0_run]
    simp (maxSteps:=1000000) (disch:=first | omega | decide) only [si,sf,simprocAttr,a220b0,a220R,hi,hl,hg,hv]
  have hlp:=loop_ind S _ R hstep rfl
  have he:run E GP a220l0 (S R) = some (.exit 0,{ vars:=[MI R C A,MI R C A,.bool false,.int .i64 R,.bool false,.bool false,.u,MI R C A,MI R C A],heap:=[],rs:=false }):=by
    show run E GP a220l0 { vars:=_,heap:=_,rs:=_ } = _
    unfold MI
    generalize rowsI A = W at *
    rw [a220l0_run]
    simp (maxSteps:=1000000) (disch:=first | omega | decide) only [si,sf,simprocAttr,a220b0,a220R,hl,Nat.lt_irrefl]
  rw [he] at hlp
  have hlp:run E GP a220l0 { vars:=[MI R C A,MI R C A,.bool false,.int .i64 0,.bool false,.u,.u,MI R C A,MI R C A],heap:=[],rs:=false } = _:=hlp
  have hrr:=refs_rowsI A
  unfold MI at hlp ⊢
  generalize rowsI A = W at *
  simp (maxSteps:=1000000) (disch:=first | omega | decide) only [si,sf,simprocAttr,a220,a220R,hl,hlp,hrr]
theorem r5_validvec (r:List Int) (hr:r.length < 2147483648) (hf:∀ y ∈ r,Fit y) (H:Heap):call E GP 254 [.isl (rowA r)] H = some (.bool true,H,false):=by
  rw [call_fun (hE _ _ _ (by decide)) (f:=a254) rfl rfl]
  have hl:=rowA_len r
  let S:Nat → St:=fun i=>{ vars:=[.isl (rowA r),.bool false,.int .i64 (i:Nat),.u,.u],heap:=[],rs:=false }
  have hstep:∀ i,i < r.length → run E GP a254l0 (S i) = run E GP a254l0 (S (i + 1)):=by
    intro i hi
    have hg:=rowA_get hi
    have hy:Fit (r.getD i 0):=hf _ (by simp [List.getD,hi])
    have hv:=fun H=>r1_valid hE (r.getD i 0) H (by unfold Fit at hy; omega)
    show run E GP a254l0 { vars:=_,heap:=_,rs:=_ } = run E GP a254l0 { vars:=_,heap:=_,rs:=_ }
    generalize r.getD i 0 = y at *
    generalize rowA r = W at *
    conv=>lhs; rw [a254l0_run]
    simp (maxSteps:=1000000) (disch:=first | omega | decide) only [si,sf,simprocAttr,a254b0,a254R,hi,hl,hg,hv,Z_size]
  have hlp:=loop_ind S _ r.length hstep rfl
  have he:run E GP a254l0 (S r.length) = some (.exit 0,{ vars:=[.isl (rowA r),.bool false,.int .i64 r.length,.bool false,.u],heap:=[],rs:=false }):=by
    show run E GP a254l0 { vars:=_,heap:=_,rs:=_ } = _
    generalize rowA r = W at *
    rw [a254l0_run]
    simp (maxSteps:=1000000) (disch:=first | omega | decide) only [si,sf,simprocAttr,a254b0,a254R,hl,Nat.lt_irrefl]
  rw [he] at hlp
  have hlp:run E GP a254l0 { vars:=[.isl (rowA r),.bool false,.int .i64 0,.u,.u],heap:=[],rs:=false } = _:=hlp
  have hrr:=refs_rowA r
  generalize rowA r = W at *
  simp (maxSteps:=1000000) (disch:=first | omega | decide) only [si,sf,simprocAttr,a254,a254R,hl,hlp,hrr]
theorem r5_valid (R C:Nat) (hR:R < 2147483648) (hC:C < 2147483648) (A:List (List Int)) (sA:Sha R C A) (hf:∀ i,i < R → ∀ y ∈ A.getD i [],Fit y) (H:Heap) :
    call E GP 245 [MI R C A] H = some (.bool true,H,false):=by
  rw [call_fun (hE _ _ _ (by decide)) (f:=a245) rfl rfl]
  have hl:=rowsI_len A
  rw [sA.1] at hl
  let S:Nat → St:=fun i=>{ vars:=[MI R C A,.bool false,.int .i64 (i:Nat),.bool false,.u,.u,MI R C A],heap:=[],rs:=false }
  have hstep:∀ i,i < R → run E GP a245l0 (S i) = run E GP a245l0 (S (i + 1)):=by
    intro i hi
    have hg:=rowsI_get (A:=A) (i:=i) (by rw [sA.1]; exact hi)
    have hv:=fun H=>r5_validvec hE (A.getD i []) (by rw [sA.2 i hi]; omega) (hf i hi) H
    have hrl:(rowA (A.getD i [])).length = C:=by rw [rowA_len,sA.2 i hi]
    show run E GP a245l0 { vars:=_,heap:=_,rs:=_ } = run E GP a245l0 { vars:=_,heap:=_,rs:=_ }
    unfold MI
    generalize rowA (A.getD i []) = r at *
    generalize rowsI A = W at *
    conv=>lhs; rw [a245l0_run]
    simp (maxSteps:=1000000) (disch:=first | omega | decide) only [si,sf,simprocAttr,a245b0,a245R,hi,hl,hg,hv,hrl]
  have hlp:=loop_ind S _ R hstep rfl
  have he:run E GP a245l0 (S R) = some (.exit 0,{ vars:=[MI R C A,.bool false,.int .i64 R,.bool false,.bool false,.u,MI R C A],heap:=[],rs:=false }):=by
    show run E GP a245l0 { vars:=_,heap:=_,rs:=_ } = _
    unfold MI
    generalize rowsI A = W at *
    rw [a245l0_run]
    simp (maxSteps:=1000000) (disch:=first | omega | decide) only [si,sf,simprocAttr,a245b0,a245R,hl,Nat.lt_irrefl]
  rw [he] at hlp
  have hlp:run E GP a245l0 { vars:=[MI R C A,.bool false,.int .i64 0,.bool false,.u,.u,MI R C A],heap:=[],rs:=false } = _:=hlp
  have hrr:=refs_rowsI A
  have n1:¬ ((R:Int) < 0):=by omega
  have n2:¬ ((C:Int) < 0):=by omega
  unfold MI at hlp ⊢
  generalize rowsI A = W at *
  simp (maxSteps:=1000000) (disch:=first | omega | decide) only [si,sf,simprocAttr,a245,a245R,hl,hlp,hrr,n1,n2]
theorem r5_sized (R C:Nat) (hR:R < 2147483648) (hC:C < 2147483648) (A:List (List Int)) (sA:Sha R C A) (hf:∀ i,i < R → ∀ y ∈ A.getD i [],Fit y) (H:Heap) :
    call E GP 230 [MI R C A,.int .i64 R,.int .i64 C] H = some (.bool true,H,false):=by
  rw [call_fun (hE _ _ _ (by decide)) (f:=a230) rfl rfl]
  have hv:=fun H=>r5_valid hE R C hR hC A sA hf H
  have hrr:=refs_rowsI A
  unfold MI at hv ⊢
  generalize rowsI A = W at *
  simp (maxSteps:=1000000) (disch:=first | omega | decide) only [si,sf,simprocAttr,a230,a230R,hv,hrr]
end Tor
namespace Tor
open Go
def cyN (L:List (List (Int × Int))) (ds:List Int) (n:Nat):List (Int × Int):=(List.range n).foldl (fun a i=>add26 a (L.getD i []) ((ds.getD i 0).tmod 4)) []
theorem cyN_succ (L ds n):cyN L ds (n + 1) = add26 (cyN L ds n) (L.getD n []) ((ds.getD n 0).tmod 4):=by
  unfold cyN; rw [List.range_succ,List.foldl_append]; rfl
theorem r26_cyclic {a:List Cel} {s:GS} {m:Nat} (g:Good a s m) (hm:m ≤ 11) (hk:∀ k,s.kb k + 16 ≤ 1000000000) (k:Int) (hkr:-1 ≤ k ∧ k ≤ 3) (ds:List Int) (hd:ds.length ≤ 9223372036854775807) (hd8:∀ x ∈ ds,-128 ≤ x ∧ x ≤ 127) :
    ∃ x,(∀ H,call E1 GP 231 [.isl (a.map cA),.int .i64 k,.isl (ds.map bA)] H = some (.isl (x.map fA),H,false)) ∧ GC (idsC a) 1000000100 x ∧ (∀ p ∈ x,p.1 ∈ cellsC a k) ∧ bnd26 a x = []:=by
  obtain ⟨L,hL,hLl,hLp⟩:=cycles_good free1 g (by omega) k hkr (fun k=>by have:=hk k; omega)
  have ha:=g.len11 hm
  have hLg:∀ i,i < L.length → GC (idsC a) 1000000000 (L.getD i []) ∧ (∀ p ∈ L.getD i [],p.1 ∈ cellsC a k) ∧ ∀ f:Int → Int,(∀ id,lin (fun i=>lookL id (cellOf? a i).b) (L.getD i []) = 0):=fun i hi=>by
    have hmem:L.getD i [] ∈ L:=by simp [List.getD,hi]
    obtain ⟨q1,q2,q3,q4,q5,q6⟩:=hLp _ hmem
    exact ⟨⟨q4,bd_mono (pow_le (b:=1000000000) (by have:=hk k.toNat; omega)) q2,fun p hp=>cells_ids _ (q5 p hp)⟩,q5,fun _=>q6⟩
  have hcf:∀ i,-3 ≤ (ds.getD i 0).tmod 4 ∧ (ds.getD i 0).tmod 4 ≤ 3:=fun i=>by
    have t1:=Int.tmod_lt_of_pos (ds.getD i 0) (show (0:Int) < 4 by omega)
    have t2:=Int.lt_tmod_of_pos (ds.getD i 0) (show (0:Int) < 4 by omega)
    omega
  have hG:∀ n,n ≤ L.length → GC (idsC a) (1000000010 + n) (cyN L ds n) ∧ (∀ p ∈ cyN L ds n,p.1 ∈ cellsC a k) ∧ ∀ id,lin (fun i=>lookL id (cellOf? a i).b) (cyN L ds n) = 0:=by
    intro n
    induction n with
    | zero=>exact fun _=>⟨GC.nil,fun p hp=>(by cases hp),fun id=>rfl⟩
    | succ n ih =>
      intro hn
      obtain ⟨i1,i2,i3⟩:=ih (by omega)
      obtain ⟨l1,l2,l3⟩:=hLg n (by omega)
      have hc:=hcf n
      rw [cyN_succ]
      exact ⟨(gadd ha i1 l1 (r:=2) (by omega) (by omega) (by omega) (by omega)).2,add_keys _ _ _ l2 i2,fun id=>by rw [lin_add,i3,l3 (fun _=>0)]; simp⟩
  let n:=min L.length ds.length
  have hn1:n ≤ L.length:=Nat.min_le_left _ _
  have hn2:n ≤ ds.length:=Nat.min_le_right _ _
  obtain ⟨r1,r2,r3⟩:=hG n hn1
  refine ⟨cyN L ds n,fun H=>?_,r1.mono (by omega),r2,canon_zero (bnd_canon a _) fun id=>?_⟩
  · let S:Nat → St:=fun i=>{ vars:=[.isl (a.map cA),.int .i64 k,.isl (ds.map bA),.isl [],.isl (L.map chA),.isl ((cyN L ds i).map fA),.int .i64 (i:Nat),.u],heap:=[],rs:=false }
    have hstep:∀ i,i < n → run E1 GP a231l0 (S i) = run E1 GP a231l0 (S (i + 1)):=by
      intro i hi
      have hi1:i < L.length:=by omega
      have hi2:i < ds.length:=by omega
      obtain ⟨i1,_,_⟩:=hG i (by omega)
      obtain ⟨l1,_,_⟩:=hLg i hi1
      have hc:=hcf i
      have hadd:=(gadd ha i1 l1 (n:=(ds.getD i 0).tmod 4) (r:=2) (u:=1000000011 + i) (by omega) (by omega) (by omega) (by omega)).1 E1 free1
      rw [← cyN_succ] at hadd
      have e1:ds.getD i 0 = ds[i]:=by simp [List.getD,hi2]
      have e2:L.getD i [] = L[i]:=by simp [List.getD,hi1]
      rw [e1] at hadd hc
      rw [e2] at hadd
      have hof:=fun H=>r1_of free1 (ds[i].tmod 4) H (by omega) (by omega)
      have w:IntKind.i64.wrap (ds[i].tmod 4) = ds[i].tmod 4:=i64w (by omega)
      show run E1 GP a231l0 { vars:=_,heap:=_,rs:=_ } = run E1 GP a231l0 { vars:=_,heap:=_,rs:=_ }
      generalize cyN L ds (i + 1) = y2 at *
      generalize cyN L ds i = y1 at *
      conv=>lhs; rw [a231l0_run]
      simp (maxSteps:=1000000) (disch:=first | omega | decide) only [si,sf,simprocAttr,a231b0,a231R,hi1,hi2,chA,bA,hof,hadd,w]
    have hl:=loop_ind S _ n hstep rfl
    have he:∃ w,run E1 GP a231l0 (S n) = some (.exit 0,{ vars:=[.isl (a.map cA),.int .i64 k,.isl (ds.map bA),.isl [],.isl (L.map chA),.isl ((cyN L ds n).map fA),.int .i64 n,w],heap:=[],rs:=false }):=by
      refine ⟨.bool false,?_⟩
      show run E1 GP a231l0 { vars:=_,heap:=_,rs:=_ } = _
      generalize cyN L ds n = y1 at *
      by_cases hq:n < L.length
      · have hq2:¬ n < ds.length:=by omega
        rw [a231l0_run]
        simp (maxSteps:=1000000) (disch:=first | omega | decide) only [si,sf,simprocAttr,a231b0,a231R,hq,hq2]
      · rw [a231l0_run]
        simp (maxSteps:=1000000) (disch:=first | omega | decide) only [si,sf,simprocAttr,a231b0,a231R,hq]
    obtain ⟨w,he⟩:=he
    rw [he] at hl
    have hl:run E1 GP a231l0 { vars:=[.isl (a.map cA),.int .i64 k,.isl (ds.map bA),.isl [],.isl (L.map chA),.isl [],.int .i64 0,.u],heap:=[],rs:=false } = _:=hl
    rw [call_fun (free1 _ _ _ (by decide)) (f:=a231) rfl rfl]
    generalize cyN L ds n = y1 at *
    simp (maxSteps:=1000000) (disch:=first | omega | decide) only [si,sf,simprocAttr,a231,a231R,hL,hl]
  · unfold bnd26
    rw [bnd_look a (cn_of g) id _ [] trivial,r3 id]; rfl
end Tor
namespace Tor
open Go
theorem sumN_bdN {n N:Nat} {f:Nat → Int} (h:∀ k,k < n → (f k).natAbs ≤ N):(sumN n f).natAbs ≤ n * N:=by
  induction n with
  | zero=>exact Nat.zero_le _
  | succ n ih =>
    have h1:=ih fun k hk=>h k (by omega)
    have h2:=h n (by omega)
    have h3:(n + 1) * N = n * N + N:=Nat.succ_mul _ _
    show (sumN n f + f n).natAbs ≤ _
    omega
theorem mulOk_of {K:Nat} {A B:List (List Int)} {p q:Nat} (hA:Bm A (2 ^ p)) (hB:Bm B (2 ^ q)) (hK:K ≤ 11) (h:p + q ≤ 14000000000) (i j:Nat):MulOk K A B i j:=by
  intro n hn
  have ht:∀ k,(at2 A i k * at2 B k j).natAbs ≤ 2 ^ (p + q):=fun k=>by
    rw [Int.natAbs_mul,Nat.pow_add]; exact Nat.mul_le_mul (hA i k) (hB k j)
  have hs:=sumN_bdN (n:=n) (f:=fun k=>at2 A i k * at2 B k j) fun k _=>ht k
  have hb:2 ^ (p + q) * n < BIG:=mul_big (j:=4) (Nat.le_refl _) (by omega) (by omega)
  rw [Nat.mul_comm] at hb
  exact ⟨fit_big (by omega),fit_big (Nat.lt_of_le_of_lt (ht n) (pow5_big (by omega))),fit_big (Nat.lt_of_le_of_lt (hA i n) (pow5_big (by omega))),fit_big (Nat.lt_of_le_of_lt (hB n j) (pow5_big (by omega)))⟩
theorem sum_look (f:Int → Int) {ids:List Int} (hn:ids.Nodup):∀ {x:List (Int × Int)} {b:Option Int},Canon b x → (∀ p ∈ x,p.1 ∈ ids) → sumN ids.length (fun t=>lookL (ids.getD t 0) x * f (ids.getD t 0)) = lin f x
  | [],_,_,_=>by
    show sumN ids.length (fun t=>0 * f (ids.getD t 0)) = 0
    exact sumN_zero fun k _=>Int.zero_mul _
  | (j,v) :: r,b,hc,hk=>by
    obtain ⟨i,hi,hij⟩:=List.getElem_of_mem (hk (j,v) (.head _))
    have hij:ids[i] = j:=hij
    have ih:=sum_look f hn hc.2.2 (fun p hp=>hk p (.tail _ hp))
    have hj0:lookL j r = 0:=by
      refine look_out fun hm=>?_
      obtain ⟨p,hp,e⟩:=List.mem_map.1 hm
      have:=(canon_lt r (some j) hc.2.2).1 p hp j rfl
      omega
    have e:=sumN_one (n:=ids.length) (i:=i) (f:=fun t=>lookL (ids.getD t 0) r * f (ids.getD t 0)) (g:=fun t=>lookL (ids.getD t 0) ((j,v) :: r) * f (ids.getD t 0)) hi (fun t ht hne=>by
      have hg:ids.getD t 0 = ids[t]:=by simp [List.getD,ht]
      have:ids[t] ≠ j:=fun e=>by
        rw [← hij] at e
        rcases Nat.lt_or_gt_of_ne hne with q | q
        · exact (List.pairwise_iff_getElem.1 hn) t i ht hi q e
        · exact (List.pairwise_iff_getElem.1 hn) i t hi ht q e.symm
      simp only [hg,lookL]
      rw [if_neg this])
    have hgi:ids.getD i 0 = j:=by simp [List.getD,hi,hij]
    rw [e,ih,hgi,hj0]
    simp only [lookL,if_pos,lin]
    omega
section
variable {a b:List Cel} {u:Nat} {M:Mp}
theorem matF_at (h:CM a b u M) (k:Int) {i t:Nat} (hi:i < (cellsC a k).length) (ht:t < (cellsC b k).length):at2 (matF a b M k) i t = lookL ((cellsC b k).getD t 0) (imgF M ((cellsC a k).getD i 0)):=by
  unfold at2 matF vecV
  simp only [List.getD,List.getElem?_map,List.getElem?_eq_getElem hi,Option.map_some,Option.getD_some,List.getElem?_eq_getElem ht]
  exact last_look (h.img _).can _
theorem matF_bm (h:CM a b u M) (k:Int):Bm (matF a b M k) (2 ^ u):=by
  intro i t
  have hs:=matF_sha a b M k
  by_cases hi:i < (cellsC a k).length
  · by_cases ht:t < (cellsC b k).length
    · rw [matF_at h k hi ht]; exact bd_look (h.img _).bd _
    · rw [at2_out hs (.inr (by omega))]; exact Nat.zero_le _
  · rw [at2_out hs (.inl (by omega))]; exact Nat.zero_le _
end
theorem mulMat_ext {K K':Nat} {A B A' B':List (List Int)} {R C:Nat} (h:∀ i j,i < R → j < C → mulE K A B i j = mulE K' A' B' i j):mulMat K A B R C = mulMat K' A' B' R C:=by
  unfold mulMat mulRow
  refine List.map_congr_left fun i hi=>List.map_congr_left fun j hj=>?_
  exact h i j (List.mem_range.1 hi) (List.mem_range.1 hj)
theorem mulMat_sha (K:Nat) (A B:List (List Int)) (R C:Nat):Sha R C (mulMat K A B R C):=⟨by simp [mulMat],fun i hi=>by simp [mulMat,mulRow,List.getD,hi]⟩
theorem mulMat_at {K:Nat} {A B:List (List Int)} {R C i j:Nat} (hi:i < R) (hj:j < C):at2 (mulMat K A B R C) i j = mulE K A B i j:=by
  simp [at2,mulMat,mulRow,List.getD,hi,hj]
theorem mulMat_bm {K:Nat} {A B:List (List Int)} {R C p q:Nat} (hA:Bm A (2 ^ p)) (hB:Bm B (2 ^ q)) (hK:K ≤ 11):Bm (mulMat K A B R C) (2 ^ (p + q + 4)):=by
  intro i j
  by_cases hi:i < R
  · by_cases hj:j < C
    · rw [mulMat_at hi hj]
      refine Nat.le_trans (sumN_bdN (N:=2 ^ (p + q)) fun k _=>?_) ?_
      · rw [Int.natAbs_mul,Nat.pow_add]; exact Nat.mul_le_mul (hA i k) (hB k j)
      · rw [Nat.pow_add 2 (p + q) 4,Nat.mul_comm]; exact Nat.mul_le_mul_left _ (by omega)
    · rw [at2_out (mulMat_sha K A B R C) (.inr (by omega))]; exact Nat.zero_le _
  · rw [at2_out (mulMat_sha K A B R C) (.inl (by omega))]; exact Nat.zero_le _
theorem mat_comm {a b:List Cel} {sa sb:GS} {ma mb u:Nat} {M:Mp} (h:VM a b u M) (ga:Good a sa ma) (gb:Good b sb mb) (k:Nat) (hk:k ≤ 3) :
    mulMat (cellsC b k).length (matF a b M k) (bndC b k) (cellsC a k).length (cellsC b ((k:Int) - 1)).length =
    mulMat (cellsC a ((k:Int) - 1)).length (bndC a k) (matF a b M ((k:Int) - 1)) (cellsC a k).length (cellsC b ((k:Int) - 1)).length:=by
  have hna:=idsC_nodup ga.ids
  refine mulMat_ext fun i j hi hj=>?_
  obtain ⟨y,hy,hd,hid⟩:=cells_mem.1 (List.getElem_mem hi)
  have hgi:(cellsC a k).getD i 0 = y.id:=by simp [List.getD,hi,hid]
  have hky:=h.keyAt hna hy
  rw [hd] at hky
  have e1:mulE (cellsC b k).length (matF a b M k) (bndC b k) i j = lin (fun id=>lookL ((cellsC b ((k:Int) - 1)).getD j 0) (cellOf? b id).b) (imgF M y.id):=by
    rw [← sum_look _ (cells_nodup gb.ids _) (h.cm.img y.id).can hky]
    exact sumN_congr fun t ht=>by rw [matF_at h.cm k hi ht,bnd_at gb k hk ht hj,hgi]
  have hkb:=ga.key y hy
  rw [hd] at hkb
  have e2:mulE (cellsC a ((k:Int) - 1)).length (bndC a k) (matF a b M ((k:Int) - 1)) i j = lin (fun id=>lookL ((cellsC b ((k:Int) - 1)).getD j 0) (imgF M id)) y.b:=by
    rw [← sum_look _ (cells_nodup ga.ids _) (ga.cn y hy) hkb]
    exact sumN_congr fun t ht=>by rw [matF_at h.cm _ ht hj,bnd_at ga k hk hi ht,hgi,cellC_mem ga.ids hy]
  rw [e1,e2]
  have hc:=congrArg (lookL ((cellsC b ((k:Int) - 1)).getD j 0)) (h.comAt hna hy)
  unfold bnd26 at hc
  rw [bnd_look b (cn_of gb) _ _ [] trivial,app_look (imgF M) (fun id=>(h.cm.img id).can)] at hc
  simpa [lookL] using hc
end Tor
namespace Tor
open Go
theorem VM.appKey {a b:List Cel} {u:Nat} {M:Mp} (h:VM a b u M) (hna:(idsC a).Nodup) {k:Int} {x:List (Int × Int)} (hx:∀ p ∈ x,p.1 ∈ cellsC a k):∀ p ∈ appF (imgF M) x,p.1 ∈ cellsC b k:=by
  have:∀ (x o:List (Int × Int)),(∀ p ∈ x,p.1 ∈ cellsC a k) → (∀ p ∈ o,p.1 ∈ cellsC b k) → ∀ p ∈ x.foldl (fun a p=>add26 a (imgF M p.1) p.2) o,p.1 ∈ cellsC b k:=by
    intro x
    induction x with
    | nil=>exact fun o _ ho=>ho
    | cons p r ih =>
      refine fun o hx ho=>ih _ (fun q hq=>hx q (.tail _ hq)) (add_keys _ _ _ ?_ ho)
      obtain ⟨z,hz,hd,hid⟩:=cells_mem.1 (hx p (.head _))
      rw [← hid,← hd]
      exact h.keyAt hna hz
  exact this x [] hx (fun p hp=>by cases hp)
theorem VM.bndApp {a b:List Cel} {sa:GS} {ma u:Nat} {M:Mp} (h:VM a b u M) (ga:Good a sa ma) {k:Int} {x:List (Int × Int)} (hx:∀ p ∈ x,p.1 ∈ cellsC a k):bnd26 b (appF (imgF M) x) = appF (imgF M) (bnd26 a x):=by
  have hna:=idsC_nodup ga.ids
  refine lin_ext (bnd_canon b _) (app_canon _ _) fun f=>?_
  rw [bnd26_lin,appF_lin',appF_lin',bnd26_lin]
  refine lin_congr fun p hp=>?_
  obtain ⟨z,hz,hd,hid⟩:=cells_mem.1 (hx p hp)
  rw [← hid,cellC_mem ga.ids hz]
  have:=congrArg (lin f) (h.comAt hna hz)
  rwa [bnd26_lin,appF_lin'] at this
theorem bnd_at_k {c:List Cel} {s:GS} {m:Nat} (g:Good c s m) (hm:m ≤ 16) (k:Nat) (hk:k ≤ 3) (H:Heap) :
    call E2 GP 19 [.isl (c.map cA),.int .i64 k] H = some (MI (cellsC c k).length (cellsC c ((k:Int) - 1)).length (bndC c k),H,false) ∧ Sha (cellsC c k).length (cellsC c ((k:Int) - 1)).length (bndC c k):=by
  have w:IntKind.i64.wrap ((k:Int) - 1) = (k:Int) - 1:=i64w (by omega)
  have h:=up (r25_boundary free1 c (by have:=g.len; omega) (fun x hx=>by have:=g.bl x hx; omega) k H)
  have h2:=shp_bnd c k
  rw [w] at h h2
  exact ⟨h,h2⟩
def cst29 (x d A B M:AV) (k:Int) (w:AV):St :=
  { vars:=[x,d,.bool false,.bool true,A,B,M,.int .i64 k,.u,.u,.u,.u,w,.u,.u,x,.u,.u,.u,.u],heap:=[],rs:=false }
theorem comm_step {a b:List Cel} {sa sb:GS} {ma mb ea eb u:Nat} {M:Mp} (h:VM a b u M) (ga:Good a sa ma) (gb:Good b sb mb) (hma:ma ≤ 11) (hmb:mb ≤ 11) (hea:∀ k,sa.b k ≤ ea) (heb:∀ k,sb.b k ≤ eb) (hka:∀ k,sa.kb k + 16 ≤ 1000000000) (hu:ea + eb + u ≤ 4000000000)
    (ds:List Int) (hd:ds.length ≤ 9223372036854775807) (hd8:∀ x ∈ ds,-128 ≤ x ∧ x ≤ 127) (k:Nat) (hk1:1 ≤ k) (hk:k ≤ 3) (x:AV) (hx:x.under 0 = true) :
    run E2 GP a229l0 (cst29 x (.isl (ds.map bA)) (.isl (a.map cA)) (.isl (b.map cA)) (.isl (M.map mA)) k .u) = run E2 GP a229l0 (cst29 x (.isl (ds.map bA)) (.isl (a.map cA)) (.isl (b.map cA)) (.isl (M.map mA)) (k + 1) .u):=by
  have ha:=ga.len11 hma
  have hb:=gb.len11 hmb
  have hal:=ga.len
  have hbl:=gb.len
  have hkb:=gb.ids64 hmb
  have hna:=idsC_nodup ga.ids
  have c1:=cellsC_len a k
  have c2:=cellsC_len b k
  have c3:=cellsC_len a ((k:Int) - 1)
  have c4:=cellsC_len b ((k:Int) - 1)
  have f1:=fun H=>i_matrix h ga gb hma hmb hea heb (by omega) k H
  have f2:=fun H=>i_matrix h ga gb hma hmb hea heb (by omega) ((k:Int) - 1) H
  have f3:=fun H=>(bnd_at_k ga (by omega) k hk H).1
  have f4:=fun H=>(bnd_at_k gb (by omega) k hk H).1
  have sa1:=(bnd_at_k ga (by omega) k hk []).2
  have sb1:=(bnd_at_k gb (by omega) k hk []).2
  have s1:=matF_sha a b M k
  have s2:=matF_sha a b M ((k:Int) - 1)
  have m1:=matF_bm h.cm k
  have m2:=matF_bm h.cm ((k:Int) - 1)
  have ba:Bm (bndC a k) (2 ^ ea):=bm_mono (pow_le (hea k)) (bnd_bm ga k hk)
  have bb:Bm (bndC b k) (2 ^ eb):=bm_mono (pow_le (heb k)) (bnd_bm gb k hk)
  have f5:=fun H=>up (r5_sized free1 _ _ (by omega) (by omega) _ s1 (bm_fit s1 (pow5_big (by omega)) m1) H)
  have f6:=fun H=>up (r5_sized free1 _ _ (by omega) (by omega) _ s2 (bm_fit s2 (pow5_big (by omega)) m2) H)
  have f7:=fun H=>up (r5_product free1 _ _ _ (by omega) (by omega) (by omega) _ _ s1 sb1 (fun i j _ _=>mulOk_of m1 bb (by omega) (by omega) i j) H)
  have f8:=fun H=>up (r5_product free1 _ _ _ (by omega) (by omega) (by omega) _ _ sa1 s2 (fun i j _ _=>mulOk_of ba m2 (by omega) (by omega) i j) H)
  rw [← mat_comm h ga gb k hk] at f8
  have s3:=mulMat_sha (cellsC b k).length (matF a b M k) (bndC b k) (cellsC a k).length (cellsC b ((k:Int) - 1)).length
  have m3:=mulMat_bm (R:=(cellsC a k).length) (C:=(cellsC b ((k:Int) - 1)).length) m1 bb (K:=(cellsC b k).length) (by omega)
  have f9:=fun H=>up (r5_same free1 _ _ (by omega) (by omega) _ s3 (bm_fit s3 (pow5_big (by omega)) m3) H)
  obtain ⟨y,g1,gy,ky,by0⟩:=r26_cyclic ga hma hka k (by omega) ds hd hd8
  have g1:=fun H=>up (g1 H)
  have g2:=fun H=>h.cm.apply hna ha hb hkb gy (by omega) H
  have gz:=h.cm.app ha hb gy (v:=1000000100 + u + 7) (by omega)
  have g3:=fun H=>up (gz.valid (by omega) hb H)
  have kz:=h.appKey hna ky
  have bz0:=h.bndApp ga ky
  rw [by0] at bz0
  have g4:=fun H=>up (good_b12 gb (by omega) heb (gz.ch hb hkb) (e2:=1000000100 + u + 7) (Nat.le_refl _) (by omega) (by omega) H)
  have hdz:=dim_of gb kz
  have hbz:bz b (appF (imgF M) y) = []:=by
    unfold bz; rw [hdz,if_pos rfl,bz0]; rfl
  rw [hdz,hbz] at g4
  simp only [decide_true,Bool.and_self] at g4
  have k3:(k:Int) ≤ 3:=by omega
  have w1:IntKind.i64.wrap ((k:Int) - 1) = (k:Int) - 1:=i64w (by omega)
  unfold cst29
  unfold MI at f1 f2 f3 f4 f5 f6 f7 f8 f9
  generalize appF (imgF M) y = z at *
  generalize mulMat (cellsC b k).length (matF a b M k) (bndC b k) (cellsC a k).length (cellsC b ((k:Int) - 1)).length = P at *
  have r1:=refs_rowsI (matF a b M k)
  have r2:=refs_rowsI (matF a b M ((k:Int) - 1))
  have r3:=refs_rowsI (bndC a k)
  have r4:=refs_rowsI (bndC b k)
  generalize rowsI (matF a b M k) = R1 at *
  generalize rowsI (matF a b M ((k:Int) - 1)) = R2 at *
  generalize rowsI (bndC a k) = R3 at *
  generalize rowsI (bndC b k) = R4 at *
  conv=>lhs; rw [a229l0_run]
  simp (maxSteps:=1000000) (disch:=first | omega | decide) only [si,sf,simprocAttr,a229b0,a229R,k3,w1,hx,f1,f2,f3,f4,f5,f6,f7,f8,f9,g1,g2,g3,g4]
theorem commutes_true (k:Nat) (hk:k < 256) (ds:List Dg) (hds:∀ x ∈ ds,x.ok) (hdl:ds.length ≤ 9223372036854775807) (a:Nat) (ha:a < 256) (N:Int) (hN:-128 ≤ N ∧ N ≤ 127) (l:List Int) (hl:l.length ≤ 9223372036854775807) (hl8:∀ x ∈ l,-128 ≤ x ∧ x ≤ 127)
    (d1:List Int) (l1:d1.length ≤ 9223372036854775807) (h1:∀ x ∈ d1,-128 ≤ x ∧ x ≤ 127) (H:Heap) :
    call E2 GP 229 [rawA k ds a N l,.isl (d1.map bA)] H = some (.bool true,H,false):=by
  obtain ⟨c,s,m,n,s2,m2,g,hm,hf,hn,g2,hm2,hf2,hmade⟩:=r29_made k hk ds hds hdl a ha N hN l hl hl8
  obtain ⟨e,e1,e2⟩:=fin_e hf
  obtain ⟨ea,ea1,ea2⟩:=fin_e hf2
  have hka:=fin_k hf2
  have t1:=Int.tmod_lt_of_pos N (show (0:Int) < 4 by omega)
  have t2:=Int.lt_tmod_of_pos N (show (0:Int) < 4 by omega)
  have hM:=hom_vm g hm e2 e1 l (N:=N.tmod 4) (by omega) hn g2
  generalize (hom c l (N.tmod 4)).take n = M at *
  generalize c.take n = a0 at *
  have hrd:=refs_gA ds
  have hrl:=refs_bA l
  have hx:(rawA k ds a N l).under 0 = true:=by simp [rawA,AV.under,AV.unders]
  have hxk:(rawA k ds a N l).known = true:=rfl
  have hxs:(rawA k ds a N l).size = 5:=by simp [rawA,AV.size,AV.sizes]
  have hxr:(rawA k ds a N l).hasRef = false:=by simp [rawA,AV.hasRef,AV.hasRefs]
  have hxa:(rawA k ds a N l).isA = true:=rfl
  have hmade:=fun H=>up (hmade H)
  generalize rawA k ds a N l = x at *
  have stp:=fun (k:Nat) (hk1:1 ≤ k) (hk:k ≤ 3)=>comm_step hM g2 g hm2 hm ea2 e2 hka (by omega) d1 l1 h1 k hk1 hk x hx
  have fin:run E2 GP a229l0 (cst29 x (.isl (d1.map bA)) (.isl (a0.map cA)) (.isl (c.map cA)) (.isl (M.map mA)) 4 .u) = some (.exit 0,cst29 x (.isl (d1.map bA)) (.isl (a0.map cA)) (.isl (c.map cA)) (.isl (M.map mA)) 4 (.bool false)):=by
    unfold cst29
    rw [a229l0_run]
    have k4:¬ (4:Int) ≤ 3:=by omega
    simp (maxSteps:=1000000) (disch:=first | omega | decide) only [si,sf,simprocAttr,a229b0,a229R,k4]
  have L0:=((stp 1 (by omega) (by omega)).trans ((stp 2 (by omega) (by omega)).trans (stp 3 (by omega) (by omega)))).trans fin
  have L0:run E2 GP a229l0 (cst29 x (.isl (d1.map bA)) (.isl (a0.map cA)) (.isl (c.map cA)) (.isl (M.map mA)) 1 .u) = _:=L0
  unfold cst29 at L0
  have hsan:=san29
  rw [call_fun (E2_none (by decide) (by decide)) (f:=a229) rfl rfl]
  simp (maxSteps:=1000000) (disch:=first | omega | decide) only [si,sf,simprocAttr,a229,a229R,hmade,hsan,L0,hxk,hxs,hxr,hxa]
theorem law229 (xs:List AV) (h:Fitss [rS,.sl (.int .i8)] xs):call E2 GP 229 xs [] = some (.bool true,[],false):=by
  simp only [Fitss] at h
  obtain ⟨x,r,rfl,hx,y,s,rfl,hy,rfl⟩:=h
  obtain ⟨k,ds,a,N,l,rfl,hk,hds,hdl,ha,hN,hll,hl8⟩:=fits_rS hx
  simp only [Fits] at hy
  obtain ⟨l1,rfl,hl1,hy⟩:=hy
  obtain ⟨d,rfl,hd⟩:=fits_list (fun y hy=>fits_bA hy) l1 hy
  exact commutes_true k hk ds hds hdl a ha N hN l hll hl8 d (by simpa [maxLen] using hl1) hd []
end Tor
namespace Tor
open Go Go.RowKit Go.ChangeShapes
def shpAll (P:Program):List TypeId → List Shp → Bool
  | [],[]=>true
  | t :: ts,s :: ss=>shpOk P t s && shpAll P ts ss
  | _,_=>false
theorem open_all {P:Program} {ι:Nat → FuncId} {w:World} {H:Type} {enc:TypeId × Value → H} {base b0:Nat} {spare:Nat → Bool} {held:Bool} {r:Reach} :
    ∀ (ss:List Shp) (ts:List TypeId) (vs:List Value) (ds:List (DataW H)) (ps:List MemPlace),shpAll P ts ss = true → (∀ (j:Nat) t v,ts[j]? = some t → vs[j]? = some v → Value.okWide P w r b0 t v) →
      DataW.TrodAll enc P w base spare held ts vs ds ps → ∃ xs,Fitss ss xs ∧ Rvs (Cx.init ι w) xs vs
  | [],[],vs,ds,ps,_,_,h=>by
    obtain ⟨rfl,_,_⟩:=trodAll_nil h
    exact ⟨[],rfl,.nil⟩
  | s :: ss,t :: ts,vs,ds,ps,hs,hv,h=>by
    simp only [shpAll,Bool.and_eq_true] at hs
    obtain ⟨v,vs',d,ds',p,q,rfl,rfl,rfl,h1,h2⟩:=trodAll_cons h
    obtain ⟨y,y1,y2⟩:=open_arg (ι:=ι) hs.1 (hv 0 t v rfl rfl) h1
    obtain ⟨xs,x1,x2⟩:=open_all ss ts vs' ds' q hs.2 (fun j t v ht hv'=>hv (j + 1) t v (by simpa using ht) (by simpa using hv')) h2
    exact ⟨y :: xs,by simp only [Fitss]; exact ⟨y,xs,rfl,y1,x1⟩,.cons y2 x2⟩
  | [],_ :: _,_,_,_,hs,_,_=>by cases hs
  | _ :: _,[],_,_,_,hs,_,_=>by cases hs
def rowed (P:Program) (t:TypeId):Bool:=P.readableRec t && decide (t < P.types.size)
theorem keep_all {P:Program} {H:Type} {enc:TypeId × Value → H} (hl:laidOutB P = true) {W W':World} (hb:Below W.heap.size W W') :
    ∀ (ts:List TypeId) (vs:List Value) (ds:List (DataW H)) (ps:List MemPlace),ts.all (rowed P) = true → (∀ x ∈ ps,x.block < W.heap.size) → DataW.TrodAll enc P W 0 (fun _=>true) true ts vs ds ps →
      DataW.TrodAll enc P W' 0 (fun b=>decide (b < W.heap.size)) true ts vs ds ps
  | [],vs,ds,ps,_,_,h=>by
    obtain ⟨rfl,rfl,rfl⟩:=trodAll_nil h
    exact trodAll_mk0
  | t :: ts,vs,ds,ps,ht,hp,h=>by
    simp only [List.all_cons,Bool.and_eq_true,rowed,decide_eq_true_eq] at ht
    obtain ⟨v,vs',d,ds',p,q,rfl,rfl,rfl,h1,h2⟩:=trodAll_cons h
    exact trodAll_cons_mk (Below.trod hl ht.1.1 ht.1.2 h1 hb fun x hx=>hp x (List.mem_append.2 (.inl hx)))
      (keep_all hl hb ts vs' ds' q (by simpa [rowed] using ht.2) (fun x hx=>hp x (List.mem_append.2 (.inr hx))) h2)
theorem places_lt {P:Program} {H:Type} {enc:TypeId × Value → H} {W:World} {ts:List TypeId} {vs:List Value} {ds:List (DataW H)} {ps:List MemPlace} {base:Nat} {spare:Nat → Bool} {held:Bool}
    (h:DataW.TrodAll enc P W base spare held ts vs ds ps):∀ x ∈ ps,x.block < W.heap.size:=h.lt
end Tor
