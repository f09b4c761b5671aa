/-
  A part of the proof: an abstract machine for the program, its soundness, and what the functions compute (In17, In18, In19, In20, In21, In22, In24, In26, Frame).
  Conditions: none.
-/
import Derived.Test.YtejciamannpljaaGreatM08
import Derived.Test.YtejciamannpljaaGreatM12
import Derived.Test.YtejciamannpljaaGreatM13
import Derived.Carry
import Derived.ChangeShapes
set_option linter.unusedSectionVars false
set_option linter.unusedVariables false
set_option linter.unusedSimpArgs false
set_option linter.defProp false
namespace Tor
open Go
theorem lin_fadd (f g:Int → Int):∀ x:List (Int × Int),lin (fun i=>f i + g i) x = lin f x + lin g x
  | []=>rfl
  | p :: r=>by simp only [lin]; rw [lin_fadd f g r,Int.mul_add]; omega
theorem lin_fmul (n:Int) (f:Int → Int):∀ x:List (Int × Int),lin (fun i=>n * f i) x = n * lin f x
  | []=>by simp [lin]
  | p :: r=>by
    simp only [lin]; rw [lin_fmul n f r,Int.mul_add]
    have:p.2 * (n * f p.1) = n * (p.2 * f p.1):=by rw [← Int.mul_assoc,Int.mul_comm p.2 n,Int.mul_assoc]
    omega
theorem lin_fzero:∀ x:List (Int × Int),lin (fun _=>0) x = 0
  | []=>rfl
  | p :: r=>by simp only [lin]; rw [lin_fzero r]; simp
theorem lin_one (f:Int → Int) (k:Int):lin f [(k,1)] = f k:=by simp [lin]
theorem bnd26_lin (c:List Cel) (f:Int → Int) (x:List (Int × Int)):lin f (bnd26 c x) = lin (fun i=>lin f (cellOf? c i).b) x:=by
  unfold bnd26; rw [bnd_lin]; simp [lin]
theorem appF_lin' (f:Int → Int) (F:Int → List (Int × Int)) (x:List (Int × Int)):lin f (appF F x) = lin (fun i=>lin f (F i)) x:=by
  unfold appF; rw [app_lin]; simp [lin]
theorem lin_ext {x y:List (Int × Int)} (hx:Canon none x) (hy:Canon none y) (h:∀ f:Int → Int,lin f x = lin f y):x = y :=
  canon_ext x y none none hx hy fun k=>by rw [← lin_look hx,← lin_look hy]; exact h _
def RF (c:List Cel) (l:List Int) (f:Int → Int) (n:Nat) (id:Int):Int:=sumN n fun i=>if id = (c.getD i zC).id then lin f (raise c l i) else 0
theorem liftI_lin (c:List Cel) (l:List Int) (i:Nat) (f:Int → Int):∀ (x a:List (Int × Int)),lin f (liftI c l i x a) = lin f a + lin (fun id=>if id = (c.getD i zC).id then lin f (raise c l i) else 0) x
  | [],a=>by simp [liftI,lin]
  | p :: r,a=>by
    show lin f (liftI c l i r _) = _
    rw [liftI_lin c l i f r]
    simp only [lin]
    split
    · rename_i h
      rw [lin_add]; omega
    · simp; 
theorem lift_lin (c:List Cel) (l:List Int) (f:Int → Int) (x:List (Int × Int)):lin f (lift c l x) = lin (RF c l f c.length) x:=by
  unfold lift
  generalize c.length = n
  induction n with
  | zero=>show 0 = lin (fun _=>0) x; rw [lin_fzero]
  | succ n ih =>
    rw [liftN_succ,liftI_lin,ih,← lin_fadd]; rfl
theorem liftI_key {P:Int → Prop} (c:List Cel) (l:List Int) (i:Nat):∀ (x a:List (Int × Int)),(∀ p ∈ x,p.1 = (c.getD i zC).id → ∀ q ∈ raise c l i,P q.1) → (∀ p ∈ a,P p.1) → ∀ p ∈ liftI c l i x a,P p.1
  | [],a,_,ha=>ha
  | p :: r,a,hx,ha=>by
    refine liftI_key c l i r _ (fun q hq=>hx q (.tail _ hq)) ?_
    show ∀ q ∈ (if p.1 = (c.getD i zC).id then add26 a (raise c l i) p.2 else a),P q.1
    split
    · rename_i h
      exact add_keys _ _ _ (hx p (.head _) h) ha
    · exact ha
theorem lift_key {c:List Cel} {s:GS} {m:Nat} (g:Good c s m) (l:List Int) {k:Int} {x:List (Int × Int)} (hx:∀ p ∈ x,p.1 ∈ cellsC c k):∀ p ∈ lift c l x,p.1 ∈ cellsC c (k + 1):=by
  have:∀ n,n ≤ c.length → ∀ p ∈ liftN c l x n,p.1 ∈ cellsC c (k + 1):=by
    intro n
    induction n with
    | zero=>exact fun _ p hp=>(by cases hp)
    | succ n ih =>
      intro hn
      rw [liftN_succ]
      refine liftI_key c l n x _ (fun p hp he q hq=>?_) (ih (by omega))
      have h1:=raise_key c l n q hq
      unfold upIds at h1
      have hm:c.getD n zC ∈ c:=by simp [List.getD,show n < c.length by omega]
      obtain ⟨y,hy,hd,hid⟩:=cells_mem.1 (hx p hp)
      have:c.getD n zC = y:=by
        have a1:=cellC_mem g.ids hm
        have a2:=cellC_mem g.ids hy
        rw [← a1,← a2,hid,he]
      rw [this,hd] at h1
      exact h1
  exact this _ (Nat.le_refl _)
theorem find_nodup:∀ {M:Mp},(M.map (·.1)).Nodup → ∀ {p:Int × List (Int × Int)},p ∈ M → imgF M p.1 = p.2
  | [],_,_,hp=>by cases hp
  | q :: r,hn,p,hp=>by
    obtain ⟨h1,h2⟩:=List.nodup_cons.1 hn
    have ih:=fun hp=>find_nodup h2 (p:=p) hp
    unfold imgF at ih ⊢
    rw [findM_cons]
    cases hp with
    | head=>rw [if_pos rfl]; rfl
    | tail _ hp =>
      rw [if_neg (fun e=>h1 (by
        have:=List.mem_map_of_mem (f:=(·.1)) hp
        rw [← e] at this; exact this))]
      exact ih hp
section
variable {a b:List Cel} {u:Nat} {M:Mp}
theorem CM.at (h:CM a b u M) (hnd:(idsC a).Nodup) {i:Nat} (hi:i < a.length) (hj:i < M.length):imgF M a[i].id = M[i].2:=by
  have e:M[i].1 = a[i].id:=by
    have:=congrArg (fun l=>l[i]?) h.ids
    simpa only [idsC,List.getElem?_map,List.getElem?_eq_getElem hi,List.getElem?_eq_getElem hj,Option.map_some,Option.some.injEq] using this
  rw [← e]
  exact find_nodup (by rw [h.ids]; exact hnd) (List.getElem_mem hj)
theorem VM.keyAt (h:VM a b u M) (hnd:(idsC a).Nodup) {y:Cel} (hy:y ∈ a):∀ p ∈ imgF M y.id,p.1 ∈ cellsC b y.dim:=by
  obtain ⟨i,hi,rfl⟩:=List.getElem_of_mem hy
  have hj:i < M.length:=by rw [h.cm.len]; exact hi
  rw [h.cm.at hnd hi hj]
  exact h.key i hi hj
theorem VM.comAt (h:VM a b u M) (hnd:(idsC a).Nodup) {y:Cel} (hy:y ∈ a):bnd26 b (imgF M y.id) = appF (imgF M) y.b:=by
  obtain ⟨i,hi,rfl⟩:=List.getElem_of_mem hy
  have hj:i < M.length:=by rw [h.cm.len]; exact hi
  rw [h.cm.at hnd hi hj]
  exact h.com i hi hj
theorem VM.of (h:CM a b u M) (hnd:(idsC a).Nodup) (h1:∀ y ∈ a,∀ p ∈ imgF M y.id,p.1 ∈ cellsC b y.dim) (h2:∀ y ∈ a,bnd26 b (imgF M y.id) = appF (imgF M) y.b):VM a b u M where
  cm:=h
  key:=fun i hi hj=>by rw [← h.at hnd hi hj]; exact h1 _ (List.getElem_mem hi)
  com:=fun i hi hj=>by rw [← h.at hnd hi hj]; exact h2 _ (List.getElem_mem hi)
end
theorem homC_key {c:List Cel} {s:GS} {m:Nat} (g:Good c s m) (l:List Int) (n:Int) {i:Nat} (hi:i < c.length):∀ p ∈ homC c l n i,p.1 ∈ cellsC c (c.getD i zC).dim:=by
  have hci:c.getD i zC ∈ c:=by simp [List.getD,hi]
  have h1:∀ p ∈ [((c.getD i zC).id,(1:Int))],p.1 ∈ cellsC c (c.getD i zC).dim:=fun p hp=>by
    rw [List.mem_singleton] at hp; subst hp
    exact cells_mem.2 ⟨_,hci,rfl,rfl⟩
  have h2:=lift_key g l h1
  have h3:∀ p ∈ bz c (lift c l [((c.getD i zC).id,1)]),p.1 ∈ cellsC c (c.getD i zC).dim:=by
    unfold bz
    rw [dim_of g h2,if_pos rfl]
    have:=bnd_down g h2
    rwa [Int.add_sub_cancel] at this
  have h4:=lift_key g l (g.key _ hci)
  rw [Int.sub_add_cancel] at h4
  exact add_keys _ _ _ h4 (add_keys _ _ _ h3 (add_keys _ _ _ h1 (fun p hp=>by cases hp)))
theorem homC_lin {c:List Cel} {s:GS} {m:Nat} (g:Good c s m) (l:List Int) (n:Int) {i:Nat} (hi:i < c.length) (f:Int → Int) :
    lin f (homC c l n i) = n * f (c.getD i zC).id + RF c l (fun j=>lin f (cellOf? c j).b) c.length (c.getD i zC).id + lin (RF c l f c.length) (c.getD i zC).b:=by
  have hci:c.getD i zC ∈ c:=by simp [List.getD,hi]
  have h1:∀ p ∈ [((c.getD i zC).id,(1:Int))],p.1 ∈ cellsC c (c.getD i zC).dim:=fun p hp=>by
    rw [List.mem_singleton] at hp; subst hp
    exact cells_mem.2 ⟨_,hci,rfl,rfl⟩
  have h2:=lift_key g l h1
  unfold homC bz
  rw [dim_of g h2,if_pos rfl,lin_add,lin_add,lin_add,bnd26_lin,lift_lin,lift_lin,lin_one,lin_one]
  simp [lin]
theorem hom_vm {c:List Cel} {s:GS} {m e:Nat} (g:Good c s m) (hm:m ≤ 11) (he:∀ k,s.b k ≤ e) (hee:e ≤ 1000000000) (l:List Int) {N:Int} (hN:-3 ≤ N ∧ N ≤ 3) {n:Nat} (hn:n ≤ c.length) {s2 m2} (g2:Good (c.take n) s2 m2):VM (c.take n) c (e + 170) ((hom c l N).take n):=by
  have hcm:=hom_cm g hm he hee l hN hn
  have hnd:=idsC_nodup g2.ids
  have himg:∀ y ∈ c.take n,∃ i,i < c.length ∧ c.getD i zC = y ∧ imgF ((hom c l N).take n) y.id = homC c l N i:=by
    intro y hy
    obtain ⟨i,hi,rfl⟩:=List.getElem_of_mem hy
    have hin:i < n:=by simp at hi; omega
    have hic:i < c.length:=by omega
    have hj:i < ((hom c l N).take n).length:=by rw [hcm.len]; exact hi
    refine ⟨i,hic,by simp [List.getD,hic],?_⟩
    rw [hcm.at hnd hi hj,List.getElem_take]
    simp [hom,homI]
  have hsub:∀ y ∈ c.take n,y ∈ c:=fun y hy=>List.mem_of_mem_take hy
  refine VM.of hcm hnd (fun y hy=>?_) (fun y hy=>?_)
  · obtain ⟨i,hi,rfl,e⟩:=himg y hy
    rw [e]
    exact homC_key g l N hi
  · obtain ⟨i,hi,rfl,e⟩:=himg y hy
    rw [e]
    refine lin_ext (bnd_canon c _) (app_canon _ _) fun f=>?_
    have hy':=hsub _ hy
    have hbb:∀ f:Int → Int,lin (fun j=>lin f (cellOf? c j).b) (c.getD i zC).b = 0:=fun f=>by
      rw [← bnd26_lin,← bnd_one g hy',bnd_bnd g (k:=(c.getD i zC).dim) fun p hp=>by
        rw [List.mem_singleton] at hp; subst hp
        exact cells_mem.2 ⟨_,hy',rfl,rfl⟩]
      rfl
    have e1:∀ p ∈ (c.getD i zC).b,lin f (imgF ((hom c l N).take n) p.1) = (N * f p.1 + RF c l (fun j=>lin f (cellOf? c j).b) c.length p.1) + lin (RF c l f c.length) (cellOf? c p.1).b:=fun p hp=>by
      obtain ⟨z,hz,hd,hid⟩:=cells_mem.1 (g2.key _ hy p hp)
      rw [← hid]
      obtain ⟨j,hj,rfl,e⟩:=himg z hz
      rw [e,homC_lin g l N hj f,cellC_mem g.ids (hsub _ hz)]
    have hG:(fun j=>lin (fun j=>lin f (cellOf? c j).b) (cellOf? c j).b) = fun _=>0:=by
      funext j
      unfold cellOf?
      cases hf:findC c j with
      | none=>rfl
      | some z =>
        have hz:z ∈ c:=List.mem_of_find?_eq_some hf
        show lin _ z.b = 0
        have:=bnd_bnd g (x:=[(z.id,1)]) (k:=z.dim) fun p hp=>by
          rw [List.mem_singleton] at hp; subst hp
          exact cells_mem.2 ⟨_,hz,rfl,rfl⟩
        rw [bnd_one g hz] at this
        have h2:=congrArg (lin f) this
        rw [bnd26_lin] at h2
        exact h2
    have hR0:∀ id,RF c l (fun _=>0) c.length id = 0:=fun id=>sumN_zero fun k _=>by rw [lin_fzero]; split <;> rfl
    rw [bnd26_lin,appF_lin',homC_lin g l N hi,hG,hR0,cellC_mem g.ids hy',lin_congr (f:=fun j=>lin f (imgF ((hom c l N).take n) j)) (g:=fun j=>(N * f j + RF c l (fun j=>lin f (cellOf? c j).b) c.length j) + lin (RF c l f c.length) (cellOf? c j).b) e1,lin_fadd,lin_fadd,lin_fmul,hbb (RF c l f c.length)]
    omega
theorem incl_ids (a:List Cel):(incl a).map (·.1) = idsC a:=by unfold incl idsC; rw [List.map_map]; rfl
theorem incl_img {a:List Cel} (hnd:(idsC a).Nodup) {y:Cel} (hy:y ∈ a):imgF (incl a) y.id = [(y.id,1)] :=
  find_nodup (M:=incl a) (p:=(y.id,[(y.id,1)])) (by rw [incl_ids]; exact hnd) (List.mem_map_of_mem (f:=fun x:Cel=>(x.id,[(x.id,(1:Int))])) hy)
theorem incl_vm {a c:List Cel} {s:GS} {m:Nat} (g:Good c s m) {s2 m2} (g2:Good a s2 m2) (hsub:∀ y ∈ a,y ∈ c):VM a c 0 (incl a):=by
  have hnd:=idsC_nodup g2.ids
  refine VM.of ⟨incl_ids a,fun p hp=>?_⟩ hnd (fun y hy=>?_) (fun y hy=>?_)
  · obtain ⟨y,hy,rfl⟩:=List.mem_map.1 hp
    exact GC.one (List.mem_map_of_mem (hsub y hy)) (by decide) (by decide)
  · rw [incl_img hnd hy]
    intro p hp
    rw [List.mem_singleton] at hp; subst hp
    exact cells_mem.2 ⟨y,hsub y hy,rfl,rfl⟩
  · rw [incl_img hnd hy,bnd_one g (hsub y hy)]
    refine lin_ext (g2.cn y hy) (app_canon _ _) fun f=>?_
    rw [appF_lin']
    refine lin_congr fun p hp=>?_
    obtain ⟨z,hz,hd,hid⟩:=cells_mem.1 (g2.key y hy p hp)
    rw [← hid,incl_img hnd hz,lin_one]
theorem comp_img (M N:Mp) (id:Int):imgF (compM M N) id = appF (imgF N) (imgF M id):=by
  unfold compM
  induction M with
  | nil=>rfl
  | cons p r ih =>
    unfold imgF at ih ⊢
    rw [List.map_cons,findM_cons,findM_cons]
    split
    · rfl
    · exact ih
theorem VM.comp {a b c:List Cel} {u v w:Nat} {M N:Mp} (h:VM a b u M) (k:VM b c v N) (hna:(idsC a).Nodup) (hnb:(idsC b).Nodup) (hb:(idsC b).length ≤ 11) (hc:(idsC c).length ≤ 11) {s:GS} {m:Nat} (gb:Good b s m) {s':GS} {m':Nat} (gc:Good c s' m') (hw:u + v + 7 ≤ w):VM a c w (compM M N):=by
  refine VM.of (h.cm.comp k.cm hb hc hw) hna (fun y hy=>?_) (fun y hy=>?_)
  · rw [comp_img]
    have:∀ (x o:List (Int × Int)),(∀ p ∈ x,p.1 ∈ cellsC b y.dim) → (∀ p ∈ o,p.1 ∈ cellsC c y.dim) → ∀ p ∈ x.foldl (fun a p=>add26 a (imgF N p.1) p.2) o,p.1 ∈ cellsC c y.dim:=by
      intro x
      induction x with
      | nil=>exact fun o _ ho=>ho
      | cons p r ih =>
        refine fun o hx ho=>ih _ (fun q hq=>hx q (.tail _ hq)) (add_keys _ _ _ ?_ ho)
        obtain ⟨z,hz,hd,hid⟩:=cells_mem.1 (hx p (.head _))
        rw [← hid,← hd]
        exact k.keyAt hnb hz
    exact this _ [] (h.keyAt hna hy) (fun p hp=>by cases hp)
  · rw [comp_img]
    refine lin_ext (bnd_canon c _) (app_canon _ _) fun f=>?_
    have h2:=congrArg (lin fun i=>lin f (imgF N i)) (h.comAt hna hy)
    rw [bnd26_lin,appF_lin'] at h2
    rw [bnd26_lin,appF_lin',appF_lin']
    have e1:∀ p ∈ imgF M y.id,lin (fun j=>lin f (cellOf? c j).b) (imgF N p.1) = lin (fun i=>lin f (imgF N i)) (cellOf? b p.1).b:=fun p hp=>by
      obtain ⟨z,hz,hd,hid⟩:=cells_mem.1 (h.keyAt hna hy p hp)
      rw [← hid,cellC_mem gb.ids hz]
      have:=congrArg (lin f) (k.comAt hnb hz)
      rwa [bnd26_lin,appF_lin'] at this
    rw [lin_congr (f:=fun j=>lin (fun j=>lin f (cellOf? c j).b) (imgF N j)) (g:=fun j=>lin (fun i=>lin f (imgF N i)) (cellOf? b j).b) e1,h2]
    refine lin_congr fun p hp=>?_
    rw [comp_img,appF_lin']
end Tor
namespace Tor
open Go
theorem set_same {α:Type} {l:List α} {i:Nat} {x:α} (h:l[i]? = some x):l.set i x = l:=by
  apply List.ext_getElem?
  intro j
  by_cases e:i = j
  · subst e
    have hi:i < l.length:=(List.getElem?_eq_some_iff.1 h).1
    rw [List.getElem?_set_self hi,h]
  · rw [List.getElem?_set_ne e]
def rsK (o R:Nat):List Nat:=(List.range R).map (o + 1 + ·)
def topK (o R C i:Nat):List AV:=tops C (rsK o i) ++ List.replicate (R - i) .nl
theorem rsK_len (o R):(rsK o R).length = R:=by simp [rsK]
theorem topK_len {o R C i} (h:i ≤ R):(topK o R C i).length = R:=by simp [topK,tops_len,rsK_len]; omega
theorem topK_set {o R C i} (h:i < R):(topK o R C i).set i (.sl (o + 1 + i) 0 2 0 C) = topK o R C (i + 1):=by
  unfold topK
  have e:R - i = (R - (i + 1)) + 1:=by omega
  have hl:(tops C (rsK o i)).length = i:=by rw [tops_len,rsK_len]
  rw [e,List.replicate_succ,List.set_append_right _ _ (by omega),hl,Nat.sub_self,List.set_cons_zero]
  simp [tops,rsK,List.range_succ]
structure KH (H K:Heap) (R C i:Nat):Prop where
  top:K[H.length]? = some (.arr 0 1 (topK H.length R C i))
  len:K.length = H.length + 1 + i
  row:∀ j,j < i → K[H.length + 1 + j]? = some (.arr 0 2 (rowA (List.replicate C 0)))
  old:∀ y,y < H.length → K[y]? = H[y]?
def bst18 (o R C i:Nat) (K:Heap) (b:Bool):St :=
  { vars:=[.int .i64 R,.int .i64 C,.fn 250 [],.u,.u,.int .i64 R,.int .i64 (i:Nat),.u,.u,.u,.u,.agg [.int .i64 0,.int .i64 0,.nl],HV o 0 R C],heap:=K,rs:=b }
variable {E:CallF} (hE:Free E)
include hE
theorem i_zero (i j:Int) (H:Heap):call E GP 250 [.int .i64 i,.int .i64 j] H = some (Z 0,H,false):=by
  rw [call_fun (hE _ _ _ (by decide)) (f:=a250) rfl rfl]
  rw [Z_zero]
  simp (maxSteps:=1000000) (disch:=first | omega | decide) only [si,sf,simprocAttr,a250,a250R]
theorem build_step (H:Heap) (R C:Nat) (hR:R < 2147483648) (hC:C < 2147483648) (i:Nat) (hi:i < R) (st:St) (h:∃ K b,st = bst18 H.length R C i K b ∧ KH H K R C i) :
    ∃ st',(∃ K b,st' = bst18 H.length R C (i + 1) K b ∧ KH H K R C (i + 1)) ∧ run E GP a251l0 st = run E GP a251l0 st':=by
  obtain ⟨K,b,rfl,h1,h2,h3,h4⟩:=h
  let K':Heap:=(K ++ [AObj.arr 0 2 (rowA (List.replicate C 0))]).set H.length (.arr 0 1 (topK H.length R C (i + 1)))
  have hk':KH H K' R C (i + 1):=by
    refine ⟨?_,by simp [K',h2]; omega,fun j hj=>?_,fun y hy=>?_⟩
    · exact List.getElem?_set_self (by simp [h2]; omega)
    · simp only [K']
      rw [List.getElem?_set_ne (by omega)]
      by_cases e:j = i
      · subst e
        rw [List.getElem?_append_right (by omega),h2,Nat.sub_self]; rfl
      · rw [List.getElem?_append_left (by omega)]; exact h3 j (by omega)
    · simp only [K']
      rw [List.getElem?_set_ne (by omega),List.getElem?_append_left (by omega)]; exact h4 y hy
  refine ⟨_,⟨K',true,rfl,hk'⟩,?_⟩
  have g1:(K ++ [AObj.arr 0 2 (rowA (List.replicate C 0))])[H.length]? = some (.arr 0 1 (topK H.length R C i)):=by
    rw [List.getElem?_append_left (by omega)]; exact h1
  have tl:=topK_len (o:=H.length) (R:=R) (C:=C) (i:=i) (by omega)
  have ts:=topK_set (o:=H.length) (R:=R) (C:=C) (i:=i) hi
  have hrow:=hk'.row i (by omega)
  have htop:=hk'.top
  have hrg:(topK H.length R C (i + 1))[i]? = some (.sl (H.length + 1 + i) 0 2 0 C):=by
    unfold topK
    rw [List.getElem?_append_left (by rw [tops_len,rsK_len]; omega),tops_get (by rw [rsK_len]; omega)]
    simp [rsK,List.getD]
  have hz:=fun i j H=>i_zero hE i j H
  let T:Nat → St:=fun j=>{ vars:=[.int .i64 R,.int .i64 C,.fn 250 [],.int .i64 (i:Nat),.u,.int .i64 R,.int .i64 (i:Nat),.bool true,.int .i64 C,.int .i64 (j:Nat),.u,.agg [.int .i64 0,.int .i64 0,.nl],HV H.length 0 R C],heap:=K',rs:=true }
  have hinner:∀ j,j < C → run E GP a251l1 (T j) = run E GP a251l1 (T (j + 1)):=by
    intro j hj
    have hzl:(rowA (List.replicate C 0)).length = C:=by simp [rowA_len]
    have hzs:(rowA (List.replicate C 0)).set j (Z 0) = rowA (List.replicate C 0):=by
      rw [rowA_set]; congr 1; exact set_same (by simp [hj])
    have hzg:(rowA (List.replicate C 0))[j]? = some (Z 0):=by
      rw [rowA_get (by simp [hj])]; simp [List.getD,hj]
    have hks:K'.set (H.length + 1 + i) (.arr 0 2 (rowA (List.replicate C 0))) = K':=set_same hrow
    have htl':=topK_len (o:=H.length) (R:=R) (C:=C) (i:=i + 1) (by omega)
    show run E GP a251l1 { vars:=_,heap:=_,rs:=_ } = run E GP a251l1 { vars:=_,heap:=_,rs:=_ }
    unfold HV
    generalize K' = Y at *
    generalize rowA (List.replicate C 0) = zr at *
    generalize topK H.length R C (i + 1) = tp at *
    conv=>lhs; rw [a251l1_run]
    simp (maxSteps:=1000000) (disch:=first | omega | decide) only [si,sf,simprocAttr,a251b1,a251R,hj,hi,htop,hrg,htl',hrow,hzl,hzg,hz,hzs,hks]
  have hl:=loop_ind T _ C hinner rfl
  have he:run E GP a251l1 (T C) = some (.exit 2,{ vars:=[.int .i64 R,.int .i64 C,.fn 250 [],.int .i64 (i:Nat),.u,.int .i64 R,.int .i64 (i:Nat),.bool true,.int .i64 C,.int .i64 C,.bool false,.agg [.int .i64 0,.int .i64 0,.nl],HV H.length 0 R C],heap:=K',rs:=true }):=by
    show run E GP a251l1 { vars:=_,heap:=_,rs:=_ } = _
    unfold HV
    rw [a251l1_run]
    simp (maxSteps:=1000000) (disch:=first | omega | decide) only [si,sf,simprocAttr,a251b1,a251R,Nat.lt_irrefl]
  rw [he] at hl
  have hl:run E GP a251l1 { vars:=[.int .i64 R,.int .i64 C,.fn 250 [],.int .i64 (i:Nat),.u,.int .i64 R,.int .i64 (i:Nat),.bool true,.int .i64 C,.int .i64 0,.u,.agg [.int .i64 0,.int .i64 0,.nl],HV H.length 0 R C],heap:=K',rs:=true } = _:=hl
  have hc1:(C:Int) ≤ 4294967296:=by omega
  have hc2:(0:Int) ≤ (C:Int):=by omega
  have hgi:(topK H.length R C i)[i]? = some .nl:=by
    unfold topK
    rw [List.getElem?_append_right (by rw [tops_len,rsK_len]; omega),tops_len,rsK_len,Nat.sub_self,List.getElem?_replicate,if_pos (by omega)]
  have ek:K' = (K ++ [AObj.arr 0 2 (rowA (List.replicate C 0))]).set H.length (.arr 0 1 ((topK H.length R C i).set i (.sl (H.length + 1 + i) 0 2 0 C))):=by rw [ts]
  unfold bst18
  unfold HV at hl ⊢
  conv=>lhs; rw [a251l0_run]
  simp (maxSteps:=1000000) (disch:=first | omega | decide) only [si,sf,simprocAttr,a251b0,a251R,hi,g1,tl,hgi,h2,rowA_zero,hc1,hc2,maxLenA,← ek,hl]
theorem i_build (R C:Nat) (hR:R < 2147483648) (hC:C < 2147483648) (H:Heap):∃ K b,call E GP 281 [.int .i64 R,.int .i64 C,.fn 250 []] H = some (HV H.length 0 R C,K,b) ∧ KH H K R C R:=by
  have h0:KH H (H ++ [.arr 0 1 (List.replicate R .nl)]) R C 0:=by
    refine ⟨?_,by simp,fun j hj=>by omega,fun y hy=>List.getElem?_append_left hy⟩
    rw [List.getElem?_append_right (Nat.le_refl _),Nat.sub_self]
    simp [topK,tops,rsK]
  obtain ⟨st,⟨K,b,rfl,hk⟩,hl⟩:=loop_ex (E:=E) (GP:=GP) (l:=a251l0) (fun i st=>∃ K b,st = bst18 H.length R C i K b ∧ KH H K R C i) R (bst18 H.length R C 0 (H ++ [.arr 0 1 (List.replicate R .nl)]) false) ⟨_,_,rfl,h0⟩ (fun i hi st h=>build_step hE H R C hR hC i hi st h)
  have he:run E GP a251l0 (bst18 H.length R C R K b) = some (.exit 0,{ vars:=[.int .i64 R,.int .i64 C,.fn 250 [],.u,.u,.int .i64 R,.int .i64 R,.bool false,.u,.u,.u,.agg [.int .i64 0,.int .i64 0,.nl],HV H.length 0 R C],heap:=K,rs:=b }):=by
    unfold bst18 HV
    rw [a251l0_run]
    simp (maxSteps:=1000000) (disch:=first | omega | decide) only [si,sf,simprocAttr,a251b0,a251R,Nat.lt_irrefl]
  rw [he] at hl
  have hl:run E GP a251l0 { vars:=[.int .i64 R,.int .i64 C,.fn 250 [],.u,.u,.int .i64 R,.int .i64 0,.u,.u,.u,.u,.agg [.int .i64 0,.int .i64 0,.nl],HV H.length 0 R C],heap:=H ++ [.arr 0 1 (List.replicate R .nl)],rs:=false } = _:=hl
  have hc1:(R:Int) ≤ 4294967296:=by omega
  have hc2:(0:Int) ≤ (R:Int):=by omega
  refine ⟨K,b,?_,hk⟩
  have hmode:a281.mode = .keep:=rfl
  rw [call_fun (hE _ _ _ (by decide)) (f:=a281) rfl rfl]
  unfold HV at hl ⊢
  simp (maxSteps:=1000000) (disch:=first | omega | decide) only [si,sf,simprocAttr,hmode,a281,a251,a251R,hc1,hc2,maxLenA,hl]
theorem i_new (R C:Nat) (hR:R < 2147483648) (hC:C < 2147483648) (H:Heap):∃ K b,call E GP 280 [.int .i64 R,.int .i64 C] H = some (HV H.length 0 R C,K,b) ∧ KH H K R C R:=by
  obtain ⟨K,b,h,hk⟩:=i_build hE R C hR hC H
  refine ⟨K,b,?_,hk⟩
  have hmode:a280.mode = .keep:=rfl
  rw [call_fun (hE _ _ _ (by decide)) (f:=a280) rfl rfl]
  unfold HV at h ⊢
  simp (maxSteps:=1000000) (disch:=first | omega | decide) only [si,sf,simprocAttr,hmode,a280,a240,a240R,h]
omit hE in
theorem KH.mat {H K:Heap} {R C:Nat} (h:KH H K R C R):HMat K H.length 0 C (rsK H.length R) (List.replicate R (List.replicate C 0)) where
  top:=by
    have:=h.top
    unfold topK at this
    rwa [Nat.sub_self,List.replicate_zero,List.append_nil] at this
  row:=fun i hi=>by
    rw [rsK_len] at hi
    have:=h.row i hi
    have e:(rsK H.length R).getD i 0 = H.length + 1 + i:=by simp [rsK,List.getD,hi]
    have e2:(List.replicate R (List.replicate C (0:Int))).getD i [] = List.replicate C 0:=by simp [List.getD,hi]
    rw [e,e2]; exact this
  len:=by simp [rsK_len]
  wid:=fun i hi=>by
    rw [rsK_len] at hi
    simp [List.getD,hi]
  nod:=by
    unfold rsK
    rw [List.Nodup,List.pairwise_map]
    exact List.nodup_range.imp fun h=>by omega
  off:=by simp [rsK]; omega
end Tor
namespace Tor
open Go
def matF (a b:List Cel) (M:Mp) (k:Int):List (List Int):=(cellsC a k).map fun id=>vecV b k (imgF M id)
theorem matF_sha (a b:List Cel) (M:Mp) (k:Int):Sha (cellsC a k).length (cellsC b k).length (matF a b M k) :=
  ⟨by simp [matF],fun i hi=>by simp [matF,List.getD,hi,vecV]⟩
theorem HMat.ext {H H':Heap} {om g C o:Nat} {rs:List Nat} {A:List (List Int)} (h:HMat H om g C rs A) (he:Ext o H H') (h1:om ≠ o) (h2:∀ r ∈ rs,r ≠ o):HMat H' om g C rs A where
  top:=(he.2 om (List.getElem?_eq_some_iff.1 h.top).1 h1).trans h.top
  row:=fun i hi=>(he.2 _ (List.getElem?_eq_some_iff.1 (h.row i hi)).1 (h2 _ (getD_mem hi))).trans (h.row i hi)
  len:=h.len
  wid:=h.wid
  nod:=h.nod
  off:=h.off
def mst19 (a b:List Cel) (M:Mp) (k:Int) (ids:List Int) (o C i:Nat) (H:Heap) (f:Bool):St :=
  { vars:=[.isl (a.map cA),.isl (b.map cA),.isl (M.map mA),.int .i64 k,.int .i64 0,.isl (ids.map iA),.ptr o 0 [],.u,.u,.u,.u,.bool false,.isl (ids.map iA),.int .i64 ids.length,.int .i64 (i:Nat),.u,.agg [.int .i64 0,.int .i64 0,.nl],HV 0 0 ids.length C],heap:=H,rs:=f }
def rowsT (a b:List Cel) (M:Mp) (k:Int) (i:Nat):List (List Int):=(matF a b M k).take i ++ List.replicate ((cellsC a k).length - i) (List.replicate (cellsC b k).length 0)
theorem vm_vector {a b:List Cel} {sb:GS} {mb u:Nat} {M:Mp} (h:VM a b u M) (gb:Good b sb mb) (hmb:mb ≤ 11) (hna:(idsC a).Nodup) {k:Int} {id:Int} (hid:id ∈ cellsC a k) (H:Heap) :
    call E2 GP 8 [.isl (b.map cA),.int .i64 k,.isl ((imgF M id).map fA)] H = some (.tup [.isl (rowA (vecV b k (imgF M id))),.int .i64 0],H,false):=by
  obtain ⟨y,hy,hd,rfl⟩:=cells_mem.1 hid
  have hk:=h.keyAt hna hy
  have hlen:=(h.cm.img y.id).len
  have hb:=gb.len11 hmb
  have:=up (c_vector free1 b k (imgF M y.id) gb.ids (by have:=gb.len; omega) (by omega) H)
  have e:vec26 b k (imgF M y.id) = (vecV b k (imgF M y.id),0):=by
    unfold vec26
    rw [dim_of gb hk]
    simp only [ne_eq,not_true_eq_false,if_false]
    by_cases h0:imgF M y.id = []
    · simp [h0]
    · simp [h0,hd]
  rw [e] at this
  exact this
theorem mat_step {a b:List Cel} {sa sb:GS} {ma mb u:Nat} {M:Mp} (h:VM a b u M) (ga:Good a sa ma) (gb:Good b sb mb) (hma:ma ≤ 11) (hmb:mb ≤ 11) (k:Int) (i:Nat) (hi:i < (cellsC a k).length) (st:St)
    (hI:∃ H f,st = mst19 a b M k (cellsC a k) ((cellsC a k).length + 1) (cellsC b k).length i H f ∧ IX H ((cellsC a k).length + 1) M ∧ HMat H 0 0 (cellsC b k).length (rsK 0 (cellsC a k).length) (rowsT a b M k i)) :
    ∃ st',(∃ H f,st' = mst19 a b M k (cellsC a k) ((cellsC a k).length + 1) (cellsC b k).length (i + 1) H f ∧ IX H ((cellsC a k).length + 1) M ∧ HMat H 0 0 (cellsC b k).length (rsK 0 (cellsC a k).length) (rowsT a b M k (i + 1))) ∧ run E2 GP a217l0 st = run E2 GP a217l0 st':=by
  obtain ⟨H,f,rfl,hix,hm⟩:=hI
  have hna:=idsC_nodup ga.ids
  have hML:=h.cm.len
  have hal:=ga.len
  have hcl:=cellsC_len a k
  have hcl2:=cellsC_len b k
  have hbl:=gb.len
  obtain ⟨H2,b2,f1,f2,f3⟩:=i_find M (by omega) (by rw [h.cm.ids]; exact hna) H ((cellsC a k).length + 1) ((cellsC a k)[i]) hix
  have hv:=fun H=>vm_vector h gb hmb hna (List.getElem_mem hi) H
  have hsome:(findM M (cellsC a k)[i]).isSome = true:=h.cm.isS (cells_ids _ (List.getElem_mem hi))
  have hm2:=hm.ext f3 (by omega) (fun r hr=>by simp [rsK] at hr; omega)
  have hir:i < (rsK 0 (cellsC a k).length).length:=by rw [rsK_len]; exact hi
  have er:(rsK 0 (cellsC a k).length).getD i 0 = 1 + i:=by simp [rsK,List.getD,hi]
  have hvl:(vecV b k (imgF M (cellsC a k)[i])).length = (cellsC b k).length:=by simp [vecV]
  have hrow:=hm2.row i hir
  have hwid:=hm2.wid i hir
  have hset:=hm2.setRow hir hvl
  have htop:=hm2.top
  have hrg:(tops (cellsC b k).length (rsK 0 (cellsC a k).length))[i]? = some (.sl (1 + i) 0 2 0 (cellsC b k).length):=by
    rw [tops_get hir,er]
  have htl:(tops (cellsC b k).length (rsK 0 (cellsC a k).length)).length = (cellsC a k).length:=by rw [tops_len,rsK_len]
  rw [er] at hrow hset
  have es:(rowsT a b M k i).set i (vecV b k (imgF M (cellsC a k)[i])) = rowsT a b M k (i + 1):=by
    have hml:(matF a b M k).length = (cellsC a k).length:=by simp [matF]
    unfold rowsT
    rw [List.set_append_right _ _ (by simp; omega),List.take_succ_eq_append_getElem (by rw [hml]; exact hi)]
    have e1:i - ((matF a b M k).take i).length = 0:=by simp; omega
    have e2:(cellsC a k).length - i = ((cellsC a k).length - (i + 1)) + 1:=by omega
    rw [e1,e2,List.replicate_succ,List.set_cons_zero]
    simp [matF]
  rw [es] at hset
  refine ⟨_,⟨_,f || b2,rfl,f2.set hrow (.arr 0 2 (rowA (vecV b k (imgF M (cellsC a k)[i])))),hset⟩,?_⟩
  have hvl':(rowA (vecV b k (imgF M (cellsC a k)[i]))).length = (cellsC b k).length:=by rw [rowA_len,hvl]
  have hwl':(rowA ((rowsT a b M k i).getD i [])).length = (cellsC b k).length:=by rw [rowA_len,hwid]
  have hhs:headSize 2 (rowA (vecV b k (imgF M (cellsC a k)[i]))) = true:=by
    cases vecV b k (imgF M (cellsC a k)[i]) with
    | nil=>rfl
    | cons x r=>simp [rowA,headSize,Z_size]
  have hrf:=refs_rowA (vecV b k (imgF M (cellsC a k)[i]))
  have hmin:Nat.min (cellsC b k).length (cellsC b k).length = (cellsC b k).length:=Nat.min_self _
  have htk:(rowA (vecV b k (imgF M (cellsC a k)[i]))).take (cellsC b k).length = rowA (vecV b k (imgF M (cellsC a k)[i])):=List.take_of_length_le (by omega)
  have hdr:(rowA ((rowsT a b M k i).getD i [])).drop (cellsC b k).length = []:=List.drop_of_length_le (by omega)
  obtain ⟨y,hy⟩:=Option.isSome_iff_exists.1 hsome
  rw [hy] at f1
  have f1:call E2 GP 241 [.ptr ((cellsC a k).length + 1) 0 [],.int .i64 (cellsC a k)[i]] H = some (.tup [.isl (y.map fA),.bool true],H2,b2):=f1
  have ey:imgF M (cellsC a k)[i] = y:=by unfold imgF; rw [hy]; rfl
  unfold mst19 HV
  generalize rowA (vecV b k (imgF M (cellsC a k)[i])) = V at *
  generalize rowA ((rowsT a b M k i).getD i []) = W at *
  generalize tops (cellsC b k).length (rsK 0 (cellsC a k).length) = tp at *
  rw [ey] at hv
  generalize cellsC a k = ids at *
  conv=>lhs; rw [a217l0_run]
  simp (maxSteps:=1000000) (disch:=first | omega | decide) only [si,sf,simprocAttr,a217b0,a217R,hi,iA,f1,hv,htop,hrg,htl,hrow,hvl',hwl',hhs,hrf,hmin,htk,hdr,List.append_nil]
theorem i_matrix {a b:List Cel} {sa sb:GS} {ma mb ea eb u:Nat} {M:Mp} (h:VM a b u M) (ga:Good a sa ma) (gb:Good b sb mb) (hma:ma ≤ 11) (hmb:mb ≤ 11) (hea:∀ k,sa.b k ≤ ea) (heb:∀ k,sb.b k ≤ eb) (hu:ea + eb + u ≤ 10000000000) (k:Int) (H:Heap) :
    call E2 GP 217 [.isl (a.map cA),.isl (b.map cA),.isl (M.map mA),.int .i64 k] H = some (.tup [MI (cellsC a k).length (cellsC b k).length (matF a b M k),.int .i64 0],H,false):=by
  have hE2:∀ a H,E2 217 a H = none:=fun a H=>E2_none (by decide) (by decide)
  have hal:=ga.len
  have hbl:=gb.len
  have hcl:=cellsC_len a k
  have hcl2:=cellsC_len b k
  have hv:=fun H=>h.valid ga gb hma hmb hea heb hu H
  have hc1:=fun H=>up (c_cells free1 a k (by omega) H)
  have hc2:=fun H=>up (c_cells free1 b k (by omega) H)
  obtain ⟨K,b0,hnew,hK⟩:=i_new free1 (cellsC a k).length (cellsC b k).length (by omega) (by omega) []
  have hnew:=up hnew
  have hKl:K.length = (cellsC a k).length + 1:=by have:=hK.len; rw [List.length_nil] at this; omega
  have hlen:(K ++ [AObj.var (idx0 M)]).length = (cellsC a k).length + 2:=by simp; omega
  have hoi:(K ++ [AObj.var (idx0 M)])[(cellsC a k).length + 1]? = some (.var (idx0 M)):=by
    rw [List.getElem?_append_right (by omega),show (cellsC a k).length + 1 - K.length = 0 by omega]; rfl
  have hmat:HMat (K ++ [AObj.var (idx0 M)]) 0 0 (cellsC b k).length (rsK 0 (cellsC a k).length) (rowsT a b M k 0):=by
    have:=(hK.mat).app [AObj.var (idx0 M)]
    unfold rowsT
    rw [List.take_zero,List.nil_append,Nat.sub_zero]
    exact this
  obtain ⟨st,⟨H1,b1,rfl,h1,h2⟩,hl⟩:=loop_ex (E:=E2) (GP:=GP) (l:=a217l0) (fun i st=>∃ H f,st = mst19 a b M k (cellsC a k) ((cellsC a k).length + 1) (cellsC b k).length i H f ∧ IX H ((cellsC a k).length + 1) M ∧ HMat H 0 0 (cellsC b k).length (rsK 0 (cellsC a k).length) (rowsT a b M k i)) (cellsC a k).length (mst19 a b M k (cellsC a k) ((cellsC a k).length + 1) (cellsC b k).length 0 (K ++ [AObj.var (idx0 M)]) b0) ⟨_,_,rfl,.inl hoi,hmat⟩ (fun i hi st hI=>mat_step h ga gb hma hmb k i hi st hI)
  have he:run E2 GP a217l0 (mst19 a b M k (cellsC a k) ((cellsC a k).length + 1) (cellsC b k).length (cellsC a k).length H1 b1) = some (.exit 0,{ vars:=[.isl (a.map cA),.isl (b.map cA),.isl (M.map mA),.int .i64 k,.int .i64 0,.isl ((cellsC a k).map iA),.ptr ((cellsC a k).length + 1) 0 [],.u,.u,.u,.u,.bool false,.isl ((cellsC a k).map iA),.int .i64 (cellsC a k).length,.int .i64 (cellsC a k).length,.bool false,.agg [.int .i64 0,.int .i64 0,.nl],HV 0 0 (cellsC a k).length (cellsC b k).length],heap:=H1,rs:=b1 }):=by
    unfold mst19 HV
    generalize cellsC a k = ids at *
    rw [a217l0_run]
    simp (maxSteps:=1000000) (disch:=first | omega | decide) only [si,sf,simprocAttr,a217b0,a217R,Nat.lt_irrefl]
  rw [he] at hl
  have hl:run E2 GP a217l0 { vars:=[.isl (a.map cA),.isl (b.map cA),.isl (M.map mA),.int .i64 k,.int .i64 0,.isl ((cellsC a k).map iA),.ptr ((cellsC a k).length + 1) 0 [],.u,.u,.u,.u,.bool false,.isl ((cellsC a k).map iA),.int .i64 (cellsC a k).length,.int .i64 0,.u,.agg [.int .i64 0,.int .i64 0,.nl],HV 0 0 (cellsC a k).length (cellsC b k).length],heap:=K ++ [AObj.var (idx0 M)],rs:=b0 } = _:=hl
  have erows:rowsT a b M k (cellsC a k).length = matF a b M k:=by
    unfold rowsT
    rw [Nat.sub_self,List.replicate_zero,List.append_nil,List.take_of_length_le (by simp [matF])]
  rw [erows] at h2
  have hz:=fz_HV h2 (rsK_len _ _) 2
  have hrM:=refs_rowsI (matF a b M k)
  have hsM:=solids_rowsI (matF a b M k)
  rw [call_fun (hE2 _ _) (f:=a217) rfl rfl]
  unfold HV MI at *
  unfold idx0 onceV at hl
  simp only [List.length_nil] at hnew
  generalize matF a b M k = A at *
  generalize cellsC a k = ids at *
  simp (maxSteps:=1000000) (disch:=first | omega | decide) only [si,sf,simprocAttr,doBox,a217,a217R,hv,hc1,hc2,hnew,hKl,hl,hz,hrM,hsM]
end Tor
namespace Tor
open Go
theorem r29_proper {a b:List Cel} {u:Nat} {M:Mp} (h:CM a b u M) (hs:a.Pairwise (fun x y=>x.id < y.id)) (ha:a.length ≤ 11) (hb:(idsC b).length ≤ 11) (hu:u ≤ 14000000000) (H:Heap) :
    call E1 GP 225 [.isl (M.map mA)] H = some (.bool true,H,false):=by
  have hl:=h.len
  let S:Nat → St:=fun i=>{ vars:=[.isl (M.map mA),.bool false,.int .i64 (i:Nat),.u,.u],heap:=[],rs:=false }
  have hid:∀ i (hi:i < M.length),∃ hj:i < a.length,M[i].1 = a[i].id:=fun i hi=>⟨by omega,by
    have:=congrArg (fun l=>l[i]?) h.ids
    simpa only [idsC,List.getElem?_map,List.getElem?_eq_getElem hi,List.getElem?_eq_getElem (show i < a.length by omega),Option.map_some,Option.some.injEq] using this⟩
  have hstep:∀ i,i < M.length → run E1 GP a225l0 (S i) = run E1 GP a225l0 (S (i + 1)):=by
    intro i hi
    have hv:=fun H=>(h.gc _ (List.getElem_mem hi)).valid (by omega) hb H
    show run E1 GP a225l0 { vars:=_,heap:=_,rs:=_ } = run E1 GP a225l0 { vars:=_,heap:=_,rs:=_ }
    by_cases h0:i = 0
    · subst h0
      have h00:(0:Int) < (M.length:Int):=by omega
      conv=>lhs; rw [a225l0_run]
      simp (maxSteps:=1000000) (disch:=first | omega | decide) only [si,sf,simprocAttr,a225b0,a225R,hi,h00,mA,hv]
    · obtain ⟨p,hpi⟩:∃ p,i = p + 1:=⟨i - 1,by omega⟩
      have hp:p < M.length:=by omega
      have hlt:¬ (M[p].1 ≥ M[i].1):=by
        obtain ⟨q1,e1⟩:=hid p hp
        obtain ⟨q2,e2⟩:=hid i hi
        rw [e1,e2]
        have:=(List.pairwise_iff_getElem.1 hs) p i q1 q2 (by omega)
        omega
      have h0':(i:Int) > 0:=by omega
      have ws:IntKind.i64.wrap ((i:Int) - 1) = (p:Int):=by rw [show (i:Int) - 1 = p by omega]; exact i64w (by omega)
      conv=>lhs; rw [a225l0_run]
      simp (maxSteps:=1000000) (disch:=first | omega | decide) only [si,sf,simprocAttr,a225b0,a225R,hi,hp,mA,hv,hlt,h0',ws]
  have hlp:=loop_ind S _ M.length hstep rfl
  have he:run E1 GP a225l0 (S M.length) = some (.exit 0,{ vars:=[.isl (M.map mA),.bool false,.int .i64 M.length,.bool false,.u],heap:=[],rs:=false }):=by
    show run E1 GP a225l0 { vars:=_,heap:=_,rs:=_ } = _
    rw [a225l0_run]
    simp (maxSteps:=1000000) (disch:=first | omega | decide) only [si,sf,simprocAttr,a225b0,a225R,Nat.lt_irrefl]
  rw [he] at hlp
  have hlp:run E1 GP a225l0 { vars:=[.isl (M.map mA),.bool false,.int .i64 0,.u,.u],heap:=[],rs:=false } = _:=hlp
  rw [call_fun (free1 _ _ _ (by decide)) (f:=a225) rfl rfl]
  simp (maxSteps:=1000000) (disch:=first | omega | decide) only [si,sf,simprocAttr,a225,a225R,hlp]
theorem r29_valid {a b:List Cel} {sa sb:GS} {ma mb ea eb u:Nat} {M:Mp} (h:VM a b u M) (ga:Good a sa ma) (gb:Good b sb mb) (hma:ma ≤ 11) (hmb:mb ≤ 11) (hea:∀ k,sa.b k ≤ ea) (heb:∀ k,sb.b k ≤ eb) (hu:ea + eb + u ≤ 10000000000) (H:Heap) :
    call E1 GP 224 [.isl (a.map cA),.isl (b.map cA),.isl (M.map mA)] H = some (.bool true,H,false):=by
  have ha:=ga.len11 hma
  have hb:=gb.len11 hmb
  have hkb:=gb.ids64 hmb
  have hMl:=h.cm.len
  have hal:a.length ≤ 11:=by simpa [idsC] using ha
  have hbl:b.length ≤ 11:=by simpa [idsC] using hb
  have hprop:=fun H=>r29_proper h.cm ga.ids hal hb (by omega) H
  let S:Nat → St:=fun i=>{ vars:=[.isl (a.map cA),.isl (b.map cA),.isl (M.map mA),.bool false,.int .i64 (i:Nat),.u,.u,.u,.bool false,.u,.u,.u,.u,.u],heap:=[],rs:=false }
  have hstep:∀ i,i < a.length → run E1 GP a224l0 (S i) = run E1 GP a224l0 (S (i + 1)):=by
    intro i hi
    have hj:i < M.length:=by omega
    have hg:=h.cm.gc _ (List.getElem_mem hj)
    have hgl:=hg.len
    have hdim:=fun H=>r26_dim free1 b M[i].2 (by omega) (by omega) H
    rw [dim_of gb (h.key i hi hj)] at hdim
    have eid:M[i].1 = a[i].id:=by
      have:=congrArg (fun l=>l[i]?) h.cm.ids
      simpa only [idsC,List.getElem?_map,List.getElem?_eq_getElem hi,List.getElem?_eq_getElem hj,Option.map_some,Option.some.injEq] using this
    show run E1 GP a224l0 { vars:=_,heap:=_,rs:=_ } = run E1 GP a224l0 { vars:=_,heap:=_,rs:=_ }
    by_cases h0:M[i].2 = []
    · rw [if_pos h0] at hdim
      rw [h0] at hdim
      simp only [List.map_nil] at hdim
      conv=>lhs; rw [a224l0_run]
      simp (maxSteps:=1000000) (disch:=first | omega | decide) only [si,sf,simprocAttr,a224b0,a224R,hi,hj,cA,mA,eid,h0,hdim,List.map_nil]
    · rw [if_neg h0] at hdim
      have hpos:(M[i].2.length:Int) > 0:=by have:=List.length_pos_iff.2 h0; omega
      conv=>lhs; rw [a224l0_run]
      simp (maxSteps:=1000000) (disch:=first | omega | decide) only [si,sf,simprocAttr,a224b0,a224R,hi,hj,cA,mA,eid,hdim,hpos]
  have hl0:=loop_ind S _ a.length hstep rfl
  have he0:run E1 GP a224l0 (S a.length) = some (.exit 0,{ vars:=[.isl (a.map cA),.isl (b.map cA),.isl (M.map mA),.bool false,.int .i64 a.length,.u,.u,.u,.bool false,.bool false,.u,.u,.u,.u],heap:=[],rs:=false }):=by
    show run E1 GP a224l0 { vars:=_,heap:=_,rs:=_ } = _
    rw [a224l0_run]
    simp (maxSteps:=1000000) (disch:=first | omega | decide) only [si,sf,simprocAttr,a224b0,a224R,Nat.lt_irrefl]
  rw [he0] at hl0
  have hl0:run E1 GP a224l0 { vars:=[.isl (a.map cA),.isl (b.map cA),.isl (M.map mA),.bool false,.int .i64 0,.u,.u,.u,.bool false,.u,.u,.u,.u,.u],heap:=[],rs:=false } = _:=hl0
  let T:Nat → St:=fun j=>{ vars:=[.isl (a.map cA),.isl (b.map cA),.isl (M.map mA),.bool false,.int .i64 a.length,.u,.u,.int .i64 (j:Nat),.bool false,.bool false,.u,.u,.u,.u],heap:=[],rs:=false }
  have tstep:∀ j,j < a.length → run E1 GP a224l1 (T j) = run E1 GP a224l1 (T (j + 1)):=by
    intro i hi
    have hj:i < M.length:=by omega
    have hg:=h.cm.gc _ (List.getElem_mem hj)
    have hdo:=dim_of gb (h.key i hi hj)
    have b7:=good_b7 gb (by omega) heb (hg.ch hb hkb) (e2:=u) (Nat.le_refl _) (by omega) (by omega)
    have hbz:bz b M[i].2 = bnd26 b M[i].2:=by unfold bz; rw [hdo]; rfl
    rw [hdo,hbz,h.com i hi hj] at b7
    have f1:=fun H=>r26_edge free1 b7 H
    have hgb:=ga.bgc hea (List.getElem_mem hi)
    have f2:=fun H=>(h.cm.rapply ha hb hgb (by omega) free1 H).2
    have hga:=h.cm.app ha hb hgb (v:=ea + u + 7) (by omega)
    have f3:=fun H=>hga.same (by omega) hb H
    show run E1 GP a224l1 { vars:=_,heap:=_,rs:=_ } = run E1 GP a224l1 { vars:=_,heap:=_,rs:=_ }
    generalize appF (imgF M) a[i].b = y at *
    conv=>lhs; rw [a224l1_run]
    simp (maxSteps:=1000000) (disch:=first | omega | decide) only [si,sf,simprocAttr,a224b1,a224R,hi,hj,cA,mA,f1,f2,f3]
  have hl1:=loop_ind T _ a.length tstep rfl
  have he1:run E1 GP a224l1 (T a.length) = some (.exit 2,{ vars:=[.isl (a.map cA),.isl (b.map cA),.isl (M.map mA),.bool false,.int .i64 a.length,.u,.u,.int .i64 a.length,.bool false,.bool false,.u,.u,.bool false,.u],heap:=[],rs:=false }):=by
    show run E1 GP a224l1 { vars:=_,heap:=_,rs:=_ } = _
    rw [a224l1_run]
    simp (maxSteps:=1000000) (disch:=first | omega | decide) only [si,sf,simprocAttr,a224b1,a224R,Nat.lt_irrefl]
  rw [he1] at hl1
  have hl1:run E1 GP a224l1 { vars:=[.isl (a.map cA),.isl (b.map cA),.isl (M.map mA),.bool false,.int .i64 a.length,.u,.u,.int .i64 0,.bool false,.bool false,.u,.u,.u,.u],heap:=[],rs:=false } = _:=hl1
  rw [call_fun (free1 _ _ _ (by decide)) (f:=a224) rfl rfl]
  simp (maxSteps:=1000000) (disch:=first | omega | decide) only [si,sf,simprocAttr,a224,a224R,hprop,hMl,hl0,hl1]
end Tor
namespace Tor
open Go
def box2 (a b:List Cel):AV:=.agg [.isl (a.map cA),.isl (b.map cA)]
def ms1 (a b:List Cel) (M:Mp) (k:Int) (R C i:Nat) (y V:AV) (j:Nat) (H:Heap) (f:Bool):St :=
  { vars:=[box2 a b,.isl (M.map mA),.int .i64 k,.ptr 0 0 [],.int .i64 0,.isl ((cellsC a k).map iA),.int .i64 (i:Nat),y,V,.int .i64 (j:Nat),.bool false,.bool true,.u,.agg [.int .i64 0,.int .i64 0,.nl],HV 1 R R C],heap:=H,rs:=f }
def ms0 (a b:List Cel) (M:Mp) (k:Int) (R C i:Nat) (H:Heap) (f:Bool):St :=
  { vars:=[box2 a b,.isl (M.map mA),.int .i64 k,.ptr 0 0 [],.int .i64 0,.isl ((cellsC a k).map iA),.int .i64 (i:Nat),.u,.u,.u,.bool false,.u,.u,.agg [.int .i64 0,.int .i64 0,.nl],HV 1 R R C],heap:=H,rs:=f }
theorem put_step {V W:List Int} {j:Nat} (hV:j < V.length) (hW:V.length = W.length):(V.take j ++ W.drop j).set j (V[j]) = V.take (j + 1) ++ W.drop (j + 1):=by
  have hl:(V.take j).length = j:=by simp; omega
  rw [List.set_append_right _ _ (by omega),hl,Nat.sub_self,List.drop_eq_getElem_cons (show j < W.length by omega),List.set_cons_zero,List.take_succ_eq_append_getElem hV,List.append_assoc]
  rfl
theorem matR_inner (a b:List Cel) (M:Mp) (k:Int) (R C i:Nat) (hi:i < R) (hR:R < 2147483648) (hC:C < 2147483648) (y:AV) (V:List Int) (hV:V.length = C) (A:List (List Int)) (hy:∀ n,y.under n = true) (n:Nat) (f:Bool) (j:Nat) (hj:j < C) (st:St)
    (hI:∃ H,st = ms1 a b M k R C i y (.isl (rowA V)) j H f ∧ H.length = n ∧ H[0]? = some (.var (box2 a b)) ∧ HMat H 1 R C (news 1 R) (A.set i (V.take j ++ (A.getD i []).drop j)) ∧ A.length = R ∧ (A.getD i []).length = C) :
    ∃ st',(∃ H,st' = ms1 a b M k R C i y (.isl (rowA V)) (j + 1) H f ∧ H.length = n ∧ H[0]? = some (.var (box2 a b)) ∧ HMat H 1 R C (news 1 R) (A.set i (V.take (j + 1) ++ (A.getD i []).drop (j + 1))) ∧ A.length = R ∧ (A.getD i []).length = C) ∧ run E1 GP a218l1 st = run E1 GP a218l1 st':=by
  obtain ⟨H,rfl,hn,h0,hm,hA,hw⟩:=hI
  have hir:i < (news 1 R).length:=by rw [news_len]; exact hi
  have er:(news 1 R).getD i 0 = 2 + 2 * i:=by rw [news_get hi]
  have hlr:(V.take (j + 1) ++ (A.getD i []).drop (j + 1)).length = C:=by simp [hV] at hw ⊢; omega
  have hset:=hm.setRow hir hlr
  have hrow:=hm.row i hir
  have htop:=hm.top
  have eg:(A.set i (V.take j ++ (A.getD i []).drop j)).getD i [] = V.take j ++ (A.getD i []).drop j:=gets_self _ _ _ _ (by omega)
  rw [List.set_set] at hset
  rw [eg] at hrow
  rw [er] at hset hrow
  have htg:(tops C (news 1 R))[i]? = some (.sl (2 + 2 * i) 0 2 0 C):=by rw [tops_get hir,er]
  have htl:(tops C (news 1 R)).length = R:=by rw [tops_len,news_len]
  have hjV:j < V.length:=by omega
  have hvg:(rowA V)[j]? = some (Z V[j]):=by rw [rowA_get hjV]; simp [List.getD,hjV]
  have hvl:(rowA V).length = C:=by rw [rowA_len,hV]
  have hps:=put_step hjV (W:=A.getD i []) (by omega)
  have hrs:(rowA (V.take j ++ (A.getD i []).drop j)).set j (Z V[j]) = rowA (V.take (j + 1) ++ (A.getD i []).drop (j + 1)):=by rw [rowA_set,hps]
  have hrl:(rowA (V.take j ++ (A.getD i []).drop j)).length = C:=by rw [rowA_len]; simp [hV] at hw ⊢; omega
  have hrg:∃ z,(rowA (V.take j ++ (A.getD i []).drop j))[j]? = some (Z z):=⟨_,rowA_get (by rw [← rowA_len]; omega)⟩
  obtain ⟨z,hrg⟩:=hrg
  have hlt1:1 < H.length:=(List.getElem?_eq_some_iff.1 htop).1
  have hlt0:0 < H.length:=by omega
  have hbu:(box2 a b).under H.length = true:=by simp [box2,AV.under,AV.unders]
  have hyu:=hy H.length
  have htk:∀ x,(H.set (2 + 2 * i) x).take H.length = H.set (2 + 2 * i) x:=fun x=>List.take_of_length_le (by simp)
  refine ⟨_,⟨_,rfl,by simp [hn],?_,hset,hA,hw⟩,?_⟩
  · rw [List.getElem?_set_ne (by omega)]; exact h0
  · unfold ms1 HV
    generalize rowA (V.take (j + 1) ++ (A.getD i []).drop (j + 1)) = W2 at *
    generalize rowA (V.take j ++ (A.getD i []).drop j) = W1 at *
    generalize V[j] = v at *
    generalize rowA V = Va at *
    generalize tops C (news 1 R) = tp at *
    generalize box2 a b = bx at *
    generalize cellsC a k = ids at *
    conv=>lhs; rw [a218l1_run]
    simp (maxSteps:=1000000) (disch:=first | omega | decide) only [si,sf,simprocAttr,a218b1,a218R,hi,hj,htop,htg,htl,hrow,hrl,hrg,hrs,hvg,hvl,Z_size,hlt0,hlt1,hbu,hyu,htk]
theorem vm_row {a b:List Cel} {sb:GS} {mb u:Nat} {M:Mp} (h:VM a b u M) (gb:Good b sb mb) (hmb:mb ≤ 11) (hna:(idsC a).Nodup) {k:Int} {id:Int} (hid:id ∈ cellsC a k) (H:Heap) :
    call E1 GP 18 [.isl (b.map cA),.int .i64 k,.isl ((imgF M id).map fA)] H = some (.isl (rowA (vecV b k (imgF M id))),H,false):=by
  obtain ⟨y,hy,hd,rfl⟩:=cells_mem.1 hid
  have hk:=h.keyAt hna hy
  have hlen:=(h.cm.img y.id).len
  have hb:=gb.len11 hmb
  have:=r26_row free1 b k (imgF M y.id) (by have:=gb.len; omega) (by omega) H
  have e:vec26 b k (imgF M y.id) = (vecV b k (imgF M y.id),0):=by
    unfold vec26
    rw [dim_of gb hk]
    simp only [ne_eq,not_true_eq_false,if_false]
    by_cases h0:imgF M y.id = []
    · simp [h0]
    · simp [h0,hd]
  rw [e] at this
  exact this
theorem matR_step {a b:List Cel} {sa sb:GS} {ma mb u:Nat} {M:Mp} (h:VM a b u M) (ga:Good a sa ma) (gb:Good b sb mb) (hma:ma ≤ 11) (hmb:mb ≤ 11) (k:Int) (i:Nat) (hi:i < (cellsC a k).length) (st:St)
    (hI:∃ H f,st = ms0 a b M k (cellsC a k).length (cellsC b k).length i H f ∧ H[0]? = some (.var (box2 a b)) ∧ HMat H 1 (cellsC a k).length (cellsC b k).length (news 1 (cellsC a k).length) (rowsT a b M k i)) :
    ∃ st',(∃ H f,st' = ms0 a b M k (cellsC a k).length (cellsC b k).length (i + 1) H f ∧ H[0]? = some (.var (box2 a b)) ∧ HMat H 1 (cellsC a k).length (cellsC b k).length (news 1 (cellsC a k).length) (rowsT a b M k (i + 1))) ∧ run E1 GP a218l0 st = run E1 GP a218l0 st':=by
  obtain ⟨H,f,rfl,h0,hm⟩:=hI
  have hna:=idsC_nodup ga.ids
  have hML:=h.cm.len
  have hal:=ga.len
  have hcl:=cellsC_len a k
  have hcl2:=cellsC_len b k
  have hbl:=gb.len
  have hfind:=fun H=>r29_find free1 M ((cellsC a k)[i]) (by omega) H
  have hsome:(findM M (cellsC a k)[i]).isSome = true:=h.cm.isS (cells_ids _ (List.getElem_mem hi))
  rw [hsome] at hfind
  have hrow:=fun H=>vm_row h gb hmb hna (List.getElem_mem hi) H
  have hvl:(vecV b k (imgF M (cellsC a k)[i])).length = (cellsC b k).length:=by simp [vecV]
  have hml:(matF a b M k).length = (cellsC a k).length:=by simp [matF]
  have hAl:(rowsT a b M k i).length = (cellsC a k).length:=by rw [hm.len,news_len]
  have hwd:((rowsT a b M k i).getD i []).length = (cellsC b k).length:=hm.wid i (by rw [news_len]; exact hi)
  have hself:(rowsT a b M k i).set i ((vecV b k (imgF M (cellsC a k)[i])).take 0 ++ ((rowsT a b M k i).getD i []).drop 0) = rowsT a b M k i:=by
    rw [List.take_zero,List.drop_zero,List.nil_append]
    exact set_same (by simp [List.getD,show i < (rowsT a b M k i).length by omega])
  obtain ⟨st,⟨H1,rfl,gn,g0,gm,gA,gw⟩,hl⟩:=loop_ex (E:=E1) (GP:=GP) (l:=a218l1)
    (fun j st=>∃ H',st = ms1 a b M k (cellsC a k).length (cellsC b k).length i (.isl ((imgF M (cellsC a k)[i]).map fA)) (.isl (rowA (vecV b k (imgF M (cellsC a k)[i])))) j H' false ∧ H'.length = H.length ∧ H'[0]? = some (.var (box2 a b)) ∧ HMat H' 1 (cellsC a k).length (cellsC b k).length (news 1 (cellsC a k).length) ((rowsT a b M k i).set i ((vecV b k (imgF M (cellsC a k)[i])).take j ++ ((rowsT a b M k i).getD i []).drop j)) ∧ (rowsT a b M k i).length = (cellsC a k).length ∧ ((rowsT a b M k i).getD i []).length = (cellsC b k).length)
    (cellsC b k).length (ms1 a b M k (cellsC a k).length (cellsC b k).length i (.isl ((imgF M (cellsC a k)[i]).map fA)) (.isl (rowA (vecV b k (imgF M (cellsC a k)[i])))) 0 H false) ⟨_,rfl,rfl,h0,by rw [hself]; exact hm,hAl,hwd⟩
    (fun j hj st hI=>matR_inner a b M k _ _ i hi (by omega) (by omega) (.isl ((imgF M (cellsC a k)[i]).map fA)) _ hvl _ (fun _=>by unfold AV.under; rfl) _ _ j hj st hI)
  have hend:(rowsT a b M k i).set i ((vecV b k (imgF M (cellsC a k)[i])).take (cellsC b k).length ++ ((rowsT a b M k i).getD i []).drop (cellsC b k).length) = rowsT a b M k (i + 1):=by
    rw [List.take_of_length_le (by omega),List.drop_of_length_le (by omega),List.append_nil]
    unfold rowsT
    rw [List.set_append_right _ _ (by simp; omega),List.take_succ_eq_append_getElem (by rw [hml]; exact hi)]
    have e1:i - ((matF a b M k).take i).length = 0:=by simp; omega
    have e2:(cellsC a k).length - i = ((cellsC a k).length - (i + 1)) + 1:=by omega
    rw [e1,e2,List.replicate_succ,List.set_cons_zero]
    simp [matF]
  rw [hend] at gm
  have hrl:(rowA (vecV b k (imgF M (cellsC a k)[i]))).length = (cellsC b k).length:=by rw [rowA_len,hvl]
  have he:run E1 GP a218l1 (ms1 a b M k (cellsC a k).length (cellsC b k).length i (.isl ((imgF M (cellsC a k)[i]).map fA)) (.isl (rowA (vecV b k (imgF M (cellsC a k)[i])))) (cellsC b k).length H1 false) =
      some (.exit 2,{ vars:=[box2 a b,.isl (M.map mA),.int .i64 k,.ptr 0 0 [],.int .i64 0,.isl ((cellsC a k).map iA),.int .i64 (i:Nat),.isl ((imgF M (cellsC a k)[i]).map fA),.isl (rowA (vecV b k (imgF M (cellsC a k)[i]))),.int .i64 (cellsC b k).length,.bool false,.bool true,.bool false,.agg [.int .i64 0,.int .i64 0,.nl],HV 1 (cellsC a k).length (cellsC a k).length (cellsC b k).length],heap:=H1,rs:=false }):=by
    unfold ms1 HV
    generalize rowA (vecV b k (imgF M (cellsC a k)[i])) = V at *
    generalize imgF M (cellsC a k)[i] = y at *
    generalize box2 a b = bx at *
    generalize cellsC a k = ids at *
    rw [a218l1_run]
    simp (maxSteps:=1000000) (disch:=first | omega | decide) only [si,sf,simprocAttr,a218b1,a218R,hrl,Nat.lt_irrefl]
  rw [he] at hl
  refine ⟨_,⟨H1,f,rfl,g0,gm⟩,?_⟩
  have hlt1:1 < H.length:=(List.getElem?_eq_some_iff.1 hm.top).1
  have hlt0:0 < H.length:=by omega
  have hbu:(box2 a b).under H.length = true:=by simp [box2,AV.under,AV.unders]
  have htk:H1.take H.length = H1:=List.take_of_length_le (by omega)
  have hbx:H[0]? = some (.var (.agg [.isl (a.map cA),.isl (b.map cA)])):=h0
  unfold ms1 at hl
  unfold ms0 HV
  unfold HV at hl
  simp only [Int.ofNat_zero] at hl
  generalize rowA (vecV b k (imgF M (cellsC a k)[i])) = V at *
  generalize imgF M (cellsC a k)[i] = y at *
  generalize box2 a b = bx at *
  generalize cellsC a k = ids at *
  conv=>lhs; rw [a218l0_run]
  simp (maxSteps:=1000000) (disch:=first | omega | decide) only [si,sf,simprocAttr,a218b0,a218R,hi,iA,hfind,hrow,hbx,hl,hlt0,hlt1,hbu,htk]
theorem r29_matrix {a b:List Cel} {sa sb:GS} {ma mb ea eb u:Nat} {M:Mp} (h:VM a b u M) (ga:Good a sa ma) (gb:Good b sb mb) (hma:ma ≤ 11) (hmb:mb ≤ 11) (hea:∀ k,sa.b k ≤ ea) (heb:∀ k,sb.b k ≤ eb) (hu:ea + eb + u ≤ 10000000000) (k:Int) (H:Heap) :
    call E1 GP 218 [box2 a b,.isl (M.map mA),.int .i64 k] H = some (.tup [MI (cellsC a k).length (cellsC b k).length (matF a b M k),.int .i64 0],H,false):=by
  have hal:=ga.len
  have hbl:=gb.len
  have hcl:=cellsC_len a k
  have hcl2:=cellsC_len b k
  have hv:=fun H=>r29_valid h ga gb hma hmb hea heb hu H
  have hc1:=fun H=>r25_cells free1 a k (by omega) H
  have hc2:=fun H=>r25_cells free1 b k (by omega) H
  obtain ⟨b0,hnew⟩:=r5_new free1 (cellsC a k).length (cellsC b k).length (by omega) (by omega) [.var (box2 a b)]
  have hmat:=newH_mat [AObj.var (box2 a b)] (cellsC a k).length (cellsC b k).length
  have h00:([AObj.var (box2 a b)] ++ newH 1 (cellsC a k).length (cellsC b k).length)[0]? = some (.var (box2 a b)):=rfl
  have hrow0:rowsT a b M k 0 = List.replicate (cellsC a k).length (List.replicate (cellsC b k).length 0):=by
    unfold rowsT
    rw [List.take_zero,List.nil_append,Nat.sub_zero]
  obtain ⟨st,⟨H1,f1,rfl,g0,gm⟩,hl⟩:=loop_ex (E:=E1) (GP:=GP) (l:=a218l0) (fun i st=>∃ H f,st = ms0 a b M k (cellsC a k).length (cellsC b k).length i H f ∧ H[0]? = some (.var (box2 a b)) ∧ HMat H 1 (cellsC a k).length (cellsC b k).length (news 1 (cellsC a k).length) (rowsT a b M k i)) (cellsC a k).length (ms0 a b M k (cellsC a k).length (cellsC b k).length 0 ([AObj.var (box2 a b)] ++ newH 1 (cellsC a k).length (cellsC b k).length) b0) ⟨_,_,rfl,h00,by rw [hrow0]; exact hmat⟩ (fun i hi st hI=>matR_step h ga gb hma hmb k i hi st hI)
  have he:run E1 GP a218l0 (ms0 a b M k (cellsC a k).length (cellsC b k).length (cellsC a k).length H1 f1) = some (.exit 0,{ vars:=[box2 a b,.isl (M.map mA),.int .i64 k,.ptr 0 0 [],.int .i64 0,.isl ((cellsC a k).map iA),.int .i64 (cellsC a k).length,.u,.u,.u,.bool false,.bool false,.u,.agg [.int .i64 0,.int .i64 0,.nl],HV 1 (cellsC a k).length (cellsC a k).length (cellsC b k).length],heap:=H1,rs:=f1 }):=by
    unfold ms0 HV
    generalize box2 a b = bx at *
    generalize cellsC a k = ids at *
    rw [a218l0_run]
    simp (maxSteps:=1000000) (disch:=first | omega | decide) only [si,sf,simprocAttr,a218b0,a218R,Nat.lt_irrefl]
  rw [he] at hl
  have hl:run E1 GP a218l0 { vars:=[box2 a b,.isl (M.map mA),.int .i64 k,.ptr 0 0 [],.int .i64 0,.isl ((cellsC a k).map iA),.int .i64 0,.u,.u,.u,.bool false,.u,.u,.agg [.int .i64 0,.int .i64 0,.nl],HV 1 (cellsC a k).length (cellsC a k).length (cellsC b k).length],heap:=AObj.var (box2 a b) :: newH 1 (cellsC a k).length (cellsC b k).length,rs:=b0 } = _:=hl
  have erows:rowsT a b M k (cellsC a k).length = matF a b M k:=by
    unfold rowsT
    rw [Nat.sub_self,List.replicate_zero,List.append_nil,List.take_of_length_le (by simp [matF])]
  rw [erows] at gm
  have hz:=fz_HV gm (news_len _ _) 2
  have hrM:=refs_rowsI (matF a b M k)
  have hsM:=solids_rowsI (matF a b M k)
  rw [call_fun (free1 _ _ _ (by decide)) (f:=a218) rfl rfl]
  have hnew:call E1 GP 61 [.int .i64 (cellsC a k).length,.int .i64 (cellsC b k).length] [.var (box2 a b)] = some (HV 1 (cellsC a k).length (cellsC a k).length (cellsC b k).length,AObj.var (box2 a b) :: newH 1 (cellsC a k).length (cellsC b k).length,b0):=hnew
  unfold HV MI at *
  generalize newH 1 (cellsC a k).length (cellsC b k).length = NH at *
  generalize matF a b M k = A at *
  generalize cellsC a k = ids at *
  unfold box2 at *
  simp (maxSteps:=1000000) (disch:=first | omega | decide) only [si,sf,simprocAttr,doBox,a218,a218R,hv,hc1,hc2,hnew,hl,hz,hrM,hsM]
end Tor
namespace Tor
open Go
variable {E:CallF} (hE:Free E)
include hE
theorem r5_same (R C:Nat) (hR:R < 2147483648) (hC:C < 2147483648) (A:List (List Int)) (sA:Sha R C A) (hf:∀ i,i < R → ∀ y ∈ A.getD i [],Fit y) (H:Heap) :
    call E GP 220 [MI R C A,MI R C A] H = some (.bool true,H,false):=by
  rw [call_fun (hE _ _ _ (by decide)) (f:=a220) rfl rfl]
  have hl:=rowsI_len A
  rw [sA.1] at hl
  let S:Nat → St:=fun i=>{ vars:=[MI R C A,MI R C A,.bool false,.int .i64 (i:Nat),.bool false,.u,.u,MI R C A,MI R C A],heap:=[],rs:=false }
  have hstep:∀ i,i < R → run E GP a220l0 (S i) = run E GP a220l0 (S (i + 1)):=by
    intro i hi
    have hg:=rowsI_get (A:=A) (i:=i) (by rw [sA.1]; exact hi)
    have hv:=fun H=>r5_samevec hE (A.getD i []) (A.getD i []) (hf i hi) (hf i hi) (by rw [sA.2 i hi]; omega) H
    simp only [decide_true] at hv
    show run E GP a220l0 { vars:=_,heap:=_,rs:=_ } = run E GP a220l0 { vars:=_,heap:=_,rs:=_ }
    unfold MI
    generalize rowA (A.getD i []) = r at *
    generalize rowsI A = W at *
    conv=>lhs; rw [a220l0_run]
    simp (maxSteps:=1000000) (disch:=first | omega | decide) only [si,sf,simprocAttr,a220b0,a220R,hi,hl,hg,hv]
  have hlp:=loop_ind S _ R hstep rfl
  have he:run E GP a220l0 (S R) = some (.exit 0,{ vars:=[MI R C A,MI R C A,.bool false,.int .i64 R,.bool false,.bool false,.u,MI R C A,MI R C A],heap:=[],rs:=false }):=by
    show run E GP a220l0 { vars:=_,heap:=_,rs:=_ } = _
    unfold MI
    generalize rowsI A = W at *
    rw [a220l0_run]
    simp (maxSteps:=1000000) (disch:=first | omega | decide) only [si,sf,simprocAttr,a220b0,a220R,hl,Nat.lt_irrefl]
  rw [he] at hlp
  have hlp:run E GP a220l0 { vars:=[MI R C A,MI R C A,.bool false,.int .i64 0,.bool false,.u,.u,MI R C A,MI R C A],heap:=[],rs:=false } = _:=hlp
  have hrr:=refs_rowsI A
  unfold MI at hlp ⊢
  generalize rowsI A = W at *
  simp (maxSteps:=1000000) (disch:=first | omega | decide) only [si,sf,simprocAttr,a220,a220R,hl,hlp,hrr]
end Tor
namespace Tor
open Go
section
variable {a b:List Cel} {u:Nat} {M:Mp}
theorem matF_at (h:CM a b u M) (k:Int) {i t:Nat} (hi:i < (cellsC a k).length) (ht:t < (cellsC b k).length):at2 (matF a b M k) i t = lookL ((cellsC b k).getD t 0) (imgF M ((cellsC a k).getD i 0)):=by
  unfold at2 matF vecV
  simp only [List.getD,List.getElem?_map,List.getElem?_eq_getElem hi,Option.map_some,Option.getD_some,List.getElem?_eq_getElem ht]
  exact last_look (h.img _).can _
theorem matF_bm (h:CM a b u M) (k:Int):Bm (matF a b M k) (2 ^ u):=by
  intro i t
  have hs:=matF_sha a b M k
  by_cases hi:i < (cellsC a k).length
  · by_cases ht:t < (cellsC b k).length
    · rw [matF_at h k hi ht]; exact bd_look (h.img _).bd _
    · rw [at2_out hs (.inr (by omega))]; exact Nat.zero_le _
  · rw [at2_out hs (.inl (by omega))]; exact Nat.zero_le _
end
end Tor
namespace Tor
open Go
theorem VM.smM {a b:List Cel} {u:Nat} {M:Mp} (h:CM a b u M) (hb:(idsC b).length ≤ 11) (hu:u ≤ 14000000000):SmM M:=fun p hp=>⟨(h.gc p hp).sm (by omega),by have:=(h.gc p hp).len; omega⟩
theorem makes_true (k:Nat) (hk:k < 256) (ds:List Dg) (hds:∀ x ∈ ds,x.ok) (hdl:ds.length ≤ 9223372036854775807) (a:Nat) (ha:a < 256) (N:Int) (hN:-128 ≤ N ∧ N ≤ 127) (l:List Int) (hl:l.length ≤ 9223372036854775807) (hl8:∀ x ∈ l,-128 ≤ x ∧ x ≤ 127)
    (d1:List Int) (l1:d1.length ≤ 9223372036854775807) (h1:∀ x ∈ d1,-128 ≤ x ∧ x ≤ 127) (D:Int) (hD:-128 ≤ D ∧ D ≤ 127) (H:Heap) :
    call E2 GP 210 [rawA k ds a N l,.isl (d1.map bA),.int .i8 D] H = some (.bool true,H,false):=by
  obtain ⟨c,s,m,n,s2,m2,g,hm,hf,hn,g2,hm2,hf2,hmade⟩:=r29_made k hk ds hds hdl a ha N hN l hl hl8
  obtain ⟨e,e1,e2⟩:=fin_e hf
  obtain ⟨ea,ea1,ea2⟩:=fin_e hf2
  have t1:=Int.tmod_lt_of_pos N (show (0:Int) < 4 by omega)
  have t2:=Int.lt_tmod_of_pos N (show (0:Int) < 4 by omega)
  have hM:=hom_vm g hm e2 e1 l (N:=N.tmod 4) (by omega) hn g2
  have hI:=incl_vm g g2 fun y hy=>List.mem_of_mem_take hy
  have hb:=g.len11 hm
  have hal:=g2.len
  have hbl:=g.len
  have hkb:=g.ids64 hm
  have ha11:=g2.len11 hm2
  have hna:=idsC_nodup g2.ids
  generalize (hom c l (N.tmod 4)).take n = M at *
  generalize c.take n = a0 at *
  have hrd:=refs_gA ds
  have hrl:=refs_bA l
  have hx:(rawA k ds a N l).under 0 = true:=by simp [rawA,AV.under,AV.unders]
  have hxk:(rawA k ds a N l).known = true:=rfl
  have hxs:(rawA k ds a N l).size = 5:=by simp [rawA,AV.size,AV.sizes]
  have hxr:(rawA k ds a N l).hasRef = false:=by simp [rawA,AV.hasRef,AV.hasRefs]
  have hxa:(rawA k ds a N l).isA = true:=rfl
  have hmade:=fun H=>up (hmade H)
  generalize rawA k ds a N l = x at *
  have d1':=Int.tmod_lt_of_pos D (show (0:Int) < 4 by omega)
  have d2':=Int.lt_tmod_of_pos D (show (0:Int) < 4 by omega)
  generalize hq:D.tmod 4 = q at *
  have wq:IntKind.i64.wrap q = q:=i64w (by omega)
  have wq8:IntKind.i8.wrap q = q:=by
    have:IntKind.i8.wrap q = q:=by
      unfold IntKind.wrap
      simp only [IntKind.signed,IntKind.bits]
      have:q = -3 ∨ q = -2 ∨ q = -1 ∨ q = 0 ∨ q = 1 ∨ q = 2 ∨ q = 3:=by omega
      rcases this with h | h | h | h | h | h | h <;> subst h <;> decide
    exact this
  have f1:=fun H=>hM.valid g2 g hm2 hm ea2 e2 (by omega) H
  have f2:=fun H=>up (i_inclusion free1 a0 (by omega) (fun H=>i_of free1 1 H (by omega) (by omega)) H)
  have f3:=fun H=>up (r29_inclusion free1 a0 (by omega) H)
  have sI:=VM.smM hI.cm hb (by omega)
  have f4:=fun H=>up (r29_same free1 (incl a0) (incl a0) sI sI (by have:=hI.cm.len; omega) H)
  simp only [decide_true] at f4
  have f5:=fun H=>hI.valid g2 g hm2 hm ea2 e2 (by omega) H
  have f6:=fun H=>i_matrix hM g2 g hm2 hm ea2 e2 (by omega) q H
  have f7:=fun H=>up (r29_matrix hM g2 g hm2 hm ea2 e2 (by omega) q H)
  have f8:=fun H=>up (r26_combination free1 a0 (max q 0) (by omega) d1 (by omega) h1 H)
  have gy:=comb_gc g2 hm2 (max q 0) d1 h1
  generalize comb26 a0 (max q 0) d1 = y at *
  have f9:=fun H=>hM.cm.apply hna ha11 hb hkb gy (by omega) H
  have f10:=fun H=>up (hM.cm.rapply ha11 hb gy (by omega) free1 H).2
  have gz:=hM.cm.app ha11 hb gy (v:=4 + (e + 170) + 7) (by omega)
  have f11:=fun H=>up (gz.same (by omega) hb H)
  have s1:=matF_sha a0 c M q
  have m1:=matF_bm hM.cm q
  have c1:=cellsC_len a0 q
  have c2:=cellsC_len c q
  have f12:=fun H=>up (r5_same free1 _ _ (by omega) (by omega) _ s1 (bm_fit s1 (pow5_big (by omega)) m1) H)
  have rr:=refs_rowsI (matF a0 c M q)
  have hsan:=san29
  rw [call_fun (E2_none (by decide) (by decide)) (f:=a210) rfl rfl]
  unfold MI at f6 f7 f12
  unfold box2 at f7
  generalize rowsI (matF a0 c M q) = R1 at *
  generalize appF (imgF M) y = z at *
  have hmx:foldMM true (.int .i64 q) [.int .i64 0] = some (.int .i64 (max q 0)):=by
    simp only [foldMM,if_true]
    congr 2
    split <;> omega
  simp (maxSteps:=1000000) (disch:=first | omega | decide) only [si,sf,simprocAttr,a210,a210R,hmade,hsan,hxk,hxs,hxr,hxa,hq,wq,wq8,f1,f2,f3,f4,f5,f6,f7,f8,f9,f10,f11,f12,rr,hmx]
theorem law210 (xs:List AV) (h:Fitss [rS,.sl (.int .i8),.int .i8] xs):call E2 GP 210 xs [] = some (.bool true,[],false):=by
  simp only [Fitss] at h
  obtain ⟨x,r,rfl,hx,y,s,rfl,hy,z,t,rfl,hz,rfl⟩:=h
  obtain ⟨k,ds,a,N,l,rfl,hk,hds,hdl,ha,hN,hll,hl8⟩:=fits_rS hx
  simp only [Fits] at hy hz
  obtain ⟨l1,rfl,hl1,hy⟩:=hy
  obtain ⟨d,rfl,hd⟩:=fits_list (fun y hy=>fits_bA hy) l1 hy
  obtain ⟨D,rfl,hD⟩:=hz
  exact makes_true k hk ds hds hdl a ha N hN l hll hl8 d (by simpa [maxLen] using hl1) hd D hD []
end Tor
namespace Tor
open Go Go.RowKit Go.ChangeShapes
def shpAll (P:Program):List TypeId → List Shp → Bool
  | [],[]=>true
  | t :: ts,s :: ss=>shpOk P t s && shpAll P ts ss
  | _,_=>false
theorem open_all {P:Program} {ι:Nat → FuncId} {w:World} {H:Type} {enc:TypeId × Value → H} {base b0:Nat} {spare:Nat → Bool} {held:Bool} {r:Reach} :
    ∀ (ss:List Shp) (ts:List TypeId) (vs:List Value) (ds:List (DataW H)) (ps:List MemPlace),shpAll P ts ss = true → (∀ (j:Nat) t v,ts[j]? = some t → vs[j]? = some v → Value.okWide P w r b0 t v) →
      DataW.TrodAll enc P w base spare held ts vs ds ps → ∃ xs,Fitss ss xs ∧ Rvs (Cx.init ι w) xs vs
  | [],[],vs,ds,ps,_,_,h=>by
    obtain ⟨rfl,_,_⟩:=trodAll_nil h
    exact ⟨[],rfl,.nil⟩
  | s :: ss,t :: ts,vs,ds,ps,hs,hv,h=>by
    simp only [shpAll,Bool.and_eq_true] at hs
    obtain ⟨v,vs',d,ds',p,q,rfl,rfl,rfl,h1,h2⟩:=trodAll_cons h
    obtain ⟨y,y1,y2⟩:=open_arg (ι:=ι) hs.1 (hv 0 t v rfl rfl) h1
    obtain ⟨xs,x1,x2⟩:=open_all ss ts vs' ds' q hs.2 (fun j t v ht hv'=>hv (j + 1) t v (by simpa using ht) (by simpa using hv')) h2
    exact ⟨y :: xs,by simp only [Fitss]; exact ⟨y,xs,rfl,y1,x1⟩,.cons y2 x2⟩
  | [],_ :: _,_,_,_,hs,_,_=>by cases hs
  | _ :: _,[],_,_,_,hs,_,_=>by cases hs
def rowed (P:Program) (t:TypeId):Bool:=P.readableRec t && decide (t < P.types.size)
theorem keep_all {P:Program} {H:Type} {enc:TypeId × Value → H} (hl:laidOutB P = true) {W W':World} (hb:Below W.heap.size W W') :
    ∀ (ts:List TypeId) (vs:List Value) (ds:List (DataW H)) (ps:List MemPlace),ts.all (rowed P) = true → (∀ x ∈ ps,x.block < W.heap.size) → DataW.TrodAll enc P W 0 (fun _=>true) true ts vs ds ps →
      DataW.TrodAll enc P W' 0 (fun b=>decide (b < W.heap.size)) true ts vs ds ps
  | [],vs,ds,ps,_,_,h=>by
    obtain ⟨rfl,rfl,rfl⟩:=trodAll_nil h
    exact trodAll_mk0
  | t :: ts,vs,ds,ps,ht,hp,h=>by
    simp only [List.all_cons,Bool.and_eq_true,rowed,decide_eq_true_eq] at ht
    obtain ⟨v,vs',d,ds',p,q,rfl,rfl,rfl,h1,h2⟩:=trodAll_cons h
    exact trodAll_cons_mk (Below.trod hl ht.1.1 ht.1.2 h1 hb fun x hx=>hp x (List.mem_append.2 (.inl hx)))
      (keep_all hl hb ts vs' ds' q (by simpa [rowed] using ht.2) (fun x hx=>hp x (List.mem_append.2 (.inr hx))) h2)
theorem places_lt {P:Program} {H:Type} {enc:TypeId × Value → H} {W:World} {ts:List TypeId} {vs:List Value} {ds:List (DataW H)} {ps:List MemPlace} {base:Nat} {spare:Nat → Bool} {held:Bool}
    (h:DataW.TrodAll enc P W base spare held ts vs ds ps):∀ x ∈ ps,x.block < W.heap.size:=h.lt
end Tor
