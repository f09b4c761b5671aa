/-
  A part of the proof: an abstract machine for the program, its soundness, and what the functions compute (Reg2, RegS, Reg3, Wp, Call).
  Conditions: none.
-/
import Derived.Test.YthcbpifkgolknaaDoorM06
import Derived.Scope
set_option linter.unusedSectionVars false
set_option linter.unusedVariables false
set_option linter.unusedSimpArgs false
set_option linter.defProp false
namespace Tor
open Go Go.RowKit
def slotIs (slots:List Tmp) (k:Nat) (t:Tmp):Bool :=
  match slots[k]? with
  | some t'=>t' == t
  | none=>false
def dstIs (ops:List Oper) (j:Nat) (t:Tmp):Bool :=
  match ops[j]? with
  | some o=>(match o.dst with | some t'=>t' == t | none=>false)
  | none=>false
def laterOk (p:Prec) (i:Nat) (t:Tmp):Nat → List Oper → Bool
  | _,[]=>true
  | j,o :: r=>(match o.dst with | some t'=>t' != t || j == i || p.lt i j | none=>true) && laterOk p i t (j + 1) r
def opdIn (ι:Env) (slots cells:List Tmp) (ops:List Oper) (p:Prec) (i:Nat):Operand → AOpd → Bool
  | .tmp t,.l j=>dstIs ops j t && p.lt j i && !cells.contains t
  | .tmp t,.v k=>slotIs slots k t && laterOk p i t 0 ops
  | .const v,.c x=>constOk x v
  | .func f,.f g=>ι g == f
  | _,_=>false
def dstOk (slots cells:List Tmp) (ntmps:Nat):Option Tmp → Option Nat → Bool
  | none,none=>true
  | some t,some k=>slotIs slots k t && Nat.blt t ntmps
  | some t,none=>!slots.contains t && !cells.contains t && Nat.blt t ntmps
  | none,some _=>false
def guardOk (cells:List Tmp) (ops:List Oper) (p:Prec) (i:Nat):Option (Nat × Bool) → Option (Nat × Bool) → Bool
  | none,none=>true
  | some (j,b),some (j',b')=>j == j' && b == b' && p.lt j i && (match ops[j]? with | some o=>(match o.dst with | some t=>!cells.contains t && !(match o.op with | .fieldAddr _ _ _=>true | _=>false) | none=>false) | none=>false)
  | _,_=>false
def pairsOk (pureF:Nat → Bool) (p:Prec) (a:AOper) (i:Nat):Nat → List AOper → Bool
  | _,[]=>true
  | j,b :: r=>(!Nat.blt j i || p.lt j i || (match clsOf pureF a.op,clsOf pureF b.op with
      | .p,_=>true
      | _,.p=>true
      | .r,.r=>true
      | .r,.a=>true
      | .a,.r=>true
      | _,_=>false)) && pairsOk pureF p a i (j + 1) r
def dstsNodup:List Oper → Bool
  | []=>true
  | o :: r=>(match o.dst with | some t=>r.all (fun o'=>o'.dst != some t) | none=>true) && dstsNodup r
structure Ck where
  P:Program
  ι:Env
  slots:List Tmp
  cells:List Tmp
  ntmps:Nat
  pureF:Nat → Bool
def Ck.cellIs (k:Ck) (q:Nat) (t:Tmp):Bool:=Nat.ble k.slots.length q && slotIs k.cells (q - k.slots.length) t
def writersOk (p:Prec) (i q:Nat) (m:Option Nat):Nat → List AOper → Bool
  | _,[]=>true
  | j,a :: r=>(a.dst != some q || j == i || p.lt i j || (match m with | some m=>j == m || p.lt j m | none=>false)) && writersOk p i q m (j + 1) r
def curOk (aops:List AOper) (p:Prec) (i q:Nat):AOpd → Bool
  | .v q'=>q' == q && writersOk p i q none 0 aops
  | .l m=>(match aops[m]? with | some a=>a.dst == some q | none=>false) && p.lt m i && writersOk p i q (some m) 0 aops
  | _=>false
def writerOk (p:Prec) (i q:Nat):Nat → List AOper → Bool
  | _,[]=>true
  | j,a :: r=>(a.dst != some q || j == i || p.lt i j || p.lt j i) && writerOk p i q (j + 1) r
def noVia (p:Prec) (i:Nat) (t:Tmp):Nat → List Oper → Bool
  | _,[]=>true
  | j,o :: r=>(match o.op with | .fieldAddr _ (.tmp t') _=>t' != t || p.lt i j | _=>true) && noVia p i t (j + 1) r
def idxOf (t:Tmp):Nat → List Tmp → Option Nat
  | _,[]=>none
  | i,t' :: r=>if t' == t then some i else idxOf t (i + 1) r
def plainDst (k:Ck) (o:Oper) (a:AOper):Bool:=dstOk k.slots k.cells k.ntmps o.dst a.dst
def cellFits (k:Ck) (ops:List Oper) (aops:List AOper) (p:Prec) (i:Nat) (o:Oper) (a:AOper):Bool :=
  match o.op,a.op with
  | .alloc ty,.cn z=>(match o.dst,a.dst with
    | some t,some q=>k.cellIs q t && Nat.blt t k.ntmps && zeroOk k.P ty z && writerOk p i q 0 aops && noVia p i t 0 ops
    | _,_=>false)
  | .box _ x,.cb y=>(match o.dst,a.dst with
    | some t,some q=>k.cellIs q t && Nat.blt t k.ntmps && opdIn k.ι k.slots k.cells ops p i x y && writerOk p i q 0 aops && noVia p i t 0 ops
    | _,_=>false)
  | .store ty (.tmp t) x,.cs sz c y=>(match o.dst,a.dst with
    | none,some q=>k.cellIs q t && sizeB k.P ty == some sz && opdIn k.ι k.slots k.cells ops p i x y && curOk aops p i q c && writerOk p i q 0 aops
    | _,_=>false)
  | .load ty (.tmp t),.cl ag sz y=>(match idxOf t k.slots.length k.cells with
    | some q=>k.cellIs q t && aggB k.P ty == some ag && sizeB k.P ty == some sz && curOk aops p i q y && plainDst k o a
    | none=>false)
  | .fieldAddr sty (.tmp t) f,.ca y=>(match idxOf t k.slots.length k.cells with
    | some q=>k.cellIs q t && curOk aops p i q y && plainDst k o a && (match fieldB k.P sty f with | some fl=>(match sizeB k.P fl.type with | some n=>n != 0 | none=>false) | none=>false)
    | none=>false)
  | .load ty (.tmp d),.field f off ag sz y=>(match a.guard with
    | g=>viaFits k ops aops p i g d f off ag sz ty y 0 ops && plainDst k o a)
  | _,_=>false
where
  viaFits (k:Ck) (ops:List Oper) (aops:List AOper) (p:Prec) (i:Nat) (g:Option (Nat × Bool)) (d:Tmp) (f off:Nat) (ag:Bool) (sz:Nat) (ty:TypeId) (y:AOpd):Nat → List Oper → Bool
    | _,[]=>false
    | j,o :: r=>if o.dst == some d then
        (match o.op with
        | .fieldAddr sty (.tmp t) f'=>(match idxOf t k.slots.length k.cells with
          | some q=>k.cellIs q t && p.lt j i && f == f' && fieldOk k.P sty f off ag sz && aggB k.P ty == some ag && sizeB k.P ty == some sz && curOk aops p i q y &&
              (match aops[j]? with | some b=>b.guard == none || b.guard == g | none=>false)
          | none=>false)
        | _=>false)
      else viaFits k ops aops p i g d f off ag sz ty y (j + 1) r
def opFits (k:Ck) (ops:List Oper) (aops:List AOper) (p:Prec) (i:Nat) (o:Oper) (a:AOper):Bool :=
  (opOk k.P k.ι (opdIn k.ι k.slots k.cells ops p i) o.op a.op && plainDst k o a) || cellFits k ops aops p i o a
def opsIn (k:Ck) (ops:List Oper) (aops:List AOper) (p:Prec):Nat → List Oper → List AOper → Bool
  | _,[],[]=>true
  | i,o :: r,a :: s=>opFits k ops aops p i o a && guardOk k.cells ops p i o.guard a.guard && pairsOk k.pureF p a i 0 aops && opsIn k ops aops p (i + 1) r s
  | _,_,_=>false
def regionOk (k:Ck) (ops:List Oper) (draw:Bool) (aops:List AOper):Bool :=
  let ms:=if draw then masks ops [] else []
  (!draw || (masksOk ms 0 ops && k.P.follows .mixedOrders && Region.noSelect ops.toArray)) && dstsNodup ops && opsIn k ops aops ⟨draw,ms⟩ 0 ops aops
structure OpIn (k:Ck) (ops:List Oper) (aops:List AOper) (p:Prec) (i:Nat) (o:Oper) (a:AOper):Prop where
  op:opFits k ops aops p i o a = true
  guard:guardOk k.cells ops p i o.guard a.guard = true
  pairs:pairsOk k.pureF p a i 0 aops = true
theorem opsIn_get {k:Ck} {ops aops p}:∀ {r:List Oper} {s:List AOper} {i:Nat},opsIn k ops aops p i r s = true → r.length = s.length ∧ ∀ j o a,r[j]? = some o → s[j]? = some a → OpIn k ops aops p (i + j) o a
  | [],[],_,_=>⟨rfl,fun j o a h=>by simp at h⟩
  | [],_ :: _,_,h=>by simp [opsIn] at h
  | _ :: _,[],_,h=>by simp [opsIn] at h
  | o' :: r,a' :: s,i,h=>by
    simp only [opsIn,Bool.and_eq_true] at h
    obtain ⟨⟨⟨h1,h3⟩,h4⟩,h5⟩:=h
    obtain ⟨e1,e2⟩:=opsIn_get h5
    refine ⟨by simp [e1],fun j o a ho ha=>?_⟩
    cases j with
    | zero=>simp at ho ha; subst ho; subst ha; exact ⟨h1,h3,h4⟩
    | succ j =>
      have:=e2 j o a (by simpa using ho) (by simpa using ha)
      rw [show i + (j + 1) = i + 1 + j by omega]; exact this
theorem laterOk_get {p:Prec} {i t}:∀ {r:List Oper} {j:Nat},laterOk p i t j r = true → ∀ m o,r[m]? = some o → o.dst = some t → j + m = i ∨ p.lt i (j + m) = true
  | [],_,_,m,o,h,_=>by simp at h
  | o' :: r,j,h,m,o,ho,hd=>by
    simp only [laterOk,Bool.and_eq_true] at h
    cases m with
    | zero =>
      simp at ho; subst ho
      rw [hd] at h
      simpa using h.1
    | succ m =>
      have:=laterOk_get h.2 m o (by simpa using ho) hd
      rw [show j + (m + 1) = j + 1 + m by omega]; exact this
theorem pairsOk_get {pureF} {p:Prec} {a:AOper} {i}:∀ {r:List AOper} {j:Nat},pairsOk pureF p a i j r = true → ∀ m b,r[m]? = some b → j + m < i → p.lt (j + m) i = true ∨ clsOf pureF a.op = .p ∨ clsOf pureF b.op = .p ∨ (clsOf pureF a.op = .r ∧ clsOf pureF b.op ≠ .w) ∨ (clsOf pureF b.op = .r ∧ clsOf pureF a.op ≠ .w)
  | [],_,_,m,b,h,_=>by simp at h
  | b' :: r,j,h,m,b,hb,hlt=>by
    simp only [pairsOk,Bool.and_eq_true,Bool.or_eq_true,Bool.not_eq_true'] at h
    cases m with
    | zero =>
      simp at hb; subst hb
      rcases h.1 with (h1 | h1) | h1
      · have:Nat.blt j i = true:=by rw [Nat.blt_eq]; omega
        rw [this] at h1; cases h1
      · exact .inl h1
      · right
        cases ha:clsOf pureF a.op <;> cases hb:clsOf pureF b'.op <;> simp_all
    | succ m =>
      have:=pairsOk_get h.2 m b (by simpa using hb) (by omega)
      rw [show j + (m + 1) = j + 1 + m by omega]; exact this
theorem dstsNodup_get:∀ {ops:List Oper},dstsNodup ops = true → ∀ (i j:Nat) (oi oj:Oper) (t:Tmp),ops[i]? = some oi → ops[j]? = some oj → oi.dst = some t → oj.dst = some t → i = j
  | [],_,i,j,oi,oj,t,h,_,_,_=>by simp at h
  | o :: r,h,i,j,oi,oj,t,hi,hj,di,dj=>by
    simp only [dstsNodup,Bool.and_eq_true] at h
    have key:∀ (m:Nat) (o':Oper),r[m]? = some o' → o.dst = some t → o'.dst = some t → False:=by
      intro m o' hm hd hd'
      rw [hd] at h
      have:=List.all_eq_true.1 h.1 o' (List.mem_of_getElem? hm)
      simp [hd'] at this
    cases i with
    | zero =>
      simp at hi; subst hi
      cases j with
      | zero=>rfl
      | succ j=>exact (key j oj (by simpa using hj) di dj).elim
    | succ i =>
      cases j with
      | zero=>simp at hj; subst hj; exact (key i oi (by simpa using hi) dj di).elim
      | succ j=>rw [dstsNodup_get h.2 i j oi oj t (by simpa using hi) (by simpa using hj) di dj]
theorem slotIs_iff {slots k t} (h:slotIs slots k t = true):slots[k]? = some t:=by
  unfold slotIs at h
  split at h
  · rename_i t' ht; simp at h; subst h; exact ht
  · cases h
theorem dstIs_iff {ops j t} (h:dstIs ops j t = true):∃ o,ops[j]? = some o ∧ o.dst = some t:=by
  unfold dstIs at h
  split at h
  · rename_i o ho
    split at h
    · rename_i t' ht; simp at h; subst h; exact ⟨o,ho,ht⟩
    · cases h
  · cases h
theorem writersOk_get {p:Prec} {i q:Nat} {m:Option Nat}:∀ {r:List AOper} {j:Nat},writersOk p i q m j r = true → ∀ (n:Nat) (a:AOper),r[n]? = some a → a.dst = some q →
    j + n = i ∨ p.lt i (j + n) = true ∨ ∃ m',m = some m' ∧ (j + n = m' ∨ p.lt (j + n) m' = true)
  | [],_,_,n,a,h,_=>by simp at h
  | a' :: r,j,h,n,a,ha,hd=>by
    simp only [writersOk,Bool.and_eq_true] at h
    cases n with
    | zero =>
      simp at ha; subst ha
      have h1:=h.1
      rw [hd] at h1
      simp only [bne_self_eq_false,Bool.false_or,Bool.or_eq_true,beq_iff_eq] at h1
      rcases h1 with (h1 | h1) | h1
      · exact .inl h1
      · exact .inr (.inl h1)
      · cases m with
        | none=>cases h1
        | some m=>simp only [Bool.or_eq_true,beq_iff_eq] at h1; exact .inr (.inr ⟨m,rfl,h1⟩)
    | succ n =>
      have:=writersOk_get h.2 n a (by simpa using ha) hd
      rw [show j + (n + 1) = j + 1 + n by omega]; exact this
theorem writerOk_get {p:Prec} {i q:Nat}:∀ {r:List AOper} {j:Nat},writerOk p i q j r = true → ∀ (n:Nat) (a:AOper),r[n]? = some a → a.dst = some q →
    j + n = i ∨ p.lt i (j + n) = true ∨ p.lt (j + n) i = true
  | [],_,_,n,a,h,_=>by simp at h
  | a' :: r,j,h,n,a,ha,hd=>by
    simp only [writerOk,Bool.and_eq_true] at h
    cases n with
    | zero =>
      simp at ha; subst ha
      have h1:=h.1
      rw [hd] at h1
      simp only [bne_self_eq_false,Bool.false_or,Bool.or_eq_true,beq_iff_eq] at h1
      rcases h1 with (h1 | h1) | h1
      · exact .inl h1
      · exact .inr (.inl h1)
      · exact .inr (.inr h1)
    | succ n =>
      have:=writerOk_get h.2 n a (by simpa using ha) hd
      rw [show j + (n + 1) = j + 1 + n by omega]; exact this
theorem noVia_get {p:Prec} {i t}:∀ {r:List Oper} {j:Nat},noVia p i t j r = true → ∀ (n:Nat) (o:Oper) sty f,r[n]? = some o → o.op = .fieldAddr sty (.tmp t) f → p.lt i (j + n) = true
  | [],_,_,n,o,_,_,h,_=>by simp at h
  | o' :: r,j,h,n,o,sty,f,ho,hop=>by
    simp only [noVia,Bool.and_eq_true] at h
    cases n with
    | zero =>
      simp at ho; subst ho
      have h1:=h.1
      rw [hop] at h1
      simpa using h1
    | succ n =>
      have:=noVia_get h.2 n o sty f (by simpa using ho) hop
      rw [show j + (n + 1) = j + 1 + n by omega]; exact this
theorem cellIs_iff {k:Ck} {q t} (h:k.cellIs q t = true):k.slots.length ≤ q ∧ k.cells[q - k.slots.length]? = some t:=by
  unfold Ck.cellIs at h
  simp only [Bool.and_eq_true] at h
  exact ⟨Nat.le_of_ble_eq_true h.1,slotIs_iff h.2⟩
theorem viaFits_get {k:Ck} {ops:List Oper} {aops:List AOper} {p:Prec} {i:Nat} {g d f off ag sz ty y}:∀ {r:List Oper} {j:Nat},cellFits.viaFits k ops aops p i g d f off ag sz ty y j r = true →
    ∃ (n:Nat) (o:Oper) (sty:TypeId) (t:Tmp) (q:Nat) (b:AOper),r[n]? = some o ∧ o.dst = some d ∧ o.op = .fieldAddr sty (.tmp t) f ∧ k.cellIs q t = true ∧ p.lt (j + n) i = true ∧ fieldOk k.P sty f off ag sz = true ∧
      aggB k.P ty = some ag ∧ sizeB k.P ty = some sz ∧ curOk aops p i q y = true ∧ aops[j + n]? = some b ∧ (b.guard = none ∨ b.guard = g)
  | [],_,h=>by simp [cellFits.viaFits] at h
  | o :: r,j,h=>by
    simp only [cellFits.viaFits] at h
    split at h
    · rename_i hd
      split at h
      · rename_i sty t f' hop
        split at h
        · rename_i q hq
          simp only [Bool.and_eq_true,beq_iff_eq] at h
          obtain ⟨⟨⟨⟨⟨⟨⟨h1,h2⟩,h3⟩,h4⟩,h5⟩,h6⟩,h7⟩,h8⟩:=h
          subst h3
          split at h8
          · rename_i b hb
            simp only [Bool.or_eq_true,beq_iff_eq] at h8
            exact ⟨0,o,sty,t,q,b,rfl,by simpa using hd,hop,h1,h2,h4,h5,h6,h7,hb,h8⟩
          · cases h8
        · cases h
      · cases h
    · obtain ⟨n,o',sty,t,q,b,h1,h2,h3,h4,h5,h6⟩:=viaFits_get h
      refine ⟨n + 1,o',sty,t,q,b,by simpa using h1,h2,h3,h4,?_,?_⟩
      · rw [show j + (n + 1) = j + 1 + n by omega]; exact h5
      · rw [show j + (n + 1) = j + 1 + n by omega]; exact h6
structure VOk (k:Ck) (base ent:Nat) (C:Cx) (H:Heap) (vars:List AV) (a:Act):Prop where
  rel:∀ j t,k.slots[j]? = some t → Rv C (vars.getD j .u) (a.tmps.getD t undef)
  size:a.tmps.size = k.ntmps
  defers:a.defers = []
  len:vars.length = k.slots.length + k.cells.length
  cell:∀ q t,k.cellIs q t = true → CellV base ent C H (vars.getD q .u) (a.tmps.getD t undef)
  dist:∀ q q' t t',k.cellIs q t = true → k.cellIs q' t' = true → q ≠ q' → (vars.getD q .u).known = true → (vars.getD q' .u).known = true → a.tmps.getD t undef ≠ a.tmps.getD t' undef
  be:base ≤ ent
  es:ent ≤ C.w.heap.size
def cur (aops:List AOper) (Lf v0:List AV) (S:Nat → Bool) (q:Nat):Nat → AV
  | 0=>v0.getD q .u
  | i + 1=>if S i = true ∧ (match aops[i]? with | some a=>a.dst == some q | none=>false) = true then Lf.getD i .u else cur aops Lf v0 S q i
theorem cur_none {aops:List AOper} {Lf v0 S q}:∀ n,(∀ j a,j < n → aops[j]? = some a → a.dst = some q → S j = false) → cur aops Lf v0 S q n = v0.getD q .u
  | 0,_=>rfl
  | n + 1,h=>by
    simp only [cur]
    rw [if_neg]
    · exact cur_none n fun j a hj=>h j a (by omega)
    · rintro ⟨h1,h2⟩
      split at h2
      · rename_i a ha
        rw [h n a (by omega) ha (by simpa using h2)] at h1; cases h1
      · cases h2
theorem cur_last {aops:List AOper} {Lf v0 S q m a} (hm:aops[m]? = some a) (hd:a.dst = some q) (hS:S m = true):∀ n,m < n → (∀ j b,m < j → j < n → aops[j]? = some b → b.dst = some q → S j = false) → cur aops Lf v0 S q n = Lf.getD m .u
  | 0,h,_=>by omega
  | n + 1,hmn,h=>by
    simp only [cur]
    by_cases hmn':m = n
    · subst hmn'
      rw [if_pos]
      exact ⟨hS,by rw [hm]; simp [hd]⟩
    · rw [if_neg]
      · exact cur_last hm hd hS n (by omega) fun j b h1 h2=>h j b h1 (by omega)
      · rintro ⟨h1,h2⟩
        split at h2
        · rename_i b hb
          rw [h n b (by omega) (by omega) hb (by simpa using h2)] at h1; cases h1
        · cases h2
theorem cur_other {aops:List AOper} {Lf v0 S q i} (hi:∀ a,aops[i]? = some a → a.dst ≠ some q):∀ n,cur aops Lf v0 (fun j=>j == i || S j) q n = cur aops Lf v0 S q n
  | 0=>rfl
  | n + 1=>by
    simp only [cur]
    rw [cur_other hi n]
    by_cases hn:n = i
    · subst hn
      have:(match aops[n]? with | some a=>a.dst == some q | none=>false) = false:=by
        split
        · rename_i a ha; simpa using hi a ha
        · rfl
      simp [this]
    · have:(n == i) = false:=by simpa using hn
      simp [this]
structure RInv (k:Ck) (base ent:Nat) (C0:Cx) (H0:Heap) (C:Cx) (ops:List Oper) (aops:List AOper) (Lf:List AV) (hs:Nat → St) (S:Nat → Bool) (H:Heap) (a:Act):Prop where
  stp:Step base ent C0 H0 C H
  hinv:∃ m,m ≤ aops.length ∧ H = (hs m).heap ∧ ∀ j b,aops[j]? = some b → (clsOf k.pureF b.op).wr = true → (S j = true ↔ j < m)
  tmp:∀ j o t,S j = true → ops[j]? = some o → o.dst = some t → k.cells.contains t = false → Rv C (Lf.getD j .u) (a.tmps.getD t undef)
  slot:∀ q t,k.slots[q]? = some t → (∀ j o,S j = true → ops[j]? = some o → o.dst ≠ some t) → Rv C ((hs 0).vars.getD q .u) (a.tmps.getD t undef)
  size:a.tmps.size = k.ntmps
  defers:a.defers = []
  cell:∀ q t,k.cellIs q t = true → CellV base ent C H (cur aops Lf (hs 0).vars S q aops.length) (a.tmps.getD t undef)
  dist:∀ q q' t t',k.cellIs q t = true → k.cellIs q' t' = true → q ≠ q' → (cur aops Lf (hs 0).vars S q aops.length).known = true → (cur aops Lf (hs 0).vars S q' aops.length).known = true →
    a.tmps.getD t undef ≠ a.tmps.getD t' undef
  via:∀ j o b sty t f d q,S j = true → ops[j]? = some o → aops[j]? = some b → o.op = .fieldAddr sty (.tmp t) f → o.dst = some d → k.cellIs q t = true → wants (Lf.take j) b.guard = some true →
    ∃ bl fl,a.tmps.getD t undef = .pointer (some ⟨bl,0,none⟩) ∧ fieldB k.P sty f = some fl ∧ a.tmps.getD d undef = .pointer (some ⟨bl,fl.offset,none⟩)
  be:base ≤ ent
  es:ent ≤ C0.w.heap.size
theorem heap_const {k:Ck} {CF:CallF} {aops:List AOper} {Lf:List AV} {hs:Nat → St} (hp:PureC k.pureF CF)
    (tr:∀ i o,aops[i]? = some o → stepAt CF o (Lf.take i) (hs i) (Lf.getD i .u) (hs (i + 1))) (m:Nat) :
    ∀ d,m + d ≤ aops.length → (∀ j b,m ≤ j → j < m + d → aops[j]? = some b → (clsOf k.pureF b.op).wr = false) → (hs (m + d)).heap = (hs m).heap:=by
  intro d
  induction d with
  | zero=>intro _ _; rfl
  | succ d ih =>
    intro hd hw
    have ho:aops[m + d]? = some aops[m + d]:=List.getElem?_eq_getElem (by omega)
    have hne:=hw (m + d) _ (by omega) (by omega) ho
    have hst:=tr (m + d) _ ho
    generalize aops[m + d] = b at hne hst
    rw [← ih (by omega) fun j b h1 h2=>hw j b h1 (by omega)]
    have hsv:∀ s d x,(setVar s d x).heap = s.heap:=fun s d x=>by cases d <;> rfl
    rw [show m + (d + 1) = m + d + 1 by omega]
    rcases hst with ⟨_,s1,a1,a2⟩ | ⟨_,_,a2⟩
    · rw [a2,hsv]
      cases hc:clsOf k.pureF b.op with
      | p=>exact (aop_p hp a1 hc).1
      | r=>exact aop_r a1 hc
      | a=>rw [hc] at hne; cases hne
      | w=>rw [hc] at hne; cases hne
    · rw [a2,hsv]
theorem heap_grow {k:Ck} {CF:CallF} {aops:List AOper} {Lf:List AV} {hs:Nat → St} (hp:PureC k.pureF CF)
    (tr:∀ i o,aops[i]? = some o → stepAt CF o (Lf.take i) (hs i) (Lf.getD i .u) (hs (i + 1))) (m:Nat) :
    ∀ d,m + d ≤ aops.length → (∀ j b,m ≤ j → j < m + d → aops[j]? = some b → clsOf k.pureF b.op ≠ .w) → ∃ obs,(hs (m + d)).heap = (hs m).heap ++ obs:=by
  intro d
  induction d with
  | zero=>intro _ _; exact ⟨[],by simp⟩
  | succ d ih =>
    intro hd hw
    have ho:aops[m + d]? = some aops[m + d]:=List.getElem?_eq_getElem (by omega)
    have hne:=hw (m + d) _ (by omega) (by omega) ho
    have hst:=tr (m + d) _ ho
    generalize aops[m + d] = b at hne hst
    obtain ⟨obs,hobs⟩:=ih (by omega) fun j b h1 h2=>hw j b h1 (by omega)
    have hsv:∀ s d x,(setVar s d x).heap = s.heap:=fun s d x=>by cases d <;> rfl
    rw [show m + (d + 1) = m + d + 1 by omega]
    rcases hst with ⟨_,s1,a1,a2⟩ | ⟨_,_,a2⟩
    · rw [a2,hsv]
      cases hc:clsOf k.pureF b.op with
      | p=>exact ⟨obs,by rw [(aop_p hp a1 hc).1,hobs]⟩
      | r=>exact ⟨obs,by rw [aop_r a1 hc,hobs]⟩
      | a=>obtain ⟨ob,h⟩:=aop_a a1 hc; exact ⟨obs ++ [ob],by rw [h,hobs,List.append_assoc]⟩
      | w=>exact absurd hc hne
    · rw [a2,hsv]; exact ⟨obs,hobs⟩
theorem Rv_under {C:Cx} {n:Nat} (hd:∀ o,n ≤ o → ∀ g,C.β o g = none) {x v} (h:Rv C x v):x.under n = true:=by
  have one:∀ x v,Rv1 C x v → x.under n = true:=by
    rintro x v (rfl | ⟨h,_⟩)
    · rfl
    · exact Rc_under hd _ _ h
  rcases h with h | ⟨l,vs,rfl,_,h⟩
  · exact one x v h
  · simp only [AV.under]
    generalize vs.toList = vl at h
    induction h with
    | nil=>rfl
    | cons a _ ih=>simp only [AV.unders,Bool.and_eq_true]; exact ⟨one _ _ a,ih⟩
theorem opOk_ropd {P ι O op a y} (h:opOk P ι O op a = true) (hy:ropd a = some y):∃ x,O x y = true:=by
  cases a <;> try (cases hy; done)
  case load ag sz z =>
    cases hy
    unfold opOk at h
    split at h <;> first
      | (rename_i e; cases e; simp only [Bool.and_eq_true] at h; exact ⟨_,h.2⟩)
      | (rename_i e; cases e; done)
      | (unfold callOk at h; split at h <;> first | (rename_i e; cases e; done) | cases h)
      | cases h
  case lookup z ok m k =>
    cases hy
    unfold opOk at h
    split at h <;> first
      | (rename_i e; cases e; simp only [Bool.and_eq_true] at h; exact ⟨_,h.1.2⟩)
      | (rename_i e; cases e; done)
      | (unfold callOk at h; split at h <;> first | (rename_i e; cases e; done) | cases h)
      | cases h
  case len kd z =>
    cases hy
    unfold opOk at h
    split at h <;> first
      | (rename_i e; cases e; done)
      | (unfold callOk at h
         split at h <;> first
          | (rename_i e; cases e
             split at h
             · simp only [Bool.and_eq_true] at h; exact ⟨_,h.2⟩
             · cases h)
          | (rename_i e; cases e; done)
          | cases h)
      | cases h
theorem does_wp {P:Program} {o:Oper} {a:Act} {w:World} {R:Value → World → Prop} {next:Act → World → Prop} {Q:Exit → Act → World → Prop} (h:Does P (execOp a.eval o) w R)
    (hn:∀ v w',R v w' → next (a.put o.dst v) w'):o.wp P a w next Q:=by
  unfold Oper.wp
  unfold Does at h
  split at h
  · rename_i e; rw [e]; exact hn _ _ h
  · rename_i e; rw [e]; exact hn _ _ h
  · rename_i e
    rw [e]
    refine Calls.mono h fun e' w' he=>?_
    cases e' with
    | returned v=>exact hn _ _ he
    | panicked _=>exact he.elim
    | outgrown=>exact he.elim
  · exact h.elim
theorem put_getD (a:Act) (d:Option Tmp) (v:Value) (t:Tmp):(a.put d v).tmps.getD t undef = if d = some t ∧ t < a.tmps.size then v else a.tmps.getD t undef:=by
  cases d with
  | none=>simp [Act.put]
  | some d =>
    simp only [Act.put,Option.some.injEq]
    by_cases h:d = t
    · subst h
      by_cases hlt:d < a.tmps.size
      · simp [Array.getD,hlt]
      · simp [Array.getD,hlt]
    · simp [Array.getD_eq_getD_getElem?,h]
theorem put_size (a:Act) (d:Option Tmp) (v:Value):(a.put d v).tmps.size = a.tmps.size:=by cases d <;> simp [Act.put]
theorem put_defers' (a:Act) (d:Option Tmp) (v:Value):(a.put d v).defers = a.defers:=by cases d <;> rfl
def nodupB:List Tmp → Bool
  | []=>true
  | t :: r=>!r.contains t && nodupB r
theorem nodupB_get:∀ {l:List Tmp},nodupB l = true → ∀ (i j:Nat) (t:Tmp),l[i]? = some t → l[j]? = some t → i = j
  | [],_,i,j,t,h,_=>by simp at h
  | x :: r,h,i,j,t,hi,hj=>by
    simp only [nodupB,Bool.and_eq_true,Bool.not_eq_true'] at h
    have key:∀ (m:Nat),r[m]? = some x → False:=fun m hm=>by
      have:=List.mem_of_getElem? hm
      simp [this] at h
    cases i with
    | zero =>
      simp at hi; subst hi
      cases j with
      | zero=>rfl
      | succ j=>exact (key j (by simpa using hj)).elim
    | succ i =>
      cases j with
      | zero=>simp at hj; subst hj; exact (key i (by simpa using hi)).elim
      | succ j=>rw [nodupB_get h.2 i j t (by simpa using hi) (by simpa using hj)]
section
variable {k:Ck} (hnds:nodupB (k.slots ++ k.cells) = true)
include hnds
theorem slot_notCell {q:Nat} {t:Tmp} (h:k.slots[q]? = some t):k.cells.contains t = false:=by
  cases hc:k.cells.contains t with
  | false=>rfl
  | true =>
    obtain ⟨j,hj⟩:=List.getElem?_of_mem (by simpa using hc:t ∈ k.cells)
    have h1:(k.slots ++ k.cells)[q]? = some t:=by rw [List.getElem?_append_left (List.getElem?_eq_some_iff.1 h).1]; exact h
    have h2:(k.slots ++ k.cells)[k.slots.length + j]? = some t:=by rw [List.getElem?_append_right (by omega),Nat.add_sub_cancel_left]; exact hj
    have:=nodupB_get hnds _ _ t h1 h2
    have:=(List.getElem?_eq_some_iff.1 h).1
    omega
theorem slot_inj {q q':Nat} {t:Tmp} (h:k.slots[q]? = some t) (h':k.slots[q']? = some t):q = q':=by
  have h1:(k.slots ++ k.cells)[q]? = some t:=by rw [List.getElem?_append_left (List.getElem?_eq_some_iff.1 h).1]; exact h
  have h2:(k.slots ++ k.cells)[q']? = some t:=by rw [List.getElem?_append_left (List.getElem?_eq_some_iff.1 h').1]; exact h'
  exact nodupB_get hnds _ _ t h1 h2
theorem cell_inj {q q' t} (h:k.cellIs q t = true) (h':k.cellIs q' t = true):q = q':=by
  obtain ⟨a1,a2⟩:=cellIs_iff h
  obtain ⟨b1,b2⟩:=cellIs_iff h'
  have h1:(k.slots ++ k.cells)[q]? = some t:=by rw [List.getElem?_append_right a1]; exact a2
  have h2:(k.slots ++ k.cells)[q']? = some t:=by rw [List.getElem?_append_right b1]; exact b2
  exact nodupB_get hnds _ _ t h1 h2
end
theorem cell_mem {k:Ck} {q t} (h:k.cellIs q t = true):k.cells.contains t = true:=by
  have:=List.mem_of_getElem? (cellIs_iff h).2
  simpa using this
structure PD (k:Ck) (o:Oper) (a:AOper):Prop where
  dst:∀ t,o.dst = some t → k.cells.contains t = false ∧ t < k.ntmps
  adst:∀ q,a.dst = some q → ∃ t,o.dst = some t ∧ k.slots[q]? = some t
  none:∀ t,o.dst = some t → a.dst = none → k.slots.contains t = false
theorem plainDst_pd {k:Ck} (hnds:nodupB (k.slots ++ k.cells) = true) {o a} (h:plainDst k o a = true):PD k o a:=by
  unfold plainDst dstOk at h
  split at h
  · rename_i e1 e2
    exact ⟨fun t ht=>(by rw [e1] at ht; cases ht),fun q hq=>(by rw [e2] at hq; cases hq),fun t ht=>(by rw [e1] at ht; cases ht)⟩
  · rename_i t q e1 e2
    simp only [Bool.and_eq_true,Nat.blt_eq] at h
    have hs:=slotIs_iff h.1
    exact ⟨fun t' ht=>(by rw [e1] at ht; cases ht; exact ⟨slot_notCell hnds hs,h.2⟩),fun q' hq=>(by rw [e2] at hq; cases hq; exact ⟨t,e1,hs⟩),fun t' ht hn=>(by rw [e2] at hn; cases hn)⟩
  · rename_i t e1 e2
    simp only [Bool.and_eq_true,Nat.blt_eq,Bool.not_eq_true'] at h
    exact ⟨fun t' ht=>(by rw [e1] at ht; cases ht; exact ⟨h.1.2,h.2⟩),fun q' hq=>(by rw [e2] at hq; cases hq),fun t' ht _=>(by rw [e1] at ht; cases ht; exact h.1.1)⟩
  · cases h
section
variable {k:Ck} {base ent:Nat} {C0 C C':Cx} {H0 H H':Heap} {ops:List Oper} {aops:List AOper} {Lf:List AV} {hs:Nat → St} {S:Nat → Bool} {a:Act} {i:Nat} {o:Oper} {ao:AOper} {v:Value}
theorem RInv.plain (inv:RInv k base ent C0 H0 C ops aops Lf hs S H a) (ho:ops[i]? = some o) (hao:aops[i]? = some ao) (pd:PD k o ao) (hnd:dstsNodup ops = true)
    (hst:OStep base C H C' H') (hv:Rv C' (Lf.getD i .u) v)
    (hvia:∀ sty t f d q,o.op = .fieldAddr sty (.tmp t) f → o.dst = some d → k.cellIs q t = true → wants (Lf.take i) ao.guard = some true →
      ∃ bl fl,a.tmps.getD t undef = .pointer (some ⟨bl,0,none⟩) ∧ fieldB k.P sty f = some fl ∧ v = .pointer (some ⟨bl,fl.offset,none⟩))
    (hh:∃ m,m ≤ aops.length ∧ H' = (hs m).heap ∧ ∀ j b,aops[j]? = some b → (clsOf k.pureF b.op).wr = true → ((j == i || S j) = true ↔ j < m)) :
    RInv k base ent C0 H0 C' ops aops Lf hs (fun j=>j == i || S j) H' (a.put o.dst v):=by
  have hent:ent ≤ C.w.heap.size:=Nat.le_trans inv.es inv.stp.below.4
  have hcellt:∀ q t,k.cellIs q t = true → (a.put o.dst v).tmps.getD t undef = a.tmps.getD t undef:=by
    intro q t hq
    rw [put_getD,if_neg]
    rintro ⟨e,_⟩
    have:=(pd.dst t e).1
    rw [cell_mem hq] at this; cases this
  have hcur:∀ q t,k.cellIs q t = true → cur aops Lf (hs 0).vars (fun j=>j == i || S j) q aops.length = cur aops Lf (hs 0).vars S q aops.length:=by
    intro q t hq
    refine cur_other (fun a' ha' e=>?_) _
    rw [hao] at ha'; cases ha'
    obtain ⟨t',_,ht'⟩:=pd.adst q e
    have:=(List.getElem?_eq_some_iff.1 ht').1
    have:=(cellIs_iff hq).1
    omega
  refine ⟨inv.stp.trans (hst.ent_le hent),hh,fun j o' t hj ho' hd hnc=>?_,fun q t hq hno=>?_,by rw [put_size]; exact inv.size,by rw [put_defers']; exact inv.defers,fun q t hq=>?_,fun q q' t t' hq hq' hne h1 h2=>?_,fun j o' b sty t f d q hj ho' hb hop hd hq hw=>?_,inv.be,inv.es⟩
  · rw [put_getD]
    by_cases hji:j = i
    · subst hji
      rw [ho] at ho'; cases ho'
      rw [if_pos ⟨hd,by rw [inv.size]; exact (pd.dst t hd).2⟩]; exact hv
    · have hSj:S j = true:=by simpa [hji] using hj
      have hne:o.dst ≠ some t:=fun e=>hji (dstsNodup_get hnd j i o' o t ho' ho hd e)
      rw [if_neg (fun e=>hne e.1)]
      exact Rv_le hst.le (inv.tmp j o' t hSj ho' hd hnc)
  · rw [put_getD]
    have hne:o.dst ≠ some t:=hno i o (by simp) ho
    rw [if_neg (fun e=>hne e.1)]
    exact Rv_le hst.le (inv.slot q t hq fun j o' hj=>hno j o' (by simp [hj]))
  · rw [hcellt q t hq,hcur q t hq]
    exact (inv.cell q t hq).step hst
  · rw [hcellt q t hq,hcellt q' t' hq']
    rw [hcur q t hq] at h1
    rw [hcur q' t' hq'] at h2
    exact inv.dist q q' t t' hq hq' hne h1 h2
  · rw [hcellt q t hq]
    by_cases hji:j = i
    · subst hji
      rw [ho] at ho'; cases ho'
      rw [hao] at hb; cases hb
      rw [put_getD,if_pos ⟨hd,by rw [inv.size]; exact (pd.dst d hd).2⟩]
      exact hvia sty t f d q hop hd hq hw
    · have hSj:S j = true:=by simpa [hji] using hj
      have hne:o.dst ≠ some d:=fun e=>hji (dstsNodup_get hnd j i o' o d ho' ho hd e)
      rw [put_getD,if_neg (fun e=>hne e.1)]
      exact inv.via j o' b sty t f d q hSj ho' hb hop hd hq hw
theorem RInv.wrote (inv:RInv k base ent C0 H0 C ops aops Lf hs S H a) (hnds:nodupB (k.slots ++ k.cells) = true) (ho:ops[i]? = some o) (hao:aops[i]? = some ao) {q:Nat} {t:Tmp} (hq:k.cellIs q t = true) (hadst:ao.dst = some q)
    (hodst:o.dst = some t ∨ o.dst = none) (hlt:o.dst = some t → t < k.ntmps) (hnd:dstsNodup ops = true) (hnf:∀ sty x f,o.op ≠ .fieldAddr sty x f)
    (hlater:∀ j b,j < aops.length → i < j → aops[j]? = some b → b.dst = some q → S j = false)
    (hst:Step base ent C H C' H) (hv:CellV base ent C' H (Lf.getD i .u) ((a.put o.dst v).tmps.getD t undef))
    (hoth:∀ q' t',k.cellIs q' t' = true → q' ≠ q → CellV base ent C' H (cur aops Lf (hs 0).vars S q' aops.length) (a.tmps.getD t' undef))
    (hdist:(Lf.getD i .u).known = true → ∀ q' t',k.cellIs q' t' = true → q' ≠ q → (cur aops Lf (hs 0).vars S q' aops.length).known = true → a.tmps.getD t' undef ≠ (a.put o.dst v).tmps.getD t undef)
    (hnovia:o.dst = some t → ∀ j o' sty f,ops[j]? = some o' → o'.op = .fieldAddr sty (.tmp t) f → S j = false)
    (hh:∃ m,m ≤ aops.length ∧ H = (hs m).heap ∧ ∀ j b,aops[j]? = some b → (clsOf k.pureF b.op).wr = true → ((j == i || S j) = true ↔ j < m)) :
    RInv k base ent C0 H0 C' ops aops Lf hs (fun j=>j == i || S j) H (a.put o.dst v):=by
  have hil:i < aops.length:=(List.getElem?_eq_some_iff.1 hao).1
  have hput:∀ t',t' ≠ t → (a.put o.dst v).tmps.getD t' undef = a.tmps.getD t' undef:=by
    intro t' hne
    rw [put_getD,if_neg]
    rintro ⟨e,_⟩
    rcases hodst with h | h
    · rw [h] at e; cases e; exact hne rfl
    · rw [h] at e; cases e
  have htne:∀ t',k.cells.contains t' = false → t' ≠ t:=fun t' h e=>by rw [e,cell_mem hq] at h; cases h
  have hcq:cur aops Lf (hs 0).vars (fun j=>j == i || S j) q aops.length = Lf.getD i .u:=by
    refine cur_last hao hadst (by simp) _ hil fun j b h1 h2 hb hd=>?_
    have h3:=hlater j b h2 h1 hb hd
    have:(j == i) = false:=by simp; omega
    simp only [this,Bool.false_or]; exact h3
  have hcur:∀ q',q' ≠ q → cur aops Lf (hs 0).vars (fun j=>j == i || S j) q' aops.length = cur aops Lf (hs 0).vars S q' aops.length:=by
    intro q' hne
    refine cur_other (fun a' ha' e=>?_) _
    rw [hao] at ha'; cases ha'
    rw [hadst] at e; cases e; exact hne rfl
  have hqt:∀ q' t',k.cellIs q' t' = true → q' ≠ q → t' ≠ t:=fun q' t' h hne e=>hne (cell_inj hnds (e ▸ h) hq)
  refine ⟨inv.stp.trans hst,hh,fun j o' t' hj ho' hd hnc=>?_,fun q' t' hq' hno=>?_,by rw [put_size]; exact inv.size,by rw [put_defers']; exact inv.defers,fun q' t' hq'=>?_,fun q1 q2 t1 t2 h1 h2 hne k1 k2=>?_,fun j o' b sty t' f d q' hj ho' hb hop hd hq' hw=>?_,inv.be,inv.es⟩
  · rw [hput t' (htne t' hnc)]
    by_cases hji:j = i
    · subst hji
      rw [ho] at ho'; cases ho'
      rcases hodst with h | h
      · rw [h] at hd; cases hd; exact absurd rfl (htne t hnc)
      · rw [h] at hd; cases hd
    · have hSj:S j = true:=by simpa [hji] using hj
      exact Rv_le hst.le (inv.tmp j o' t' hSj ho' hd hnc)
  · rw [hput t' (htne t' (slot_notCell hnds hq'))]
    exact Rv_le hst.le (inv.slot q' t' hq' fun j o' hj=>hno j o' (by simp [hj]))
  · by_cases hqq:q' = q
    · subst hqq
      have:t' = t:=by
        have:=(cellIs_iff hq').2.symm.trans (cellIs_iff hq).2
        cases this; rfl
      subst this
      rw [hcq]; exact hv
    · rw [hput t' (hqt q' t' hq' hqq),hcur q' hqq]
      exact hoth q' t' hq' hqq
  · have tq:∀ q' t',k.cellIs q' t' = true → q' = q → t' = t:=fun q' t' h e=>by
      subst e
      have:=(cellIs_iff h).2.symm.trans (cellIs_iff hq).2
      cases this; rfl
    by_cases e1:q1 = q
    · have e2:q2 ≠ q:=fun e=>hne (e1.trans e.symm)
      rw [tq q1 t1 h1 e1,hput t2 (hqt q2 t2 h2 e2)]
      rw [hcur q2 e2] at k2
      rw [e1,hcq] at k1
      exact fun e=>hdist k1 q2 t2 h2 e2 k2 e.symm
    · by_cases e2:q2 = q
      · rw [tq q2 t2 h2 e2,hput t1 (hqt q1 t1 h1 e1)]
        rw [hcur q1 e1] at k1
        rw [e2,hcq] at k2
        exact hdist k2 q1 t1 h1 e1 k1
      · rw [hput t1 (hqt q1 t1 h1 e1),hput t2 (hqt q2 t2 h2 e2)]
        rw [hcur q1 e1] at k1
        rw [hcur q2 e2] at k2
        exact inv.dist q1 q2 t1 t2 h1 h2 hne k1 k2
  · by_cases hji:j = i
    · subst hji
      rw [ho] at ho'; cases ho'
      exact absurd hop (hnf _ _ _)
    · have hSj:S j = true:=by simpa [hji] using hj
      obtain ⟨bl,fl,g1,g2,g3⟩:=inv.via j o' b sty t' f d q' hSj ho' hb hop hd hq' hw
      have hdn:o.dst ≠ some d:=fun e=>hji (dstsNodup_get hnd j i o' o d ho' ho hd e)
      refine ⟨bl,fl,?_,g2,?_⟩
      · rw [put_getD,if_neg]
        · exact g1
        · rintro ⟨e,_⟩
          rcases hodst with h | h
          · rw [h] at e; cases e
            rw [hnovia h j o' sty f ho' hop] at hSj; cases hSj
          · rw [h] at e; cases e
      · rw [put_getD,if_neg (fun e=>hdn e.1)]; exact g3
end
end Tor
namespace Tor
open Go Go.RowKit
theorem opFits_cases {k:Ck} {ops aops p i o a} (h:opFits k ops aops p i o a = true):(opOk k.P k.ι (opdIn k.ι k.slots k.cells ops p i) o.op a.op = true ∧ plainDst k o a = true) ∨ cellFits k ops aops p i o a = true:=by
  unfold opFits at h
  simp only [Bool.or_eq_true,Bool.and_eq_true] at h
  exact h
theorem slotDst {k:Ck} (hnds:nodupB (k.slots ++ k.cells) = true) {ops aops p i o a} (h:opFits k ops aops p i o a = true) {q:Nat} (hd:a.dst = some q) (hq:q < k.slots.length):∃ t,o.dst = some t ∧ k.slots[q]? = some t:=by
  rcases opFits_cases h with ⟨_,h⟩ | h
  · exact (plainDst_pd hnds h).adst q hd
  · unfold cellFits at h
    split at h
    · split at h
      · rename_i q' _ e
        rw [hd] at e; cases e
        simp only [Bool.and_eq_true] at h
        have:=(cellIs_iff h.1.1.1.1).1
        omega
      · cases h
    · split at h
      · rename_i q' _ e
        rw [hd] at e; cases e
        simp only [Bool.and_eq_true] at h
        have:=(cellIs_iff h.1.1.1.1).1
        omega
      · cases h
    · split at h
      · rename_i q' _ e
        rw [hd] at e; cases e
        simp only [Bool.and_eq_true] at h
        have:=(cellIs_iff h.1.1.1.1).1
        omega
      · cases h
    · split at h
      · simp only [Bool.and_eq_true] at h; exact (plainDst_pd hnds h.2).adst q hd
      · cases h
    · split at h
      · simp only [Bool.and_eq_true] at h; exact (plainDst_pd hnds h.1.2).adst q hd
      · cases h
    · simp only [Bool.and_eq_true] at h; exact (plainDst_pd hnds h.2).adst q hd
    · cases h
theorem dstLt {k:Ck} (hnds:nodupB (k.slots ++ k.cells) = true) {ops aops p i o a} (h:opFits k ops aops p i o a = true) {t:Tmp} (hd:o.dst = some t):t < k.ntmps:=by
  rcases opFits_cases h with ⟨_,h⟩ | h
  · exact ((plainDst_pd hnds h).dst t hd).2
  · unfold cellFits at h
    split at h
    · split at h
      · rename_i t' q' e1 e2
        rw [hd] at e1; cases e1
        simp only [Bool.and_eq_true,Nat.blt_eq] at h
        exact h.1.1.1.2
      · cases h
    · split at h
      · rename_i t' q' e1 e2
        rw [hd] at e1; cases e1
        simp only [Bool.and_eq_true,Nat.blt_eq] at h
        exact h.1.1.1.2
      · cases h
    · split at h
      · rename_i e1 _
        rw [hd] at e1; cases e1
      · cases h
    · split at h
      · simp only [Bool.and_eq_true] at h; exact ((plainDst_pd hnds h.2).dst t hd).2
      · cases h
    · split at h
      · simp only [Bool.and_eq_true] at h; exact ((plainDst_pd hnds h.1.2).dst t hd).2
      · cases h
    · simp only [Bool.and_eq_true] at h; exact ((plainDst_pd hnds h.2).dst t hd).2
    · cases h
theorem opOk_notCell {k:Ck} (hnds:nodupB (k.slots ++ k.cells) = true) {ops p i sty t f a q} (h:opOk k.P k.ι (opdIn k.ι k.slots k.cells ops p i) (.fieldAddr sty (.tmp t) f) a = true) (hq:k.cellIs q t = true):False:=by
  have hO:∀ y,opdIn k.ι k.slots k.cells ops p i (.tmp t) y = true → False:=by
    intro y hy
    unfold opdIn at hy
    split at hy
    · rename_i t' j e
      cases e
      simp only [Bool.and_eq_true,Bool.not_eq_true'] at hy
      rw [cell_mem hq] at hy; cases hy.2
    · rename_i t' j e
      cases e
      simp only [Bool.and_eq_true] at hy
      have:=slot_notCell hnds (slotIs_iff hy.1)
      rw [cell_mem hq] at this; cases this
    · rename_i e; cases e
    · rename_i e; cases e
    · cases hy
  cases a <;> simp only [opOk,Bool.and_eq_true] at h <;> first | exact hO _ h.2 | (cases h; done) | skip
theorem region_step {k:Ck} {CF:CallF} {base ent:Nat} {C0 C:Cx} {H0:Heap} {ops:List Oper} {aops:List AOper} {Lf:List AV} {hs:Nat → St} {S:Nat → Bool} {H:Heap} {a:Act} {p:Prec} {i:Nat}
    {K:Act → World → Prop} {Q:Exit → Act → World → Prop}
    (hC:SoundC k.P k.ι CF) (hp:PureC k.pureF CF) (hι:C0.ι = k.ι) (hlen:ops.length = aops.length)
    (tr:∀ i o,aops[i]? = some o → stepAt CF o (Lf.take i) (hs i) (Lf.getD i .u) (hs (i + 1)))
    (hin:∀ i o a,ops[i]? = some o → aops[i]? = some a → OpIn k ops aops p i o a) (hnd:dstsNodup ops = true) (hnds:nodupB (k.slots ++ k.cells) = true)
    (inv:RInv k base ent C0 H0 C ops aops Lf hs S H a) (hi:i < ops.length) (hSi:S i = false)
    (hpre:∀ j,p.lt j i = true → S j = true ∧ j < i) (hpost:∀ j,S j = true → j < ops.length → ∀ j',p.lt j' j = true → S j' = true ∧ j' < j) (hltp:∀ j,j < ops.length → ∀ j',p.lt j' j = true → j' < j)
    (hK:∀ a' C' H',RInv k base ent C0 H0 C' ops aops Lf hs (fun j=>j == i || S j) H' a' → K a' C'.w):wpOp k.P ops.toArray Q i K a C.w:=by
  have ho:ops[i]? = some ops[i]:=List.getElem?_eq_getElem hi
  have hao:aops[i]? = some aops[i]:=List.getElem?_eq_getElem (by omega)
  generalize ops[i] = o at ho
  generalize aops[i] = ao at hao
  have hop:=hin i o ao ho hao
  have htr:=tr i ao hao
  have hιC:C.ι = k.ι:=inv.stp.le.ι.trans hι
  -- the heap
  obtain ⟨m,hm1,hm2,hm3⟩:=inv.hinv
  have hbefore:∀ (j:Nat) (b:AOper),aops[j]? = some b → (clsOf k.pureF b.op = .w ∧ clsOf k.pureF ao.op ≠ .p) ∨ ((clsOf k.pureF b.op).wr = true ∧ (clsOf k.pureF ao.op).wr = true) → j < i → S j = true:=by
    intro j b hb hw hji
    have hlt:p.lt j i = true:=by
      have:=pairsOk_get hop.pairs j b hb (by omega)
      rw [Nat.zero_add] at this
      rcases this with h | h
      · exact h
      · exfalso
        cases hcb:clsOf k.pureF b.op <;> cases hca:clsOf k.pureF ao.op <;> rw [hcb,hca] at hw h <;> simp [Cls.wr] at hw h
    exact (hpre j hlt).1
  have hafter:∀ (j:Nat) (b:AOper),aops[j]? = some b → (clsOf k.pureF b.op = .w ∧ clsOf k.pureF ao.op ≠ .p) ∨ ((clsOf k.pureF b.op).wr = true ∧ (clsOf k.pureF ao.op).wr = true) → i ≤ j → S j = false:=by
    intro j b hb hw hij
    have hjl:j < ops.length:=by rw [hlen]; exact (List.getElem?_eq_some_iff.1 hb).1
    cases hS:S j with
    | false=>rfl
    | true =>
      by_cases hji:j = i
      · subst hji; rw [hSi] at hS; cases hS
      · have hoj:ops[j]? = some ops[j]:=List.getElem?_eq_getElem hjl
        have hlt:p.lt i j = true:=by
          have:=pairsOk_get (hin j _ b hoj hb).pairs i ao hao (by omega)
          rw [Nat.zero_add] at this
          rcases this with h | h
          · exact h
          · exfalso
            cases hcb:clsOf k.pureF b.op <;> cases hca:clsOf k.pureF ao.op <;> rw [hcb,hca] at hw h <;> simp [Cls.wr] at hw h
        have:=(hpost j hS hjl i hlt).1
        rw [hSi] at this; cases this
  have hheap:(clsOf k.pureF ao.op).wr = true → H = (hs i).heap:=by
    intro hna
    rw [hm2]
    rcases Nat.le_total m i with h | h
    · have:=heap_const hp tr m (i - m) (by omega) fun j b h1 h2 hb=>by
        cases hw:(clsOf k.pureF b.op).wr with
        | false=>rfl
        | true =>
          have h3:=(hm3 j b hb hw).1 (hbefore j b hb (.inr ⟨hw,hna⟩) (by omega))
          omega
      rw [show m + (i - m) = i by omega] at this
      exact this.symm
    · have:=heap_const hp tr i (m - i) (by omega) fun j b h1 h2 hb=>by
        cases hw:(clsOf k.pureF b.op).wr with
        | false=>rfl
        | true =>
          have h3:=(hm3 j b hb hw).2 (by omega)
          rw [hafter j b hb (.inr ⟨hw,hna⟩) h1] at h3; cases h3
      rw [show i + (m - i) = m by omega] at this
      exact this
  have hagree:clsOf k.pureF ao.op ≠ .p → ∀ o,o < H.length → o < (hs i).heap.length → H[o]? = (hs i).heap[o]?:=by
    intro hna o' h1 h2
    have hww:∀ c:Cls,c = .w → c.wr = true:=fun c h=>by rw [h]; rfl
    rcases Nat.le_total m i with h | h
    · obtain ⟨obs,this⟩:=heap_grow hp tr m (i - m) (by omega) fun j b h1 h2 hb hw=>by
        have h3:=(hm3 j b hb (hww _ hw)).1 (hbefore j b hb (.inl ⟨hw,hna⟩) (by omega))
        omega
      rw [show m + (i - m) = i by omega] at this
      rw [this,← hm2,List.getElem?_append_left h1]
    · obtain ⟨obs,this⟩:=heap_grow hp tr i (m - i) (by omega) fun j b h1 h2 hb hw=>by
        have h3:=(hm3 j b hb (hww _ hw)).2 (by omega)
        rw [hafter j b hb (.inl ⟨hw,hna⟩) h1] at h3; cases h3
      rw [show i + (m - i) = m by omega] at this
      rw [hm2,this,List.getElem?_append_left h2]
  -- operands
  have hO:∀ x y,opdIn k.ι k.slots k.cells ops p i x y = true → Rv C (ev (Lf.take i) (hs i).vars y) (a.eval x):=by
    intro x y h
    unfold opdIn at h
    split at h
    · rename_i t j
      simp only [Bool.and_eq_true,Bool.not_eq_true'] at h
      obtain ⟨⟨h1,h2⟩,h3⟩:=h
      obtain ⟨oj,hoj,hdj⟩:=dstIs_iff h1
      obtain ⟨hSj,hji⟩:=hpre j h2
      simp only [ev,Act.eval]
      have:(Lf.take i).getD j .u = Lf.getD j .u:=by simp [List.getD,hji]
      rw [this]
      exact inv.tmp j oj t hSj hoj hdj h3
    · rename_i t q
      simp only [Bool.and_eq_true] at h
      have hq:=slotIs_iff h.1
      have hl:=laterOk_get h.2
      simp only [ev,Act.eval]
      -- no operation before this one gives the slot
      have hnone:∀ j o',j < ops.length → ops[j]? = some o' → o'.dst = some t → j = i ∨ p.lt i j = true:=fun j o' _ h1 h2=>by
        have:=hl j o' h1 h2; rwa [Nat.zero_add] at this
      have hv:=(trace_vars tr q i (by omega)).2.1 fun j ao' hji hao' hd=>by
        have hjl:j < ops.length:=by omega
        have hoj:ops[j]? = some ops[j]:=List.getElem?_eq_getElem hjl
        obtain ⟨t',hdo,hqt⟩:=slotDst hnds (hin j _ ao' hoj hao').op hd (List.getElem?_eq_some_iff.1 hq).1
        rw [hq] at hqt; cases hqt
        rcases hnone j _ hjl hoj hdo with h | h
        · omega
        · have:=hltp j hjl i h; omega
      rw [hv]
      refine inv.slot q t hq fun j o' hSj ho' hd=>?_
      have hjl:j < ops.length:=(List.getElem?_eq_some_iff.1 ho').1
      rcases hnone j o' hjl ho' hd with h | h
      · subst h; rw [hSi] at hSj; cases hSj
      · have:=(hpost j hSj hjl i h).1
        rw [hSi] at this; cases this
    · exact constOk_ok h C
    · rename_i f g
      simp only [beq_iff_eq] at h
      subst h
      simp only [ev,Act.eval]
      refine Rv_one ?_ rfl rfl
      simp only [Rc]
      exact ⟨fun x hx=>(by cases hx),#[],by rw [hιC],rfl⟩
    · cases h
  have hHsame:∀ (S':Nat → Bool),S' = (fun j=>j == i || S j) → (clsOf k.pureF ao.op).wr = false → ∃ m,m ≤ aops.length ∧ H = (hs m).heap ∧ ∀ j b,aops[j]? = some b → (clsOf k.pureF b.op).wr = true → (S' j = true ↔ j < m):=by
    rintro _ rfl hnw
    refine ⟨m,hm1,hm2,fun j b hb hw=>?_⟩
    have:j ≠ i:=by rintro rfl; rw [hao] at hb; cases hb; rw [hnw] at hw; cases hw
    simp only [Bool.or_eq_true,beq_iff_eq,this,false_or]
    exact hm3 j b hb hw
  have ho':ops.toArray[i]? = some o:=by simpa using ho
  have hguard:wants (Lf.take i) ao.guard = some (Region.wanted o (yielded ops.toArray a.tmps)) ∨ wants (Lf.take i) ao.guard = none:=by
    have hg:=hop.guard
    cases hgo:o.guard with
    | none =>
      rw [hgo] at hg
      cases hga:ao.guard with
      | none=>left; simp [wants,Region.wanted,hgo]
      | some q=>rw [hga] at hg; simp [guardOk] at hg
    | some q =>
      obtain ⟨j,b⟩:=q
      rw [hgo] at hg
      cases hga:ao.guard with
      | none=>rw [hga] at hg; simp [guardOk] at hg
      | some q' =>
        obtain ⟨j',b'⟩:=q'
        rw [hga] at hg
        simp only [guardOk,Bool.and_eq_true,beq_iff_eq] at hg
        obtain ⟨⟨⟨rfl,rfl⟩,h3⟩,h4⟩:=hg
        obtain ⟨hSj,hji⟩:=hpre j h3
        split at h4
        · rename_i oj hoj
          split at h4
          case h_2=>cases h4
          rename_i t ht
          simp only [Bool.and_eq_true,Bool.not_eq_true'] at h4
          have hnc:=h4.1
          have hr:=inv.tmp j oj t hSj hoj ht hnc
          have hget:(Lf.take i).getD j .u = Lf.getD j .u:=by simp [List.getD,hji]
          simp only [wants,hget]
          have hjl:j < ops.length:=by omega
          have haj:aops[j]? = some aops[j]:=List.getElem?_eq_getElem (by omega)
          have htl:t < a.tmps.size:=by
            rw [inv.size]; exact dstLt hnds (hin j oj _ hoj haj).op ht
          have hy:∀ v,a.tmps.getD t undef = v → (ops.toArray[j]?.bind (·.dst)).bind (a.tmps[·]?) = some v:=by
            intro v hv
            have:ops.toArray[j]? = some oj:=by simpa using hoj
            rw [this]
            simp only [Option.bind_some,ht]
            rw [← hv]
            simp [Array.getD,htl]
          generalize Lf.getD j .u = X at hr
          cases X with
          | bool c =>
            left
            have:=hy _ (Rv_bool hr)
            simp only [wantsK,Region.wanted,hgo,yielded,this]
            congr 1
          | tup l =>
            cases l with
            | nil =>
              left
              obtain ⟨vs,e1,e2⟩:=Rv_tup hr
              have:=hy _ e1
              simp only [wantsK,Region.wanted,hgo,yielded,this]
              rfl
            | cons _ _=>right; rfl
          | _=>right; rfl
        · cases h4
  have hent:ent ≤ C.w.heap.size:=Nat.le_trans inv.es inv.stp.below.4
  have hnot:∀ j,j < aops.length → p.lt i j = true → S j = false:=by
    intro j hj hlt
    cases hSj:S j with
    | false=>rfl
    | true =>
      have:=(hpost j hSj (by omega) i hlt).1
      rw [hSi] at this; cases this
  have hgt:∀ j,j < aops.length → p.lt i j = true → i < j:=fun j hj hlt=>hltp j (by omega) i hlt
  -- what a cell holds
  have hcur:∀ q y,curOk aops p i q y = true → ev (Lf.take i) (hs i).vars y = cur aops Lf (hs 0).vars S q aops.length:=by
    intro q y h
    unfold curOk at h
    split at h
    · rename_i q'
      simp only [Bool.and_eq_true,beq_iff_eq] at h
      obtain ⟨rfl,h⟩:=h
      have hw:=writersOk_get h
      simp only [ev]
      rw [(trace_vars tr q' i (by omega)).2.1,cur_none]
      · intro j b hj hb hd
        rcases hw j b hb hd with h | h | ⟨m',h,_⟩
        · have:j = i:=by omega
          subst this; exact hSi
        · rw [Nat.zero_add] at h; exact hnot j hj h
        · cases h
      · intro j b hj hb hd
        rcases hw j b hb hd with h | h | ⟨m',h,_⟩
        · omega
        · rw [Nat.zero_add] at h; have:=hgt j (by omega) h; omega
        · cases h
    · rename_i m
      simp only [Bool.and_eq_true] at h
      obtain ⟨⟨h1,h2⟩,h3⟩:=h
      have hw:=writersOk_get h3
      obtain ⟨hSm,hmi⟩:=hpre m h2
      split at h1
      · rename_i b hb
        simp only [beq_iff_eq] at h1
        simp only [ev]
        have:(Lf.take i).getD m .u = Lf.getD m .u:=by simp [List.getD,hmi]
        rw [this,cur_last hb h1 hSm _ (by omega)]
        intro j c hmj hj hc hd
        rcases hw j c hc hd with h | h | ⟨m',h,h'⟩
        · have:j = i:=by omega
          subst this; exact hSi
        · rw [Nat.zero_add] at h; exact hnot j hj h
        · cases h
          rw [Nat.zero_add] at h'
          rcases h' with h' | h'
          · omega
          · have:=hltp m (by omega) j h'; omega
      · cases h1
    · cases h
  have hwriter:∀ q,writerOk p i q 0 aops = true → ∀ j b,j < aops.length → i < j → aops[j]? = some b → b.dst = some q → S j = false:=by
    intro q h j b hj hij hb hd
    rcases writerOk_get h j b hb hd with h | h | h
    · omega
    · rw [Nat.zero_add] at h; exact hnot j hj h
    · rw [Nat.zero_add] at h; have:=(hpre j h).2; omega
  have hviaNo:∀ t,noVia p i t 0 ops = true → ∀ j o' sty f,ops[j]? = some o' → o'.op = .fieldAddr sty (.tmp t) f → S j = false:=by
    intro t h j o' sty f ho' hop'
    have:=noVia_get h j o' sty f ho' hop'
    rw [Nat.zero_add] at this
    exact hnot j (by have:=(List.getElem?_eq_some_iff.1 ho').1; omega) this
  unfold wpOp
  rw [ho']
  simp only
  rcases opFits_cases hop.op with ⟨hfit,hpd⟩ | hfit
  · -- an ordinary operation
    have pd:=plainDst_pd hnds hpd
    have hvia:∀ v sty t f d q,o.op = .fieldAddr sty (.tmp t) f → o.dst = some d → k.cellIs q t = true → wants (Lf.take i) ao.guard = some true →
        ∃ bl fl,a.tmps.getD t undef = .pointer (some ⟨bl,0,none⟩) ∧ fieldB k.P sty f = some fl ∧ v = Value.pointer (some ⟨bl,fl.offset,none⟩):=by
      intro v sty t f d q h1 _ h3 _
      rw [h1] at hfit
      exact (opOk_notCell hnds hfit h3).elim
    rcases htr with ⟨hw,s1,h1,h2⟩ | ⟨hw,hx,h2⟩
    · have hwt:Region.wanted o (yielded ops.toArray a.tmps) = true:=by
        rcases hguard with h | h
        · rw [hw] at h; exact (Option.some.inj h).symm
        · rw [hw] at h; cases h
      rw [if_pos hwt]
      left
      have hsv:(hs (i + 1)).heap = s1.heap:=by rw [h2]; cases ao.dst <;> rfl
      have hset:(clsOf k.pureF ao.op).wr = true → ∀ j b,aops[j]? = some b → (clsOf k.pureF b.op).wr = true → ((j == i || S j) = true ↔ j < i + 1):=by
        intro hna j b hb hwj
        constructor
        · intro h
          by_cases hji:j = i
          · omega
          · have hSj:S j = true:=by simpa [hji] using h
            by_cases hlt:i ≤ j
            · rw [hafter j b hb (.inr ⟨hwj,hna⟩) hlt] at hSj; cases hSj
            · omega
        · intro h
          by_cases hji:j = i
          · simp [hji]
          · simp [hbefore j b hb (.inr ⟨hwj,hna⟩) (by omega)]
      cases hwr:(clsOf k.pureF ao.op).wr with
      | false =>
        have hat:aop CF (Lf.take i) { hs i with heap:=H } ao.op = some (Lf.getD i .u,{ s1 with heap:=H }):=by
          cases hc:clsOf k.pureF ao.op with
          | p=>exact (aop_p hp h1 hc).2 H
          | r =>
            refine aop_r2 h1 hc (hagree (by rw [hc]; exact fun e=>by cases e)) fun y hy=>?_
            obtain ⟨x,hx⟩:=opOk_ropd hfit hy
            exact Rv_under inv.stp.sim.dom (hO x y hx)
          | a=>rw [hc] at hwr; cases hwr
          | w=>rw [hc] at hwr; cases hwr
        have hd:=(op_ok (st:={ hs i with heap:=H }) hC hιC inv.stp.sim hO hfit hat).1
        refine does_wp hd fun v w' ⟨C',hw',hst,hv⟩=>?_
        subst hw'
        exact hK _ _ _ (inv.plain ho hao pd hnd hst hv (hvia v) (hHsame _ rfl hwr))
      | true =>
        have hH:=hheap hwr
        have hd:=(op_ok hC hιC (hH ▸ inv.stp.sim) hO hfit h1).1
        rw [← hsv,← hH] at hd
        refine does_wp hd fun v w' ⟨C',hw',hst,hv⟩=>?_
        subst hw'
        exact hK _ _ _ (inv.plain ho hao pd hnd hst hv (hvia v) ⟨i + 1,by omega,rfl,hset hwr⟩)
    · have hwf:Region.wanted o (yielded ops.toArray a.tmps) = false:=by
        rcases hguard with h | h
        · rw [hw] at h; exact (Option.some.inj h).symm
        · rw [hw] at h; cases h
      rw [hwf]
      simp only [Bool.false_eq_true,if_false]
      have hsv:(hs (i + 1)).heap = (hs i).heap:=by rw [h2]; cases ao.dst <;> rfl
      refine hK _ _ _ (inv.plain ho hao pd hnd (Step.refl inv.stp.sim) (by rw [hx]; exact nothing_ok C) (hvia _) ?_)
      cases hwr:(clsOf k.pureF ao.op).wr with
      | true =>
        refine ⟨i + 1,by omega,by rw [hsv]; exact hheap hwr,fun j b hb hwj=>?_⟩
        constructor
        · intro h
          by_cases hji:j = i
          · omega
          · have hSj:S j = true:=by simpa [hji] using h
            by_cases hlt:i ≤ j
            · rw [hafter j b hb (.inr ⟨hwj,hwr⟩) hlt] at hSj; cases hSj
            · omega
        · intro h
          by_cases hji:j = i
          · simp [hji]
          · simp [hbefore j b hb (.inr ⟨hwj,hwr⟩) (by omega)]
      | false=>exact hHsame _ rfl hwr
  · -- an operation on a cell
    have hwr:(clsOf k.pureF ao.op).wr = false:=by
      unfold cellFits at hfit
      split at hfit <;> first | (rename_i e1 e2; rw [e2]; rfl) | cases hfit
    have hhs:=hHsame _ rfl hwr
    have hunw:∀ (pd:PD k o ao),wants (Lf.take i) ao.guard = some false → Lf.getD i .u = nothing → Region.wanted o (yielded ops.toArray a.tmps) = false → K (a.put o.dst undef) C.w:=by
      intro pd hw hx hwf
      exact hK _ _ _ (inv.plain ho hao pd hnd (Step.refl inv.stp.sim) (by rw [hx]; exact nothing_ok C) (fun _ _ _ _ _ _ _ _ h=>by rw [hw] at h; cases h) hhs)
    have hwant:∀ b,wants (Lf.take i) ao.guard = some b → Region.wanted o (yielded ops.toArray a.tmps) = b:=by
      intro b hw
      rcases hguard with h | h
      · rw [hw] at h; exact (Option.some.inj h).symm
      · rw [hw] at h; cases h
    unfold cellFits at hfit
    split at hfit
    · -- a new variable
      rename_i ty z eo ea
      split at hfit
      · rename_i t q ed eq
        simp only [Bool.and_eq_true,Nat.blt_eq] at hfit
        obtain ⟨⟨⟨⟨h1,h2⟩,h3⟩,h4⟩,h5⟩:=hfit
        have htl:t < a.tmps.size:=by rw [inv.size]; exact h2
        have hnf:∀ sty x f,o.op ≠ .fieldAddr sty x f:=fun _ _ _ e=>by rw [eo] at e; cases e
        rcases htr with ⟨hw,s1,g1,g2⟩ | ⟨hw,hx,g2⟩
        · rw [if_pos (hwant true hw)]
          left
          rw [ea] at g1
          unfold aop at g1
          obtain ⟨g1,_⟩:=ret_inv g1
          unfold doCn at g1
          split at g1
          · cases g1
            obtain ⟨zv,z1,z2,z3⟩:=zeroOk_inv h3
            obtain ⟨C',r1,r2,r3,r4⟩:=cn_ok (P:=k.P) inv.stp.sim inv.be hent z1 z2 z3
            have hd:Does k.P (execOp a.eval o) C.w (fun v w'=>v = .pointer (some ⟨C.w.heap.size,0,none⟩) ∧ w' = C'.w):=by
              simp only [execOp,eo]
              exact does_v r1 ⟨rfl,rfl⟩
            refine does_wp hd fun v w' ⟨hv,hw'⟩=>?_
            subst hv; subst hw'
            refine hK _ C' H (inv.wrote hnds ho hao h1 eq (.inl ed) (fun _=>h2) hnd hnf (hwriter q h4) r2 ?_ (fun q' t' hq' _=>(inv.cell q' t' hq').step r3) (fun _ q' t' hq' _ hk'=>?_) (fun _=>hviaNo t h5) hhs)
            · rw [put_getD,if_pos ⟨ed,htl⟩]; exact r4
            · rw [put_getD,if_pos ⟨ed,htl⟩]
              rcases inv.cell q' t' hq' with h | ⟨b',c',e',q1,q2,_⟩
              · rw [hk'] at h; cases h
              · rw [q1]
                intro e
                cases e
                exact Nat.lt_irrefl _ (lt_of_heap q2)
          · cases g1
        · rw [hwant false hw]
          simp only [Bool.false_eq_true,if_false]
          refine hK _ C H (inv.wrote hnds ho hao h1 eq (.inl ed) (fun _=>h2) hnd hnf (hwriter q h4) (Step.refl inv.stp.sim) (by rw [hx]; exact .inl rfl) (fun q' t' hq' _=>inv.cell q' t' hq') (fun hk=>by rw [hx] at hk; cases hk) (fun _=>hviaNo t h5) hhs)
      · cases hfit
    · -- a new variable with a value
      rename_i ty x y eo ea
      split at hfit
      · rename_i t q ed eq
        simp only [Bool.and_eq_true,Nat.blt_eq] at hfit
        obtain ⟨⟨⟨⟨h1,h2⟩,h3⟩,h4⟩,h5⟩:=hfit
        have htl:t < a.tmps.size:=by rw [inv.size]; exact h2
        have hnf:∀ sty x f,o.op ≠ .fieldAddr sty x f:=fun _ _ _ e=>by rw [eo] at e; cases e
        rcases htr with ⟨hw,s1,g1,g2⟩ | ⟨hw,hx,g2⟩
        · rw [if_pos (hwant true hw)]
          left
          rw [ea] at g1
          unfold aop at g1
          obtain ⟨g1,_⟩:=ret_inv g1
          · obtain ⟨C',r1,r2,r3,r4⟩:=cb_ok (P:=k.P) (e:=ty) inv.stp.sim inv.be hent (hO x y h3) g1
            have hd:Does k.P (execOp a.eval o) C.w (fun v w'=>v = .pointer (some ⟨C.w.heap.size,0,none⟩) ∧ w' = C'.w):=by
              simp only [execOp,eo]
              exact does_v r1 ⟨rfl,rfl⟩
            refine does_wp hd fun v w' ⟨hv,hw'⟩=>?_
            subst hv; subst hw'
            refine hK _ C' H (inv.wrote hnds ho hao h1 eq (.inl ed) (fun _=>h2) hnd hnf (hwriter q h4) r2 ?_ (fun q' t' hq' _=>(inv.cell q' t' hq').step r3) (fun _ q' t' hq' _ hk'=>?_) (fun _=>hviaNo t h5) hhs)
            · rw [put_getD,if_pos ⟨ed,htl⟩]; exact r4
            · rw [put_getD,if_pos ⟨ed,htl⟩]
              rcases inv.cell q' t' hq' with h | ⟨b',c',e',q1,q2,_⟩
              · rw [hk'] at h; cases h
              · rw [q1]
                intro e
                cases e
                exact Nat.lt_irrefl _ (lt_of_heap q2)
        · rw [hwant false hw]
          simp only [Bool.false_eq_true,if_false]
          refine hK _ C H (inv.wrote hnds ho hao h1 eq (.inl ed) (fun _=>h2) hnd hnf (hwriter q h4) (Step.refl inv.stp.sim) (by rw [hx]; exact .inl rfl) (fun q' t' hq' _=>inv.cell q' t' hq') (fun hk=>by rw [hx] at hk; cases hk) (fun _=>hviaNo t h5) hhs)
      · cases hfit
    · -- a store
      rename_i ty t x sz c y eo ea
      split at hfit
      · rename_i q ed eq
        simp only [Bool.and_eq_true,beq_iff_eq] at hfit
        obtain ⟨⟨⟨⟨h1,h2⟩,h3⟩,h4⟩,h5⟩:=hfit
        have hnf:∀ sty x f,o.op ≠ .fieldAddr sty x f:=fun _ _ _ e=>by rw [eo] at e; cases e
        have hput:∀ v,a.put o.dst v = a:=fun v=>by rw [ed]; rfl
        rcases htr with ⟨hw,s1,g1,g2⟩ | ⟨hw,hx,g2⟩
        · rw [if_pos (hwant true hw)]
          left
          rw [ea] at g1
          unfold aop at g1
          obtain ⟨g1,_⟩:=ret_inv g1
          rw [hcur q c h4] at g1
          have hck:(cur aops Lf (hs 0).vars S q aops.length).known = true:=by
            unfold doCs at g1
            split at g1
            · rename_i hh; exact hh.1
            · cases g1
          obtain ⟨C',r1,r2,r3,r4⟩:=cs_ok (P:=k.P) inv.stp.sim h2 (inv.cell q t h1) (hO x y h3) g1
          have hd:Does k.P (execOp a.eval o) C.w (fun v w'=>w' = C'.w):=by
            simp only [execOp,eo]
            exact does_u r1 rfl
          refine does_wp hd fun v w' hw'=>?_
          subst hw'
          refine hK _ C' H (inv.wrote hnds ho hao h1 eq (.inr ed) (fun e=>by rw [ed] at e; cases e) hnd hnf (hwriter q h5) r2 (by rw [hput]; exact r3) (fun q' t' hq' hne=>?_) (fun _ q' t' hq' hne hk'=>?_) (fun e=>by rw [ed] at e; cases e) hhs)
          · cases hk':(cur aops Lf (hs 0).vars S q' aops.length).known with
            | false=>exact .inl hk'
            | true=>exact r4 _ _ (inv.cell q' t' hq') (inv.dist q' q t' t hq' h1 hne hk' hck)
          · rw [hput]; exact inv.dist q' q t' t hq' h1 hne hk' hck
        · rw [hwant false hw]
          simp only [Bool.false_eq_true,if_false]
          refine hK _ C H (inv.wrote hnds ho hao h1 eq (.inr ed) (fun e=>by rw [ed] at e; cases e) hnd hnf (hwriter q h5) (Step.refl inv.stp.sim) (by rw [hx]; exact .inl rfl) (fun q' t' hq' _=>inv.cell q' t' hq') (fun hk=>by rw [hx] at hk; cases hk) (fun e=>by rw [ed] at e; cases e) hhs)
      · cases hfit
    · -- a load
      rename_i ty t ag sz y eo ea
      split at hfit
      · rename_i q hq
        simp only [Bool.and_eq_true,beq_iff_eq] at hfit
        obtain ⟨⟨⟨⟨h1,h2⟩,h3⟩,h4⟩,h5⟩:=hfit
        have pd:=plainDst_pd hnds h5
        rcases htr with ⟨hw,s1,g1,g2⟩ | ⟨hw,hx,g2⟩
        · rw [if_pos (hwant true hw)]
          left
          rw [ea] at g1
          unfold aop at g1
          obtain ⟨g1,_⟩:=ret_inv g1
          rw [hcur q y h4] at g1
          obtain ⟨u,r1,r2⟩:=cl_ok (P:=k.P) h2 h3 (inv.cell q t h1) g1
          have hd:Does k.P (execOp a.eval o) C.w (fun v w'=>v = u ∧ w' = C.w):=by
            simp only [execOp,eo]
            exact does_v r1 ⟨rfl,rfl⟩
          refine does_wp hd fun v w' ⟨hv,hw'⟩=>?_
          subst hv; subst hw'
          exact hK _ C H (inv.plain ho hao pd hnd (Step.refl inv.stp.sim) r2 (fun _ _ _ _ _ e=>by rw [eo] at e; cases e) hhs)
        · rw [hwant false hw]
          simp only [Bool.false_eq_true,if_false]
          exact hunw pd hw hx (hwant false hw)
      · cases hfit
    · -- a field's address
      rename_i sty t f y eo ea
      split at hfit
      · rename_i q hq
        simp only [Bool.and_eq_true] at hfit
        obtain ⟨⟨⟨h1,h2⟩,h3⟩,h4⟩:=hfit
        have pd:=plainDst_pd hnds h3
        rcases htr with ⟨hw,s1,g1,g2⟩ | ⟨hw,hx,g2⟩
        · rw [if_pos (hwant true hw)]
          left
          rw [ea] at g1
          unfold aop at g1
          obtain ⟨g1,_⟩:=ret_inv g1
          rw [hcur q y h2] at g1
          unfold doCa at g1
          split at g1
          · rename_i hk
            have hxu:=Option.some.inj g1
            split at h4
            · rename_i fl hfl
              have hz:∃ n,sizeB k.P fl.type = some n ∧ n ≠ 0:=by
                split at h4
                · rename_i n hn; exact ⟨n,hn,by simpa using h4⟩
                · cases h4
              rcases inv.cell q t h1 with h | ⟨b',c',e',q1,q2,_⟩
              · rw [hk] at h; cases h
              · have r1:=ca_ok hfl hz b' 0 C.w
                rw [Nat.zero_add] at r1
                have hd:Does k.P (execOp a.eval o) C.w (fun v w'=>v = .pointer (some ⟨b',fl.offset,none⟩) ∧ w' = C.w):=by
                  simp only [execOp,eo,Act.eval,q1]
                  exact does_v r1 ⟨rfl,rfl⟩
                refine does_wp hd fun v w' ⟨hv,hw'⟩=>?_
                subst hv; subst hw'
                refine hK _ C H (inv.plain ho hao pd hnd (Step.refl inv.stp.sim) (by rw [← hxu]; exact .inl (.inl rfl)) (fun sty' t' f' d q' e1 _ e3 _=>?_) hhs)
                rw [eo] at e1
                cases e1
                exact ⟨b',fl,q1,hfl,rfl⟩
            · cases h4
          · cases g1
        · rw [hwant false hw]
          simp only [Bool.false_eq_true,if_false]
          exact hunw pd hw hx (hwant false hw)
      · cases hfit
    · -- a load of a field
      rename_i ty d f off ag sz y eo ea
      simp only [Bool.and_eq_true] at hfit
      obtain ⟨h1,h2⟩:=hfit
      have pd:=plainDst_pd hnds h2
      obtain ⟨n,o2,sty,t,q,b,v1,v2,v3,v4,v5,v6,v7,v8,v9,v10,v11⟩:=viaFits_get h1
      rw [Nat.zero_add] at v5 v10
      rcases htr with ⟨hw,s1,g1,g2⟩ | ⟨hw,hx,g2⟩
      · rw [if_pos (hwant true hw)]
        left
        rw [ea] at g1
        unfold aop at g1
        obtain ⟨g1,_⟩:=ret_inv g1
        rw [hcur q y v9] at g1
        obtain ⟨hSn,hni⟩:=hpre n v5
        have hwn:wants (Lf.take n) b.guard = some true:=by
          rcases v11 with v11 | v11
          · rw [v11]; rfl
          · have hgn:=(hin n o2 b v1 v10).guard
            rw [v11] at hgn ⊢
            cases hg:ao.guard with
            | none=>rfl
            | some gb =>
              obtain ⟨j0,b0⟩:=gb
              rw [hg] at hgn hw
              have hj0:j0 < n:=by
                unfold guardOk at hgn
                split at hgn
                · rename_i e; cases e
                · rename_i e1 e2
                  cases e2
                  simp only [Bool.and_eq_true,beq_iff_eq] at hgn
                  obtain ⟨⟨⟨rfl,_⟩,hlt⟩,_⟩:=hgn
                  exact hltp n (by have:=(List.getElem?_eq_some_iff.1 v1).1; omega) _ hlt
                · cases hgn
              simp only [wants] at hw ⊢
              have e1:(Lf.take n).getD j0 .u = Lf.getD j0 .u:=by simp [List.getD,hj0]
              have hj0i:j0 < i:=by omega
              have e2:(Lf.take i).getD j0 .u = Lf.getD j0 .u:=by simp [List.getD,hj0i]
              rw [e1]; rw [e2] at hw; exact hw
        obtain ⟨bl,fl,q1,q2,q3⟩:=inv.via n o2 b sty t f d q hSn v1 v10 v3 v2 v4 hwn
        unfold fieldOk at v6
        rw [q2] at v6
        simp only [Bool.and_eq_true,beq_iff_eq] at v6
        obtain ⟨u,r1,r2⟩:=cf_ok (P:=k.P) v7 v8 (inv.cell q t v4) q1 g1
        have hd:Does k.P (execOp a.eval o) C.w (fun v w'=>v = u ∧ w' = C.w):=by
          simp only [execOp,eo,Act.eval,q3,v6.1.1]
          exact does_v r1 ⟨rfl,rfl⟩
        refine does_wp hd fun v w' ⟨hv,hw'⟩=>?_
        subst hv; subst hw'
        exact hK _ C H (inv.plain ho hao pd hnd (Step.refl inv.stp.sim) r2 (fun _ _ _ _ _ e=>by rw [eo] at e; cases e) hhs)
      · rw [hwant false hw]
        simp only [Bool.false_eq_true,if_false]
        exact hunw pd hw hx (hwant false hw)
    · cases hfit
end Tor
namespace Tor
open Go Go.RowKit
theorem dstSlot {k:Ck} (hnds:nodupB (k.slots ++ k.cells) = true) {ops aops p i o a} (h:opFits k ops aops p i o a = true) {q:Nat} {t:Tmp} (hd:o.dst = some t) (hq:k.slots[q]? = some t):a.dst = some q:=by
  have key:PD k o a → a.dst = some q:=by
    intro pd
    cases hda:a.dst with
    | none =>
      have:=pd.none t hd hda
      have h2:=List.mem_of_getElem? hq
      simp [h2] at this
    | some q' =>
      obtain ⟨t',h1,h2⟩:=pd.adst q' hda
      rw [hd] at h1; cases h1
      rw [slot_inj hnds h2 hq]
  rcases opFits_cases h with ⟨_,h⟩ | h
  · exact key (plainDst_pd hnds h)
  · unfold cellFits at h
    split at h
    · split at h
      · rename_i t' q' e1 e2
        rw [hd] at e1; cases e1
        simp only [Bool.and_eq_true] at h
        have:=slot_notCell hnds hq
        rw [cell_mem h.1.1.1.1] at this; cases this
      · cases h
    · split at h
      · rename_i t' q' e1 e2
        rw [hd] at e1; cases e1
        simp only [Bool.and_eq_true] at h
        have:=slot_notCell hnds hq
        rw [cell_mem h.1.1.1.1] at this; cases this
      · cases h
    · split at h
      · rename_i e1 _
        rw [hd] at e1; cases e1
      · cases h
    · split at h
      · simp only [Bool.and_eq_true] at h; exact key (plainDst_pd hnds h.2)
      · cases h
    · split at h
      · simp only [Bool.and_eq_true] at h; exact key (plainDst_pd hnds h.1.2)
      · cases h
    · simp only [Bool.and_eq_true] at h; exact key (plainDst_pd hnds h.2)
    · cases h
section
variable {k:Ck} {CF:CallF} {base ent:Nat} {C:Cx} {H0:Heap} {ops:List Oper} {aops:List AOper} {Lf:List AV} {hs:Nat → St} {p:Prec}
theorem RInv.start {st:St} {a:Act} (h0:hs 0 = st) (hsim:Sim base C st.heap) (hv:VOk k base ent C st.heap st.vars a):RInv k base ent C st.heap C ops aops Lf hs (fun _=>false) st.heap a:=by
  have hc:∀ q,cur aops Lf (hs 0).vars (fun _=>false) q aops.length = st.vars.getD q .u:=fun q=>by rw [cur_none _ (fun _ _ _ _ _=>rfl),h0]
  exact ⟨Step.refl hsim,⟨0,Nat.zero_le _,by rw [h0],fun j b _ _=>by simp⟩,fun j o t h=>(by cases h),fun q t hq _=>by rw [h0]; exact hv.rel q t hq,hv.size,hv.defers,
    fun q t hq=>by rw [hc]; exact hv.cell q t hq,fun q q' t t' hq hq' hne h1 h2=>by rw [hc] at h1 h2; exact hv.dist q q' t t' hq hq' hne h1 h2,fun j o b sty t f d q h=>(by cases h),hv.be,hv.es⟩
theorem cur_full {CF:CallF} (tr:∀ i o,aops[i]? = some o → stepAt CF o (Lf.take i) (hs i) (Lf.getD i .u) (hs (i + 1))) {S:Nat → Bool} (q:Nat) (hq:q < (hs 0).vars.length):∀ n,n ≤ aops.length → (∀ j,j < n → S j = true) → cur aops Lf (hs 0).vars S q n = (hs n).vars.getD q .u
  | 0,_,_=>rfl
  | n + 1,hn,hS=>by
    have ih:=cur_full tr q hq n (by omega) fun j hj=>hS j (by omega)
    have ho:aops[n]? = some aops[n]:=List.getElem?_eq_getElem (by omega)
    have hst:=tr n _ ho
    have hl:=(trace_vars tr q n (by omega)).1
    have hv:(hs (n + 1)).vars = match (aops[n]).dst with | some k=>(hs n).vars.set k (Lf.getD n .u) | none=>(hs n).vars:=by
      rcases hst with ⟨_,s1,a1,a2⟩ | ⟨_,a1,a2⟩
      · rw [a2,setVar_vars,aop_vars a1]; cases (aops[n]).dst <;> rfl
      · rw [a2,setVar_vars,a1]; cases (aops[n]).dst <;> rfl
    simp only [cur,ho]
    rw [hv]
    cases hd:(aops[n]).dst with
    | none=>simpa using ih
    | some k' =>
      by_cases hk:k' = q
      · subst hk
        rw [if_pos ⟨hS n (by omega),by simp⟩]
        simp [List.getD,hl,hq]
      · rw [if_neg (by rintro ⟨_,h⟩; simp at h; exact hk h),ih]
        simp [List.getD,hk]
theorem RInv.final {C':Cx} {S:Nat → Bool} {H:Heap} {a:Act} {st':St} (hnds:nodupB (k.slots ++ k.cells) = true) (hlen:ops.length = aops.length) (hp:PureC k.pureF CF)
    (tr:∀ i o,aops[i]? = some o → stepAt CF o (Lf.take i) (hs i) (Lf.getD i .u) (hs (i + 1)))
    (hin:∀ i o a,ops[i]? = some o → aops[i]? = some a → OpIn k ops aops p i o a) (hnd:dstsNodup ops = true) (h1:hs aops.length = st') (hl0:(hs 0).vars.length = k.slots.length + k.cells.length)
    (inv:RInv k base ent C H0 C' ops aops Lf hs S H a) (hS:∀ j,j < ops.length → S j = true):Step base ent C H0 C' st'.heap ∧ VOk k base ent C' st'.heap st'.vars a:=by
  obtain ⟨m,hm1,hm2,hm3⟩:=inv.hinv
  have hH:H = st'.heap:=by
    rw [hm2,← h1]
    have:=heap_const hp tr m (aops.length - m) (by omega) fun j b h1 h2 hb=>by
      cases hw:(clsOf k.pureF b.op).wr with
      | false=>rfl
      | true =>
        have:=(hm3 j b hb hw).1 (hS j (by rw [hlen]; exact (List.getElem?_eq_some_iff.1 hb).1))
        omega
    rw [show m + (aops.length - m) = aops.length by omega] at this
    exact this.symm
  have htv:=fun q=>trace_vars tr q aops.length (Nat.le_refl _)
  have hcv:∀ q t,k.cellIs q t = true → cur aops Lf (hs 0).vars S q aops.length = st'.vars.getD q .u:=by
    intro q t hq
    rw [cur_full tr q _ _ (Nat.le_refl _) fun j hj=>hS j (by omega),h1]
    obtain ⟨c1,c2⟩:=cellIs_iff hq
    have:=(List.getElem?_eq_some_iff.1 c2).1
    omega
  rw [← hH]
  refine ⟨inv.stp,⟨fun q t hq=>?_,inv.size,inv.defers,by rw [← h1,(htv 0).1,hl0],fun q t hq=>by rw [← hcv q t hq]; exact inv.cell q t hq,
    fun q q' t t' hq hq' hne k1 k2=>by rw [← hcv q t hq] at k1; rw [← hcv q' t' hq'] at k2; exact inv.dist q q' t t' hq hq' hne k1 k2,inv.be,Nat.le_trans inv.es inv.stp.below.4⟩⟩
  have hqs:q < k.slots.length:=(List.getElem?_eq_some_iff.1 hq).1
  have hql:q < (hs 0).vars.length:=by rw [hl0]; omega
  have hdst:∀ (j:Nat) (ao:AOper),aops[j]? = some ao → ao.dst = some q → ∃ o:Oper,ops[j]? = some o ∧ o.dst = some t:=by
    intro j ao hao hd
    have hjl:j < ops.length:=by rw [hlen]; exact (List.getElem?_eq_some_iff.1 hao).1
    have hoj:ops[j]? = some ops[j]:=List.getElem?_eq_getElem hjl
    obtain ⟨t',h2,h3⟩:=slotDst hnds (hin j _ ao hoj hao).op hd hqs
    rw [hq] at h3; cases h3
    exact ⟨_,hoj,h2⟩
  by_cases hex:∃ (j:Nat) (o:Oper),ops[j]? = some o ∧ o.dst = some t
  · obtain ⟨j,o,ho,hd⟩:=hex
    have hjl:j < ops.length:=(List.getElem?_eq_some_iff.1 ho).1
    have haj:aops[j]? = some aops[j]:=List.getElem?_eq_getElem (by omega)
    have hnc:=slot_notCell hnds hq
    have hdq:aops[j].dst = some q:=dstSlot hnds (hin j o _ ho haj).op hd hq
    have:=(htv q).2.2 j _ (by omega) haj hdq hql fun j' ao' hj' _ hao' hd'=>by
      obtain ⟨o',ho',hdo'⟩:=hdst j' ao' hao' hd'
      have:=dstsNodup_get hnd j j' o o' t ho ho' hd hdo'
      omega
    rw [← h1,this]
    exact inv.tmp j o t (hS j hjl) ho hd hnc
  · have:=(htv q).2.1 fun j ao hj hao hd=>by
      obtain ⟨o,ho,hdo⟩:=hdst j ao hao hd
      exact hex ⟨j,o,ho,hdo⟩
    rw [← h1,this]
    exact inv.slot q t hq fun j o _ ho hd=>hex ⟨j,o,ho,hd⟩
theorem text_ok {Q:Exit → Act → World → Prop} (hC:SoundC k.P k.ι CF) (hp:PureC k.pureF CF) (hι:C.ι = k.ι) (hlen:ops.length = aops.length)
    (tr:∀ i o,aops[i]? = some o → stepAt CF o (Lf.take i) (hs i) (Lf.getD i .u) (hs (i + 1)))
    (hin:∀ i o a,ops[i]? = some o → aops[i]? = some a → OpIn k ops aops ⟨false,[]⟩ i o a) (hnd:dstsNodup ops = true) (hnds:nodupB (k.slots ++ k.cells) = true)
    (hQ:∀ a' C' H S,RInv k base ent C H0 C' ops aops Lf hs S H a' → (∀ j,j < ops.length → S j = true) → Q .normal a' C'.w) :
    ∀ d m a C' H,d + m = ops.length → RInv k base ent C H0 C' ops aops Lf hs (fun j=>decide (j < m)) H a → wpOps k.P ops.toArray Q (List.range' m d) a C'.w:=by
  intro d
  induction d with
  | zero =>
    intro m a C' H hm inv
    exact hQ _ _ _ _ inv fun j hj=>by simp; omega
  | succ d ih =>
    intro m a C' H hm inv
    rw [List.range'_succ,wpOps_cons]
    refine region_step hC hp hι hlen tr hin hnd hnds inv (by omega) (by simp) ?_ ?_ ?_ fun a' C'' H' inv'=>ih (m + 1) a' C'' H' (by omega) ?_
    · intro j hj
      simp only [Prec.lt,Bool.false_eq_true,if_false,Nat.blt_eq] at hj
      exact ⟨by simpa using hj,hj⟩
    · intro j hj _ j' hj'
      simp only [Prec.lt,Bool.false_eq_true,if_false,Nat.blt_eq] at hj'
      simp only [decide_eq_true_eq] at hj ⊢
      omega
    · intro j _ j' hj'
      simpa only [Prec.lt,Bool.false_eq_true,if_false,Nat.blt_eq] using hj'
    · have:(fun j=>j == m || decide (j < m)) = fun j=>decide (j < m + 1):=by
        funext j
        by_cases h:j = m
        · subst h; simp
        · have:(j == m) = false:=by simpa using h
          rw [this,Bool.false_or]
          by_cases h':j < m <;> simp [h'] <;> omega
      rw [← this]; exact inv'
theorem ready_iff {ops:List Oper} {listed:Array Bool} (hsz:listed.size = ops.length) (j:Nat) :
    j ∈ Region.ready .any ops.toArray listed ↔ ∃ o,ops[j]? = some o ∧ listed.getD j false = false ∧ ∀ e ∈ edgesOf o,listed.getD e false = true:=by
  rw [mem_ready]
  have hgd:j < ops.length → listed.getD j true = listed.getD j false:=by
    intro hj
    have hlt:j < listed.size:=by omega
    simp [Array.getD_eq_getD_getElem?,hlt]
  have key:∀ o:Oper,(∀ e ∈ o.after,Region.binds .any e = true → listed.getD e.on false = true) ↔ ∀ e ∈ edgesOf o,listed.getD e false = true:=by
    intro o
    simp only [edgesOf,List.mem_map,List.mem_filter,Array.mem_toList_iff]
    constructor
    · rintro h e ⟨x,⟨hx,hb⟩,rfl⟩; exact h x hx hb
    · intro h x hx hb; exact h _ ⟨x,⟨hx,hb⟩,rfl⟩
  constructor
  · rintro ⟨h1,o,ho,h2⟩
    have ho':ops[j]? = some o:=by simpa using ho
    exact ⟨o,ho',(hgd (List.getElem?_eq_some_iff.1 ho').1) ▸ h1,(key o).1 h2⟩
  · rintro ⟨o,ho,h1,h2⟩
    exact ⟨(hgd (List.getElem?_eq_some_iff.1 ho).1).trans h1,o,by simpa using ho,(key o).2 h2⟩
def cnt (S:Nat → Bool):Nat → Nat
  | 0=>0
  | n + 1=>cnt S n + if S n then 0 else 1
theorem cnt_zero {S:Nat → Bool}:∀ n,cnt S n = 0 → ∀ j,j < n → S j = true
  | 0,_,j,h=>by omega
  | n + 1,h,j,hj=>by
    simp only [cnt] at h
    have h1:cnt S n = 0:=by omega
    have h2:S n = true:=by
      cases hS:S n with
      | true=>rfl
      | false=>rw [hS] at h; simp at h
    by_cases hjn:j = n
    · subst hjn; exact h2
    · exact cnt_zero n h1 j (by omega)
theorem cnt_put {S:Nat → Bool} {i:Nat} (hi:S i = false):∀ n,cnt (fun j=>j == i || S j) n + (if i < n then 1 else 0) = cnt S n
  | 0=>by simp [cnt]
  | n + 1=>by
    have ih:=cnt_put hi n
    simp only [cnt]
    by_cases hin:i = n
    · subst hin
      simp only [beq_self_eq_true,Bool.true_or,if_true,hi]
      have:¬ i < i:=Nat.lt_irrefl i
      rw [if_neg this] at ih
      simp; omega
    · have hb:(n == i) = false:=by simpa using fun e=>hin e.symm
      simp only [hb,Bool.false_or]
      by_cases hlt:i < n
      · have hlt':i < n + 1:=by omega
        simp only [hlt,hlt',if_true] at ih ⊢
        omega
      · have hlt':¬ i < n + 1:=by omega
        simp only [hlt,hlt',if_false] at ih ⊢
        omega
theorem draw_ok {Q:Exit → Act → World → Prop} {ms:List Nat} (hC:SoundC k.P k.ι CF) (hp:PureC k.pureF CF) (hι:C.ι = k.ι) (hlen:ops.length = aops.length)
    (tr:∀ i o,aops[i]? = some o → stepAt CF o (Lf.take i) (hs i) (Lf.getD i .u) (hs (i + 1)))
    (hin:∀ i o a,ops[i]? = some o → aops[i]? = some a → OpIn k ops aops ⟨true,ms⟩ i o a) (hnd:dstsNodup ops = true) (hnds:nodupB (k.slots ++ k.cells) = true) (hms:masksOk ms 0 ops = true)
    (hQ:∀ a' C' H S,RInv k base ent C H0 C' ops aops Lf hs S H a' → (∀ j,j < ops.length → S j = true) → Q .normal a' C'.w) :
    ∀ fuel (listed:Array Bool) (S:Nat → Bool) a C' H,listed.size = ops.length → (∀ j,listed.getD j false = S j) → cnt S ops.length ≤ fuel → Closed ops S →
      RInv k base ent C H0 C' ops aops Lf hs S H a → wpAny k.P .any ops.toArray Q fuel listed a C'.w:=by
  intro fuel
  induction fuel with
  | zero =>
    intro listed S a C' H hsz hS hf hcl inv
    have hall:=cnt_zero (S:=S) ops.length (by omega)
    refine ⟨?_,hQ _ _ _ _ inv hall⟩
    apply List.eq_nil_iff_forall_not_mem.2
    intro j hj
    obtain ⟨o,ho,h1,_⟩:=(ready_iff hsz j).1 hj
    rw [hS,hall j (List.getElem?_eq_some_iff.1 ho).1] at h1; cases h1
  | succ fuel ih =>
    intro listed S a C' H hsz hS hf hcl inv
    refine ⟨fun hr=>?_,fun i hi=>?_⟩
    · refine hQ _ _ _ _ inv fun j=>?_
      induction j using Nat.strongRecOn with
      | _ j ihj =>
        intro hj
        cases hSj:S j with
        | true=>rfl
        | false =>
          have hoj:ops[j]? = some ops[j]:=List.getElem?_eq_getElem hj
          have:j ∈ Region.ready .any ops.toArray listed:=by
            refine (ready_iff hsz j).2 ⟨_,hoj,by rw [hS]; exact hSj,fun e he=>?_⟩
            have hlt:=(masksOk_get hms j _ hoj).2 e he
            rw [Nat.zero_add] at hlt
            rw [hS]; exact ihj e hlt (by omega)
          rw [hr] at this; cases this
    · obtain ⟨o,hoi,hiS,hie⟩:=(ready_iff hsz i).1 hi
      have hil:i < ops.length:=(List.getElem?_eq_some_iff.1 hoi).1
      rw [hS] at hiS
      have hie:∀ e ∈ edgesOf o,S e = true:=fun e he=>by rw [← hS]; exact hie e he
      have hltp:∀ j,j < ops.length → ∀ j',(⟨true,ms⟩:Prec).lt j' j = true → j' < j:=by
        intro j hj j' hlt
        have hoj:ops[j]? = some ops[j]:=List.getElem?_eq_getElem hj
        exact (mask_in hms (S:=fun _=>true) (fun _ _ _ _ _ _=>rfl) j j _ (Nat.le_refl _) hoj (fun _ _=>rfl) j' (by simpa [Prec.lt] using hlt)).2
      refine region_step hC hp hι hlen tr hin hnd hnds inv hil hiS ?_ ?_ hltp fun a' C'' H' inv'=>ih _ (fun j=>j == i || S j) a' C'' H' (by simpa using hsz) ?_ ?_ ?_ inv'
      · intro j hj
        exact mask_in hms hcl i i _ (Nat.le_refl _) hoi hie j (by simpa [Prec.lt] using hj)
      · intro j hSj hjl j' hj'
        have hoj:ops[j]? = some ops[j]:=List.getElem?_eq_getElem hjl
        exact mask_in hms hcl j j _ (Nat.le_refl _) hoj (hcl j _ hSj hoj) j' (by simpa [Prec.lt] using hj')
      · intro j
        by_cases hji:j = i
        · subst hji
          have:j < listed.size:=by omega
          simp [Array.getD_eq_getD_getElem?,this]
        · rw [getD_set_ne false (fun e=>hji e.symm),hS]
          have:(j == i) = false:=by simpa using hji
          rw [this,Bool.false_or]
      · have:=cnt_put hiS ops.length
        rw [if_pos hil] at this
        omega
      · intro j oj hSj hoj e he
        simp only [Bool.or_eq_true,beq_iff_eq] at hSj ⊢
        rcases hSj with rfl | hSj
        · rw [hoi] at hoj; cases hoj; exact .inr (hie e he)
        · exact .inr (hcl j oj hSj hoj e he)
end
theorem Sim.redrawn {base ent:Nat} {C:Cx} {H:Heap} (hs:Sim base C H) (d:Nat) (he:ent ≤ C.w.heap.size):Step base ent C H { C with w:={ C.w with drawn:=d } } H :=
  grow_step hs (w':={ C.w with drawn:=d }) ⟨rfl,rfl,rfl,Nat.le_refl _,fun _ _=>rfl⟩ he
theorem VOk.step {k:Ck} {base ent:Nat} {C C':Cx} {H:Heap} {vars:List AV} {a:Act} (h:VOk k base ent C H vars a) (hst:OStep base C H C' H):VOk k base ent C' H vars a :=
  ⟨fun j t hj=>Rv_le hst.le (h.rel j t hj),h.size,h.defers,h.len,fun q t hq=>(h.cell q t hq).step hst,h.dist,h.be,Nat.le_trans h.es hst.below.4⟩
theorem region_ok {k:Ck} {CF:CallF} {base ent:Nat} {C:Cx} {ops:List Oper} {aops:List AOper} {draw:Bool} {st st':St} {a:Act} {id:Nat} {Q:Exit → Act → World → Prop}
    (hC:SoundC k.P k.ι CF) (hp:PureC k.pureF CF) (hι:C.ι = k.ι) (hnds:nodupB (k.slots ++ k.cells) = true) (hok:regionOk k ops draw aops = true)
    (h:evalOps CF aops [] st = some st') (hsim:Sim base C st.heap) (hv:VOk k base ent C st.heap st.vars a)
    (hQ:∀ a' C',Step base ent C st.heap C' st'.heap → VOk k base ent C' st'.heap st'.vars a' → Q .normal a' C'.w):(Code.region id ops.toArray draw).wp k.P Q a C.w:=by
  unfold regionOk at hok
  simp only [Bool.and_eq_true] at hok
  obtain ⟨⟨hdr,hnd⟩,hin⟩:=hok
  obtain ⟨hlen,hin⟩:=opsIn_get hin
  obtain ⟨Lf,hs,h0,h1,_,_,tr⟩:=evalOps_trace CF aops [] st st' h
  simp only [List.length_nil,Nat.zero_add] at tr hin
  have hl0:(hs 0).vars.length = k.slots.length + k.cells.length:=by rw [h0]; exact hv.len
  cases draw with
  | false =>
    refine wp_region ?_
    rw [List.size_toArray,List.range_eq_range']
    refine text_ok hC hp hι hlen tr hin hnd hnds (fun a' C' H S inv hS=>?_) ops.length 0 a C st.heap (by omega) (by simpa using RInv.start h0 hsim hv)
    obtain ⟨e1,e2⟩:=inv.final hnds hlen hp tr hin hnd h1 hl0 hS
    exact hQ a' C' e1 e2
  | true =>
    simp only [Bool.not_true,Bool.false_or,Bool.and_eq_true,if_true] at hdr hin
    obtain ⟨⟨hms,hfol⟩,_⟩:=hdr
    refine wp_region_any hfol ?_
    have hst:=hsim.redrawn (C.w.drawn + 1) hv.es
    have hst':=hsim.redrawn (C.w.drawn + 1) (Nat.le_refl C.w.heap.size)
    refine draw_ok (base:=base) (ent:=ent) (C:={ C with w:={ C.w with drawn:=C.w.drawn + 1 } }) hC hp hι hlen tr hin hnd hnds hms (fun a' C' H S inv hS=>?_) _ _ (fun _=>false) a _ st.heap (by simp) (fun j=>?_) ?_ (fun _ _ h=>by cases h) (RInv.start h0 hst.sim (hv.step hst'))
    · obtain ⟨e1,e2⟩:=inv.final hnds hlen hp tr hin hnd h1 hl0 hS
      exact hQ a' C' (hst.trans e1) e2
    · simp only [Array.getD_eq_getD_getElem?,Array.getElem?_replicate]
      split <;> rfl
    · have:∀ n,cnt (fun _=>false) n ≤ n:=by
        intro n
        induction n with
        | zero=>exact Nat.le_refl _
        | succ n ih=>simp only [cnt]; simp; omega
      simpa using this ops.length
end Tor
namespace Tor
open Go Go.RowKit
def opdOut (k:Ck):Operand → AOpd → Bool
  | .tmp t,.v j=>slotIs k.slots j t
  | .const v,.c x=>constOk x v
  | _,_=>false
def codeOk (k:Ck):Code → AIR → Bool
  | .skip,.skip=>true
  | .region _ ops draw,.region aops draw'=>draw == draw' && regionOk k ops.toList draw (aops ())
  | .seq a b,.seq x y=>codeOk k a x && codeOk k b y
  | .cond c a b,.cond c' x y=>opdOut k c c' && codeOk k a x && codeOk k b y
  | .block i a,.block j x=>i == j && codeOk k a x
  | .loop a,.loop _ _ x=>codeOk k a x
  | .exit i,.exit j=>i == j
  | .scope a,.scope x=>codeOk k a x
  | .label _,.label _=>true
  | .ret,.ret=>true
  | _,_=>false
def exOf:Ex → Exit
  | .normal=>.normal
  | .exit j=>.exit j
  | .ret=>.ret
def Post (k:Ck) (base ent:Nat) (C:Cx) (H:Heap) (e:Ex) (st':St) (Q:Exit → Act → World → Prop):Prop :=
  ∀ a' C',Step base ent C H C' st'.heap → VOk k base ent C' st'.heap st'.vars a' → Q (exOf e) a' C'.w
def LW (P:Program) (c:Code) (Q:Exit → Act → World → Prop) (a:Act) (w:World):Prop :=
  ∀ (b:Frame) (k:List Item) (cs:List Frame),∃ e a' w',Q e a' w' ∧ Arrives P (lone (b.at a (.code c :: .inLoop c :: k)) cs w) b k cs e a' w'
theorem LW.loop {P:Program} {c:Code} {Q:Exit → Act → World → Prop} {a:Act} {w:World} (h:LW P c Q a w):(Code.loop c).wp P Q a w:=by
  intro b k cs
  obtain ⟨e,a',w',hq,harr⟩:=h b k cs
  exact ⟨e,a',w',hq,.of_steps (.one step_loop) harr⟩
theorem LW.round {P:Program} {c:Code} {Q:Exit → Act → World → Prop} {a:Act} {w:World} (h:c.wp P (Exit.then (LW P c Q) Q) a w):LW P c Q a w:=by
  intro b k cs
  obtain ⟨e,a₁,w₁,hq,harr⟩:=h b (.inLoop c :: k) cs
  cases e with
  | normal =>
    obtain ⟨e₂,a₂,w₂,hq₂,harr₂⟩:=hq b k cs
    exact ⟨e₂,a₂,w₂,hq₂,.of_steps (Steps.trans harr (.one step_inLoop)) harr₂⟩
  | exit id=>exact ⟨_,a₁,w₁,hq,.pass (x:=.inLoop c) rfl (fun _ _=>.inl (by simp)) harr⟩
  | goto l=>exact ⟨_,a₁,w₁,hq,.pass (x:=.inLoop c) rfl (fun _ _=>.inl (by simp)) harr⟩
  | ret=>exact ⟨_,a₁,w₁,hq,.pass (x:=.inLoop c) rfl (fun _ _=>.inl (by simp)) harr⟩
  | panic ch=>exact ⟨_,a₁,w₁,hq,.pass (x:=.inLoop c) rfl (fun _ _=>.inl (by simp)) harr⟩
  | outgrown=>exact ⟨_,a₁,w₁,hq,.pass (x:=.inLoop c) rfl (fun _ _=>.inl (by simp)) harr⟩
structure RS (k:Ck) (R:AIR → St → Option (Ex × St)):Prop where
  wp:∀ air code st e st',codeOk k code air = true → R air st = some (e,st') → ∀ base ent C a,C.ι = k.ι → Sim base C st.heap → VOk k base ent C st.heap st.vars a →
    ∀ Q,Post k base ent C st.heap e st' Q → code.wp k.P Q a C.w
  loop:∀ gc keep x body st e st',codeOk k body x = true → R (.loop gc keep x) st = some (e,st') → ∀ base ent C a,C.ι = k.ι → Sim base C st.heap → VOk k base ent C st.heap st.vars a →
    ∀ Q,Post k base ent C st.heap e st' Q → LW k.P body Q a C.w
theorem scrubV_length (n0:Nat) (gc:Bool) (keep:List Nat):∀ (l:List AV) (i:Nat),(scrubV n0 gc keep i l).length = l.length
  | [],_=>rfl
  | x :: l,i=>by simp only [scrubV,List.length_cons,scrubV_length n0 gc keep l (i + 1)]
theorem scrubV_get (n0:Nat) (gc:Bool) (keep:List Nat):∀ (l:List AV) (i j:Nat),
    (scrubV n0 gc keep i l).getD j .u = .u ∨ ((scrubV n0 gc keep i l).getD j .u = l.getD j .u ∧ (gc = true → (l.getD j .u).under n0 = true))
  | [],_,_=>.inl rfl
  | x :: l,i,0=>by
    simp only [scrubV,List.getD_cons_zero]
    split
    · split
      · exact .inl rfl
      · rename_i h
        refine .inr ⟨rfl,fun hg=>?_⟩
        subst hg
        simpa using h
    · exact .inl rfl
  | x :: l,i,j + 1=>by
    simp only [scrubV,List.getD_cons_succ]
    exact scrubV_get n0 gc keep l (i + 1) j
theorem Step.dropTo {base ent:Nat} {C C1 C2:Cx} {H H1:Heap} (hs:Sim base C H) (h:Step base ent C H C1 H1) (hu:HUnder H.length H1) (hl:LeU H.length C1 C2) (hw:C2.w = C1.w)
    (hβ:∀ o g,C2.β o g = if o < H.length then C1.β o g else none) (hF:∀ b,C2.F b → C1.F b ∨ ∃ o ob,H.length ≤ o ∧ H1[o]? = some ob ∧ blk C1 o ob = some b) :
    Step base ent C H C2 (H1.take H.length):=by
  have hlt:∀ o g q,C.β o g = some q → o < H.length:=by
    intro o g q h1
    by_cases ho:o < H.length
    · exact ho
    · rw [hs.dom o (by omega) g] at h1; cases h1
  refine ⟨⟨hl.ι.trans h.le.ι,fun b hb=>hl.F b (h.le.F b hb),fun o g q hq=>hl.β o g q (hlt o g q hq) (h.le.β o g q hq),fun b hb=>(hl.mem b (h.le.F b hb)).trans (h.le.mem b hb),fun b s hs1=>hl.shp b s (h.le.shp b s hs1)⟩,
    h.sim.drop hl hw hβ hu hF,by rw [hw]; exact h.below,fun b hb=>?_,fun b hb hFb hno=>?_⟩
  · rcases hF b hb with hb | ⟨o,ob,_,h1,h2⟩
    · exact h.fgr b hb
    · exact .inr (blk_heap (h.sim.obj o ob h1).1 h2).1
  · obtain ⟨p1,p2,p3⟩:=h.priv b hb hFb hno
    refine ⟨by rw [hw]; exact p1,fun hF2=>?_,fun o ob ho hbk=>?_⟩
    · rcases hF b hF2 with hF2 | ⟨o,ob,_,h1,h2⟩
      · exact p2 hF2
      · exact p3 o ob h1 h2
    · obtain ⟨ho1,ho2⟩:=take_get ho
      have:blk C2 o ob = blk C1 o ob:=by cases ob <;> simp [blk,hβ,ho1]
      rw [this] at hbk
      exact p3 o ob ho2 hbk
theorem clean_ok {k:Ck} {base ent:Nat} {C C1:Cx} {st st1 st2:St} {gc:Bool} {keep:List Nat} {a:Act} (hs:Sim base C st.heap) (h1:Step base ent C st.heap C1 st1.heap) (hv:VOk k base ent C1 st1.heap st1.vars a)
    (hk:st1.rs = false → Keeps st.heap st1.heap) (h:clean st.heap.length gc keep st1 = some st2):∃ C2,C2.w = C1.w ∧ Step base ent C st.heap C2 st2.heap ∧ VOk k base ent C2 st2.heap st2.vars a:=by
  unfold clean at h
  split at h
  · cases h
  · rename_i hg
    cases h
    have hdist:∀ q q' t t',k.cellIs q t = true → k.cellIs q' t' = true → q ≠ q' → ((scrubV st.heap.length gc keep 0 st1.vars).getD q .u).known = true → ((scrubV st.heap.length gc keep 0 st1.vars).getD q' .u).known = true → a.tmps.getD t undef ≠ a.tmps.getD t' undef:=by
      intro q q' t t' hq hq' hne k1 k2
      rcases scrubV_get st.heap.length gc keep st1.vars 0 q with e | ⟨e,_⟩
      · rw [e] at k1; cases k1
      · rcases scrubV_get st.heap.length gc keep st1.vars 0 q' with e' | ⟨e',_⟩
        · rw [e'] at k2; cases k2
        · rw [e] at k1; rw [e'] at k2
          exact hv.dist q q' t t' hq hq' hne k1 k2
    cases gc with
    | false =>
      refine ⟨C1,rfl,h1,⟨fun j t hj=>?_,hv.size,hv.defers,by rw [scrubV_length]; exact hv.len,fun q t hq=>?_,hdist,hv.be,hv.es⟩⟩
      · rcases scrubV_get st.heap.length false keep st1.vars 0 j with e | ⟨e,_⟩
        · rw [e]; exact .inl (.inl rfl)
        · rw [e]; exact hv.rel j t hj
      · rcases scrubV_get st.heap.length false keep st1.vars 0 q with e | ⟨e,_⟩
        · rw [e]; exact .inl rfl
        · rw [e]; exact hv.cell q t hq
    | true =>
      have hrs:st1.rs = false:=by simpa using hg
      have hu:HUnder st.heap.length st1.heap:=(hk hrs).2 _ (Nat.le_refl _) (HUnder_sim hs)
      have hl:=leU_cut C1 st.heap.length
      refine ⟨C1.cut st.heap.length,rfl,h1.dropTo hs hu hl rfl (fun _ _=>rfl) (fun b hb=>.inl hb),⟨fun j t hj=>?_,hv.size,hv.defers,by rw [scrubV_length]; exact hv.len,fun q t hq=>?_,hdist,hv.be,hv.es⟩⟩
      · rcases scrubV_get st.heap.length true keep st1.vars 0 j with e | ⟨e,e2⟩
        · rw [e]; exact .inl (.inl rfl)
        · rw [e]; exact Rv_leU hl (e2 rfl) (hv.rel j t hj)
      · rcases scrubV_get st.heap.length true keep st1.vars 0 q with e | ⟨e,e2⟩
        · rw [e]; exact .inl rfl
        · rw [e]
          rcases hv.cell q t hq with h | ⟨b,c,e1,q1,q2,q3,q4⟩
          · exact .inl h
          · refine .inr ⟨b,c,e1,q1,q2,Rc_leU hl _ _ (e2 rfl) q3,q4.base,q4.ent,q4.F,fun o ob ho hbk=>?_⟩
            obtain ⟨ho1,ho2⟩:=take_get ho
            have:blk (C1.cut st.heap.length) o ob = blk C1 o ob:=by cases ob <;> simp [blk,Cx.cut,ho1]
            rw [this] at hbk
            exact q4.no o ob ho2 hbk
section
variable {k:Ck} {CF:CallF} {R:AIR → St → Option (Ex × St)}
theorem opdOut_ok {base ent:Nat} {C:Cx} {H:Heap} {vars:List AV} {a:Act} {x:Operand} {y:AOpd} (h:opdOut k x y = true) (hv:VOk k base ent C H vars a):Rv C (ev [] vars y) (a.eval x):=by
  unfold opdOut at h
  split at h
  · exact hv.rel _ _ (slotIs_iff h)
  · exact constOk_ok h C
  · cases h
theorem stepRun_ok (hC:SoundC k.P k.ι CF) (hp:PureC k.pureF CF) (hnds:nodupB (k.slots ++ k.cells) = true) (hK:RKeeps R) (hR:RS k R):RS k (stepRun CF R):=by
  have hloop:∀ gc keep x body st e st',codeOk k body x = true → stepRun CF R (.loop gc keep x) st = some (e,st') → ∀ base ent C a,C.ι = k.ι → Sim base C st.heap → VOk k base ent C st.heap st.vars a →
      ∀ Q,Post k base ent C st.heap e st' Q → LW k.P body Q a C.w:=by
    intro gc keep x body st e st' hok h base ent C a hι hs hv Q hQ
    simp only [stepRun] at h
    cases hr:R x { vars:=st.vars,heap:=st.heap,rs:=false } with
    | none=>rw [hr] at h; cases h
    | some q =>
      obtain ⟨e1,st1⟩:=q
      rw [hr] at h
      have hkeep:st1.rs = false → Keeps st.heap st1.heap:=fun hrs=>(hK _ _ _ _ hr hrs).2
      refine LW.round (hR.wp x body _ _ _ hok hr base ent C a hι hs hv _ fun a' C1 hst1 hv1=>?_)
      cases e1 with
      | normal =>
        simp only [loopK] at h
        cases hcl:clean st.heap.length gc keep st1 with
        | none=>rw [hcl] at h; cases h
        | some st2 =>
          rw [hcl] at h
          simp only [loopC] at h
          obtain ⟨C2,hw2,hst2,hv2⟩:=clean_ok hs hst1 hv1 hkeep hcl
          show LW k.P body Q a' C1.w
          rw [← hw2]
          exact hR.loop gc keep x body (orRs st.rs st2) e st' hok h base ent C2 a' (hst2.le.ι.trans hι) hst2.sim hv2 Q fun a'' C'' hst'' hv''=>hQ a'' C'' (hst2.trans hst'') hv''
      | exit j=>simp only [loopK] at h; cases h; exact hQ a' C1 hst1 hv1
      | ret=>simp only [loopK] at h; cases h; exact hQ a' C1 hst1 hv1
  refine ⟨?_,hloop⟩
  intro air code st e st' hok h base ent C a hι hs hv Q hQ
  unfold codeOk at hok
  split at hok
  · cases h; exact wp_skip (hQ a C (Step.refl hs) hv)
  · rename_i id ops draw aops draw'
    simp only [Bool.and_eq_true,beq_iff_eq] at hok
    obtain ⟨rfl,hok⟩:=hok
    simp only [stepRun] at h
    obtain ⟨st1,h1,e1⟩:=regionK_inv h
    cases e1
    have:=region_ok (Q:=Q) (id:=id) hC hp hι hnds hok h1 hs hv fun a' C' hst hv'=>hQ a' C' hst hv'
    simpa using this
  · rename_i p q x y
    simp only [Bool.and_eq_true] at hok
    simp only [stepRun] at h
    cases hr:R x st with
    | none=>rw [hr] at h; cases h
    | some r =>
      obtain ⟨e1,st1⟩:=r
      rw [hr] at h
      refine wp_seq (hR.wp x p _ _ _ hok.1 hr base ent C a hι hs hv _ fun a' C1 hst1 hv1=>?_)
      cases e1 with
      | normal =>
        simp only [seqK] at h
        exact hR.wp y q _ _ _ hok.2 h base ent C1 a' (hst1.le.ι.trans hι) hst1.sim hv1 Q fun a'' C'' hst'' hv''=>hQ a'' C'' (hst1.trans hst'') hv''
      | exit j=>simp only [seqK] at h; cases h; exact hQ a' C1 hst1 hv1
      | ret=>simp only [seqK] at h; cases h; exact hQ a' C1 hst1 hv1
  · rename_i c p q c' x y
    simp only [Bool.and_eq_true] at hok
    obtain ⟨⟨h1,h2⟩,h3⟩:=hok
    simp only [stepRun] at h
    have hc:=opdOut_ok h1 hv
    generalize ev [] st.vars c' = X at h hc
    cases X <;> try (cases h; done)
    rename_i b
    have hb:=Rv_bool hc
    cases b with
    | true=>exact wp_cond_true hb (hR.wp x p _ _ _ h2 h base ent C a hι hs hv Q hQ)
    | false=>exact wp_cond_false hb (hR.wp y q _ _ _ h3 h base ent C a hι hs hv Q hQ)
  · rename_i i p j x
    simp only [Bool.and_eq_true,beq_iff_eq] at hok
    obtain ⟨rfl,h2⟩:=hok
    simp only [stepRun] at h
    cases hr:R x st with
    | none=>rw [hr] at h; cases h
    | some r =>
      obtain ⟨e1,st1⟩:=r
      rw [hr] at h
      refine wp_block (hR.wp x p _ _ _ h2 hr base ent C a hι hs hv _ fun a' C1 hst1 hv1=>?_)
      cases e1 with
      | normal=>simp only [blockK] at h; cases h; exact hQ a' C1 hst1 hv1
      | ret=>simp only [blockK] at h; cases h; exact hQ a' C1 hst1 hv1
      | exit j =>
        simp only [blockK] at h
        split at h
        · rename_i hj
          cases h
          simp only [exOf,Exit.inBlock,hj,if_true]
          exact hQ a' C1 hst1 hv1
        · rename_i hj
          cases h
          simp only [exOf,Exit.inBlock,hj,if_false]
          exact hQ a' C1 hst1 hv1
  · exact (hloop _ _ _ _ st e st' hok h base ent C a hι hs hv Q hQ).loop
  · rename_i i j
    simp only [beq_iff_eq] at hok
    subst hok
    cases h
    exact wp_exit (hQ a C (Step.refl hs) hv)
  · rename_i p x
    simp only [stepRun] at h
    refine wp_scope_straight (hR.wp x p _ _ _ hok h base ent C a hι hs hv _ fun a' C1 hst1 hv1=>?_)
    have:=hQ a' C1 hst1 hv1
    cases e <;> exact this
  · cases h; exact wp_label (hQ a C (Step.refl hs) hv)
  · cases h; exact wp_ret (hQ a C (Step.refl hs) hv)
  · cases hok
end
end Tor
namespace Tor
open Go Go.RowKit
def resOk (k:Ck):ResultVar → ARes → Bool
  | .tmp t,.v j=>slotIs k.slots j t
  | .cell t ty,.cell j ag sz=>slotIs k.slots j t && aggB k.P ty == some ag && sizeB k.P ty == some sz
  | .cell t ty,.c q ag sz=>k.cellIs q t && aggB k.P ty == some ag && sizeB k.P ty == some sz
  | _,_=>false
def ressOk (k:Ck):List ResultVar → List ARes → Bool
  | [],[]=>true
  | r :: l,x :: m=>resOk k r x && ressOk k l m
  | _,_=>false
def isRange:Nat → List Tmp → Nat → Bool
  | _,_,0=>true
  | _,[],_ + 1=>false
  | i,t :: l,n + 1=>t == i && isRange (i + 1) l n
def funOk (k:Ck) (fn:Func) (f:AFun):Bool :=
  (match fn.body with
    | some c=>codeOk k c f.body
    | none=>false) && nodupB (k.slots ++ k.cells) && k.slots.length + k.cells.length == f.slots && k.ntmps == fn.ntmps && isRange 0 k.slots f.params && Nat.ble f.params fn.ntmps &&
    ressOk k fn.results.toList f.results && !(fn.name == "runtime.NumGoroutine")
theorem isRange_get:∀ {l:List Tmp} {i n:Nat},isRange i l n = true → ∀ j,j < n → l[j]? = some (i + j)
  | _,_,0,_,j,hj=>by omega
  | [],_,n + 1,h,_,_=>by simp [isRange] at h
  | t :: l,i,n + 1,h,j,hj=>by
    simp only [isRange,Bool.and_eq_true,beq_iff_eq] at h
    cases j with
    | zero=>simp [h.1]
    | succ j =>
      have:=isRange_get h.2 j (by omega)
      simp only [List.getElem?_cons_succ,this]
      congr 1; omega
section
variable {k:Ck} {base ent:Nat} {C:Cx}
def resSem (a:Array Value):ResultVar → Sem Value
  | .tmp t=>pure (a.getD t undef)
  | .cell c t=>do loadVar t (← asAddr (a.getD c undef))
theorem results_eq (fn:Func) (tmps:Array Value):results fn tmps = (do
    let vs ← fn.results.mapM (resSem tmps)
    pure (if h:vs.size = 1 then vs[0] else .tuple vs)):=by
  unfold results
  have:(fun x=>match x with
    | .tmp t=>pure (tmps.getD t undef)
    | .cell a t=>do loadVar t (← asAddr (tmps.getD a undef)):ResultVar → Sem Value) = resSem tmps:=by
    funext x; cases x <;> rfl
  rw [← this]
  rfl
theorem res_ok {H:Heap} {vars:List AV} {a:Act} {r:ResultVar} {x:ARes} {y:AV} (hs:Sim base C H) (hv:VOk k base ent C H vars a) (hok:resOk k r x = true) (h:resOf H vars x = some y) :
    ∃ v,(resSem a.tmps r).run k.P C.w = .ok v C.w ∧ Rv C y v:=by
  unfold resOk at hok
  split at hok
  · cases h
    exact ⟨_,rfl,hv.rel _ _ (slotIs_iff hok)⟩
  · rename_i t ty j ag sz
    simp only [Bool.and_eq_true,beq_iff_eq] at hok
    obtain ⟨⟨h1,h2⟩,h3⟩:=hok
    have hr:=hv.rel _ _ (slotIs_iff h1)
    simp only [resOf] at h
    obtain ⟨u,e1,e2⟩:=load_ok hs h2 h3 hr h
    refine ⟨u,?_,e2⟩
    have hp:∃ p,a.tmps.getD t undef = .pointer (some p):=by
      generalize vars.getD j .u = X at h hr
      cases X <;> try (cases h; done)
      · obtain ⟨b,off,xs,e,_⟩:=Rv_iptr hr; exact ⟨_,e⟩
      · obtain ⟨b,bs,_,e⟩:=Rv_ptr hr; exact ⟨_,e⟩
    obtain ⟨p,hp⟩:=hp
    rw [hp] at e1
    simp only [resSem,hp]
    simpa only [Instr.loadAt,Instr.sureAddr,asAddr,Sem.run_bind,Sem.run_pure,Result.andThen_ok] using e1
  · rename_i t ty q ag sz
    simp only [Bool.and_eq_true,beq_iff_eq] at hok
    obtain ⟨⟨h1,h2⟩,h3⟩:=hok
    simp only [resOf] at h
    have hc:=hv.cell q t h1
    obtain ⟨u,e1,e2⟩:=cl_ok (P:=k.P) h2 h3 hc h
    refine ⟨u,?_,e2⟩
    have hp:∃ p,a.tmps.getD t undef = .pointer (some p):=by
      rcases hc with hc | ⟨b,c,e,q1,_⟩
      · unfold doCl at h
        split at h
        · rename_i hk; rw [hk] at hc; cases hc
        · cases h
      · exact ⟨_,q1⟩
    obtain ⟨p,hp⟩:=hp
    rw [hp] at e1
    simp only [resSem,hp]
    simpa only [Instr.loadAt,Instr.sureAddr,asAddr,Sem.run_bind,Sem.run_pure,Result.andThen_ok] using e1
  · cases hok
theorem ress_ok {H:Heap} {vars:List AV} {a:Act} (hs:Sim base C H) (hv:VOk k base ent C H vars a):∀ {l:List ResultVar} {m:List ARes} {ys:List AV},ressOk k l m = true → resList H vars m = some ys →
    ∃ vs,(l.mapM (resSem a.tmps)).run k.P C.w = .ok vs C.w ∧ Rvs C ys vs
  | [],[],ys,_,h=>by cases h; exact ⟨[],rfl,.nil⟩
  | [],_ :: _,_,h,_=>by simp [ressOk] at h
  | _ :: _,[],_,h,_=>by simp [ressOk] at h
  | r :: l,x :: m,ys,h,hr=>by
    simp only [ressOk,Bool.and_eq_true] at h
    simp only [resList] at hr
    cases h1:resOf H vars x with
    | none=>rw [h1] at hr; cases hr
    | some y =>
      rw [h1] at hr
      cases h2:resList H vars m with
      | none=>rw [h2] at hr; cases hr
      | some ys' =>
        rw [h2] at hr
        cases hr
        obtain ⟨v,e1,e2⟩:=res_ok hs hv h.1 h1
        obtain ⟨vs,e3,e4⟩:=ress_ok hs hv h.2 h2
        refine ⟨v :: vs,?_,.cons e2 e4⟩
        rw [List.mapM_cons]
        simp only [Sem.run_bind,e1,Result.andThen_ok,e3,Sem.run_pure]
theorem Rvs_plain {l vs} (h:Rvs C l vs) (hp:l.all AV.plain = true):Rvl C l vs:=by
  induction h with
  | nil=>exact .nil
  | cons a _ ih =>
    simp only [List.all_cons,Bool.and_eq_true] at hp
    refine .cons ?_ (ih hp.2)
    rcases a with a | ⟨l,vs,rfl,_⟩
    · exact a
    · simp [AV.plain] at hp
theorem results_ok {fn:Func} {m:List ARes} {st:St} {a:Act} {r:AV} (hs:Sim base C st.heap) (hv:VOk k base ent C st.heap st.vars a) (hok:ressOk k fn.results.toList m = true) (h:resAll st m = some r) :
    ∃ v,(results fn a.tmps).run k.P C.w = .ok v C.w ∧ Rv C r v:=by
  unfold resAll at h
  cases hl:resList st.heap st.vars m with
  | none=>rw [hl] at h; cases h
  | some ys =>
    rw [hl] at h
    obtain ⟨vs,e1,e2⟩:=ress_ok hs hv hok hl
    have e3:(results fn a.tmps).run k.P C.w = .ok (if h:vs.toArray.size = 1 then vs.toArray[0] else .tuple vs.toArray) C.w:=by
      rw [results_eq,show fn.results.mapM (resSem a.tmps) = fn.results.toList.toArray.mapM (resSem a.tmps) by rw [Array.toArray_toList],List.mapM_toArray]
      simp only [map_eq_pure_bind,Sem.run_bind,e1,Result.andThen_ok,Sem.run_pure]
    refine ⟨_,e3,?_⟩
    cases e2 with
    | nil=>simp only [oneOf] at h; cases h; exact Rv_tup_mk (vs:=[]) .nil
    | cons a1 a2 =>
      cases a2 with
      | nil=>simp only [oneOf] at h; cases h; simpa using a1
      | cons a2 a3 =>
        simp only [oneOf,tupOf] at h
        split at h
        · rename_i hpl
          cases h
          have:=Rvs_plain (.cons a1 (.cons a2 a3)) hpl
          rw [dif_neg (by simp)]
          exact Rv_tup_mk this
        · cases h
theorem start_ok {f:AFun} {fn:Func} {args:List AV} {H:Heap} {vals:List Value} (hok:funOk k fn f = true) (hr:Rvs C args vals) (hl:args.length = f.params) (hbs:base ≤ C.w.heap.size) :
    VOk k base C.w.heap.size C H (start f args H).vars { tmps:=vals.toArray ++ Array.replicate (fn.ntmps - vals.toArray.size) undef,defers:=[] }:=by
  unfold funOk at hok
  simp only [Bool.and_eq_true,beq_iff_eq] at hok
  obtain ⟨⟨⟨⟨⟨⟨⟨h1,h2⟩,h3⟩,h4⟩,h5⟩,h6⟩,h7⟩,h8⟩:=hok
  have hlen:=Rvs_length hr
  have hrg:=isRange_get h5
  have hps:f.params ≤ k.slots.length:=by
    by_cases h0:f.params = 0
    · omega
    · have:=hrg (f.params - 1) (by omega)
      have:=(List.getElem?_eq_some_iff.1 this).1
      omega
  have hpn:f.params ≤ fn.ntmps:=Nat.le_of_ble_eq_true h6
  have hrest:∀ j,f.params ≤ j → (args ++ List.replicate (f.slots - args.length) AV.u).getD j .u = .u:=by
    intro j hj
    simp only [List.getD]
    rw [List.getElem?_append_right (by omega),List.getElem?_replicate]
    split <;> rfl
  have hcell:∀ q t,k.cellIs q t = true → ((start f args H).vars.getD q .u) = .u:=by
    intro q t hq
    have:=(cellIs_iff hq).1
    exact hrest q (by omega)
  refine ⟨fun j t hj=>?_,by simp; omega,rfl,by simp [start]; omega,fun q t hq=>(by rw [hcell q t hq]; exact .inl rfl),fun q q' t t' hq _ _ hk _=>(by rw [hcell q t hq] at hk; cases hk),hbs,Nat.le_refl _⟩
  simp only [start]
  by_cases hjp:j < f.params
  · have:=hrg j hjp
    rw [hj] at this
    cases this
    rw [Nat.zero_add]
    have h9:=Rvs_get hr j undef (by omega)
    have e1:(args ++ List.replicate (f.slots - args.length) AV.u).getD j .u = args.getD j .u:=by
      simp only [List.getD]
      rw [List.getElem?_append_left (by omega)]
    have e2:(vals.toArray ++ Array.replicate (fn.ntmps - vals.toArray.size) undef).getD j undef = vals.getD j undef:=by
      rw [Array.getD_eq_getD_getElem?,Array.getElem?_append_left (by simp; omega)]
      simp [List.getD]
    rw [e1,e2]; exact h9
  · rw [hrest j (by omega)]; exact .inl (.inl rfl)
theorem body_ok {R:AIR → St → Option (Ex × St)} {f:AFun} {fn:Func} {g:Nat} {args:List AV} {H:Heap} {vals:List Value} {st:St} {r:AV} (hR:RS k R) (hfn:k.P.funcs[k.ι g]? = some fn) (hok:funOk k fn f = true)
    (hι:C.ι = k.ι) (hs:Sim base C H) (hr:Rvs C args vals) (hl:args.length = f.params) (h:ended (R f.body (start f args H)) = some st) (hres:resAll st f.results = some r)
    {W:Value → World → Prop} (hW:∀ v C',OStep base C H C' st.heap → Rv C' r v → W v C'.w):Called k.P (k.ι g) vals.toArray C.w W:=by
  have hv:=start_ok (H:=H) hok hr hl hs.bsz
  unfold funOk at hok
  simp only [Bool.and_eq_true,beq_iff_eq] at hok
  obtain ⟨⟨⟨⟨⟨⟨⟨h1,h2⟩,h3⟩,h4⟩,h5⟩,h6⟩,h7⟩,h8⟩:=hok
  obtain ⟨e,he⟩:=ended_inv h
  cases hb:fn.body with
  | none=>rw [hb] at h1; cases h1
  | some c =>
    rw [hb] at h1
    have hcall:(callFunc (k.ι g) vals.toArray).run k.P C.w = .ok (.enter (k.ι g) vals.toArray) C.w:=by
      have hname:(fn.name == "runtime.NumGoroutine") = false:=by simpa using h8
      simp [callFunc,hfn,beq_eq_false_iff_ne.1 hname,hb]
    unfold Called
    rw [hcall]
    refine calls_of_wp hfn hb (hR.wp f.body c _ _ _ h1 he base _ C _ hι hs hv _ fun a' C' hst hv'=>?_)
    obtain ⟨v,r1,r2⟩:=results_ok hst.sim hv' h7 hres
    have:=hW v C' hst r2
    cases e with
    | normal=>exact ⟨hv'.defers,v,r1,this⟩
    | ret=>exact ⟨hv'.defers,v,r1,this⟩
    | exit j=>rw [he] at h; cases h
end
end Tor
