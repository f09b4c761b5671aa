/-
  A part of the proof: an abstract machine for the program, its soundness, and what the functions compute (Ops2, Ops3, Ops4, Ops5).
  Conditions: none.
-/
import Derived.Test.YthcbpifkgolknaaDoorM04
import Derived.Laws.MakeOwn
import Derived.Laws.AppendOwn
import Derived.MapKept
set_option linter.unusedSectionVars false
set_option linter.unusedVariables false
set_option linter.unusedSimpArgs false
set_option linter.defProp false
namespace Tor
open Go Go.RowKit
variable {P:Program} {base:Nat} {C:Cx} {H:Heap}
theorem headSize_uniform {l:List AV} {css:List (List Value)} {sz sz':Nat} (hr:Rcl C l css) (hu:∀ c ∈ css,c.length = sz') (h:headSize sz l = true) (hne:l ≠ []):sz' = sz:=by
  cases l with
  | nil=>exact absurd rfl hne
  | cons x l =>
    simp only [Rcl] at hr
    obtain ⟨c,r,e,hx,_⟩:=hr
    subst e
    simp only [headSize,beq_iff_eq] at h
    rw [← h,← Rc_len x c hx]
    exact (hu c (by simp)).symm
def RvO (C:Cx) (o:Option AV) (ov:Option Value):Prop :=
  match o,ov with
  | none,none=>True
  | some x,some v=>Rv C x v
  | _,_=>False
theorem bound_cases {o ov d n} (hr:RvO C o ov) (h:bound o d = some n):(ov = none ∧ n = d) ∨ ∃ k,ov = some (.int k n):=by
  cases o with
  | none=>cases ov with
    | none=>cases h; exact .inl ⟨rfl,rfl⟩
    | some v=>exact hr.elim
  | some x =>
    cases ov with
    | none=>exact hr.elim
    | some v =>
      cases x <;> try (cases h; done)
      cases h
      exact .inr ⟨_,by rw [Rv_int hr]⟩
theorem run_sliceBound {k:IntKind} {n:Int} {y:Nat} {code} (h0:0 ≤ n) (h1:n ≤ y) (w:World):(Instr.sliceBound (.int k n) y code).run P w = .ok n.toNat w:=by
  simp [Instr.sliceBound,asIntOf,h0,h1]
theorem sliceIn_inv {n a b c r} (h:sliceIn n a b c = some r):∃ i j k,a = some i ∧ b = some j ∧ c = some k ∧ 0 ≤ i ∧ i ≤ j ∧ j ≤ k ∧ k ≤ n ∧ r = (i.toNat,j.toNat):=by
  cases a <;> cases b <;> cases c <;> simp only [sliceIn,reduceCtorEq] at h
  split at h
  · rename_i i j k hh
    cases h
    exact ⟨i,j,k,rfl,rfl,rfl,hh.1,hh.2.1,hh.2.2.1,hh.2.2.2,rfl⟩
  · cases h
theorem run_sliceBounds {len cap:Nat} {lo hi mx:Option AV} {vlo vhi vmx:Option Value} {i j:Nat} (hlo:RvO C lo vlo) (hhi:RvO C hi vhi) (hmx:RvO C mx vmx) (hc:len ≤ cap)
    (hmh:vmx.isSome = true → vhi.isSome = true)
    (h:sliceIn len (bound lo 0) (bound hi len) (bound mx len) = some (i,j)) :
    ∃ m,(Instr.sliceBounds true len cap vlo vhi vmx).run P C.w = .ok (i,j,m) C.w ∧ i ≤ j ∧ j ≤ m ∧ m ≤ cap ∧ j ≤ len:=by
  obtain ⟨i',j',k',h1,h2,h3,a1,a2,a3,a4,e⟩:=sliceIn_inv h
  cases e
  have f1:∀ (k:IntKind) code,(Instr.sliceBound (.int k k') cap code).run P C.w = .ok k'.toNat C.w:=fun k code=>run_sliceBound (by omega) (by omega) _
  have f2:∀ (k:IntKind) code,(Instr.sliceBound (.int k j') k'.toNat code).run P C.w = .ok j'.toNat C.w:=fun k code=>run_sliceBound (by omega) (by omega) _
  have f3:∀ (k:IntKind) code,(Instr.sliceBound (.int k j') cap code).run P C.w = .ok j'.toNat C.w:=fun k code=>run_sliceBound (by omega) (by omega) _
  have f4:∀ (k:IntKind) code,(Instr.sliceBound (.int k i') j'.toNat code).run P C.w = .ok i'.toNat C.w:=fun k code=>run_sliceBound (by omega) (by omega) _
  rcases bound_cases hmx h3 with ⟨e3,e3'⟩ | ⟨k3,e3⟩
  · refine ⟨cap,?_,by omega,by omega,Nat.le_refl _,by omega⟩
    rcases bound_cases hhi h2 with ⟨e2,e2'⟩ | ⟨k2,e2⟩ <;> rcases bound_cases hlo h1 with ⟨e1,e1'⟩ | ⟨k1,e1⟩ <;> subst e1 e2 e3
    · subst e1' e2'; simp [Instr.sliceBounds]
    · subst e2'
      have:=f4 k1
      simp at this
      simp [Instr.sliceBounds,this]
    · subst e1'; simp [Instr.sliceBounds,f3]
    · simp [Instr.sliceBounds,f3,f4]
  · refine ⟨k'.toNat,?_,by omega,by omega,by omega,by omega⟩
    rcases bound_cases hhi h2 with ⟨e2,e2'⟩ | ⟨k2,e2⟩
    · subst e2; subst e3; exact absurd (hmh rfl) (by simp)
    · rcases bound_cases hlo h1 with ⟨e1,e1'⟩ | ⟨k1,e1⟩ <;> subst e1 e2 e3
      · subst e1'; simp [Instr.sliceBounds,f1,f2]
      · simp [Instr.sliceBounds,f1,f2,f4]
theorem slice_ok {t e sz lo hi mx X vlo vhi vmx v y} (ht:sliceB P t = some e) (hz:sizeB P e = some sz) (hlo:RvO C lo vlo) (hhi:RvO C hi vhi) (hmx:RvO C mx vmx)
    (hmh:vmx.isSome = true → vhi.isSome = true) (hx:Rv C X v) (h:doSlice sz lo hi mx X = some y) :
    ∃ u,(Instr.sliceAt t v vlo vhi vmx).run P C.w = .ok u C.w ∧ Rv C y u:=by
  have hu:=sliceB_inv ht
  have hrun:∀ a len cap i j,v = .slice a len cap → len ≤ cap → sliceIn len (bound lo 0) (bound hi len) (bound mx len) = some (i,j) →
      ∃ m,(Instr.sliceAt t v vlo vhi vmx).run P C.w = .ok (.slice (if m = i then a else a.map (·.add (i * sz))) (j - i) (m - i)) C.w ∧ i ≤ j ∧ j ≤ m ∧ m ≤ cap ∧ j ≤ len:=by
    rintro a len cap i j rfl hc hs
    obtain ⟨m,hm,r⟩:=run_sliceBounds (P:=P) hlo hhi hmx hc hmh hs
    refine ⟨m,?_,r⟩
    simp [Instr.sliceAt,Instr.slice,run_underlying hu,hm,run_sizeOf hz]
  cases X with
  | isl l =>
    simp only [doSlice] at h
    split at h
    · rename_i hhs
      cases hs:sliceIn l.length (bound lo 0) (bound hi l.length) (bound mx l.length) with
      | none=>rw [hs] at h; cases h
      | some r =>
        obtain ⟨i,j⟩:=r
        rw [hs] at h
        cases h
        obtain ⟨a,cap,rfl,hn⟩:=Rv_isl hx
        have hflat:∀ i j,AV.hasRefs ((l.take j).drop i) = false:=fun i j=>hasRefs_of_mem fun x hxm=>hasRefs_mem (Rv_isl_flat hx) x (List.mem_of_mem_take (List.mem_of_mem_drop hxm))
        have hj:∀ b off css sz',a = some (⟨b,off,none⟩:Addr) → l.length ≤ cap → Rcl C l css → (∀ c ∈ css,c.length = sz') → C.F b → cellsAt C.w b off css.flatten → ∃ u,(Instr.sliceAt t (.slice a l.length cap) vlo vhi vmx).run P C.w = .ok u C.w ∧ Rv C (.isl ((l.take j).drop i)) u:=by
          rintro b off css sz' rfl hc hr hun hF hm
          obtain ⟨m,hrn,q1,q2,q3,q4⟩:=hrun _ _ _ i j rfl hc hs
          refine ⟨_,hrn,Rv_one ?_ rfl rfl⟩
          simp only [Rc]
          refine ⟨hflat _ _,_,rfl,_,_,by simp only [List.length_drop,List.length_take]; rw [Nat.min_eq_left q4],?_⟩
          by_cases hij:i = j
          · left; simp; omega
          · right
            have hne:l ≠ []:=fun e=>by subst e; simp at q4; omega
            have:=headSize_uniform hr hun hhs hne
            subst this
            have hcount:=Rcl_count l css hr
            refine ⟨b,off + i * sz',(css.take j).drop i,sz',?_,hF,by simp only [List.length_drop,List.length_take]; omega,Rcl_drop _ _ _ (Rcl_take _ _ _ hr),fun c hc=>hun c (List.mem_of_mem_take (List.mem_of_mem_drop hc)),?_⟩
            · rw [if_neg (by omega)]; simp [addr_add]
            · have e:css.flatten = (css.take i).flatten ++ ((css.take j).drop i).flatten ++ (css.drop j).flatten:=by
                rw [← List.flatten_append,← List.flatten_append]
                congr 1
                rw [show css.take i = (css.take j).take i by rw [List.take_take,Nat.min_eq_left q1],List.take_append_drop,List.take_append_drop]
              rw [e] at hm
              have:=cellsAt_part hm
              rw [take_uniform css hun i (by omega)] at this
              exact this
        rcases hn with hn | ⟨b,off,css,sz',ha,hF,hc,hr,hun,hm⟩
        · have hle:l = []:=List.length_eq_zero_iff.1 hn
          subst hle
          obtain ⟨i',j',k',_,_,_,x1,x2,x3,x4,e⟩:=sliceIn_inv hs
          cases e
          obtain ⟨m,hrn,q1,q2,q3,q4⟩:=hrun a 0 cap _ _ rfl (Nat.zero_le _) hs
          rw [show j'.toNat - i'.toNat = 0 by omega] at hrn
          refine ⟨_,hrn,Rv_one ?_ rfl rfl⟩
          simp only [Rc]
          refine ⟨by simpa using hflat i'.toNat j'.toNat,_,rfl,_,_,by rw [show (List.drop i'.toNat (List.take j'.toNat ([]:List AV))).length = 0 by simp],.inl (by simp)⟩
        · exact hj b off css sz' ha hc hr hun hF hm
    · cases h
  | sl o g sz' s len =>
    simp only [doSlice] at h
    split at h
    · rename_i he
      subst he
      cases hs:sliceIn len (bound lo 0) (bound hi len) (bound mx len) with
      | none=>rw [hs] at h; cases h
      | some r =>
        obtain ⟨i,j⟩:=r
        rw [hs] at h
        cases h
        rcases Rv_sl hx with ⟨b,bs,cap,hb,rfl,hl,hroom⟩ | ⟨q,hb,hl,a,rfl⟩
        · obtain ⟨m,hrn,q1,q2,q3,q4⟩:=hrun _ _ _ i j rfl hl hs
          by_cases hmi:m = i
          · -- nothing is left: the place is the elder one
            refine ⟨_,hrn,Rv_one ?_ rfl rfl⟩
            simp only [Rc]
            exact .inr ⟨_,hb,by omega,_,by rw [show j - i = 0 by omega,show m - i = 0 by omega]⟩
          · refine ⟨_,hrn,Rv_one ?_ rfl rfl⟩
            simp only [Rc]
            refine .inl ⟨b,bs,m - i,hb,?_,by omega,?_⟩
            · rw [if_neg hmi]; simp [addr_add,Nat.add_mul,Nat.add_assoc]
            · obtain ⟨e',n,hsh,hn⟩:=hroom
              refine ⟨e',n,hsh,?_⟩
              have:bs + s * sz' + i * sz' + (m - i) * sz' = bs + s * sz' + m * sz':=by
                rw [Nat.add_assoc (bs + s * sz'),← Nat.add_mul]; congr 2; omega
              have h2:m * sz' ≤ cap * sz':=Nat.mul_le_mul_right _ q3
              rw [Nat.add_mul]; omega
        · subst hl
          obtain ⟨i',j',k',_,_,_,x1,x2,x3,x4,e⟩:=sliceIn_inv hs
          cases e
          obtain ⟨m,hrn,q1,q2,q3,q4⟩:=hrun a 0 0 _ _ rfl (Nat.le_refl _) hs
          refine ⟨_,hrn,Rv_one ?_ rfl rfl⟩
          simp only [Rc]
          refine .inr ⟨q,hb,by omega,_,by rw [show j'.toNat - i'.toNat = 0 by omega,show m - i'.toNat = 0 by omega]⟩
    · cases h
  | _=>cases h
def lenKind (P:Program) (t:TypeId):Nat → Bool
  | 0=>match P.underlying t with | some (.slice _)=>true | _=>false
  | 1=>match P.underlying t with | some (.map _ _)=>true | _=>false
  | 2=>match P.underlying t with | some .string=>true | _=>false
  | _=>false
theorem MapR_length {r es} (h:MapR C r es):r.length = es.length:=by
  induction h with
  | nil=>rfl
  | cons _ _ _ _ ih=>simp [ih]
theorem run_getMap {b es cl} (h:C.w.heap[b]? = some (.map es cl)):(getObj b).run P C.w = .ok (.map es cl) C.w:=by
  simp only [getObj,Sem.run,h]
theorem obj_map (hs:Sim base C H) {o kvs} (ho:H[o]? = some (.map kvs)):∃ b es clock,C.β o 0 = some (some (b,0)) ∧ C.w.heap[b]? = some (.map es clock) ∧ MapRS C kvs es clock ∧ base ≤ b ∧ ¬ C.F b :=
  (hs.obj o _ ho).1
theorem len_ok (hs:Sim base C H) {kd t ty X v y} (ht:lenKind P t kd = true) (hx:Rv C X v) (h:doLen H kd X = some y) :
    ∃ u,(Builtin.len_ #[t] ty #[v]).run P C.w = .ok u C.w ∧ Rv C y u:=by
  match kd with
  | 0 =>
    simp only [lenKind] at ht
    split at ht
    · rename_i e hu
      have hrun:∀ a n cap,v = .slice a n cap → (Builtin.len_ #[t] ty #[v]).run P C.w = .ok (.int .i64 n) C.w:=by
        rintro a n cap rfl
        simp [Builtin.len_,run_underlying hu,goInt]
      cases X with
      | isl l=>cases h; obtain ⟨a,cap,rfl,_⟩:=Rv_isl hx; exact ⟨_,hrun _ _ _ rfl,mk_int _ _⟩
      | nl=>cases h; rw [Rv_nl hx] at hrun ⊢; exact ⟨_,hrun _ _ _ rfl,mk_int _ _⟩
      | sl o g sz s len =>
        cases h
        rcases Rv_sl hx with ⟨b,bs,cap,_,rfl,_⟩ | ⟨q,_,hl,a,rfl⟩
        · exact ⟨_,hrun _ _ _ rfl,mk_int _ _⟩
        · subst hl; exact ⟨_,hrun _ _ _ rfl,mk_int _ _⟩
      | _=>cases h
    · cases ht
  | 1 =>
    simp only [lenKind] at ht
    split at ht
    · rename_i k e hu
      cases X with
      | mp o =>
        simp only [doLen] at h
        cases ho:H[o]? with
        | none=>rw [ho] at h; cases h
        | some ob =>
          rw [ho] at h
          cases ob <;> try (cases h; done)
          rename_i kvs
          cases h
          obtain ⟨b,es,cl,h1,h2,h3,_⟩:=obj_map hs ho
          obtain ⟨b',h1',rfl⟩:=Rv_mp hx
          rw [h1] at h1'; cases h1'
          refine ⟨_,?_,mk_int _ _⟩
          have:=MapR_length h3.1
          simp [Builtin.len_,run_underlying hu,goInt,run_getMap h2,this]
      | _=>cases h
    · cases ht
  | 2 =>
    simp only [lenKind] at ht
    split at ht
    · rename_i hu
      cases X with
      | a x =>
        cases x <;> try (cases h; done)
        rename_i s
        cases h
        rw [(Rv_a hx).1]
        exact ⟨.int .i64 s.size,by simp [Builtin.len_,run_underlying hu,goInt],mk_int _ _⟩
      | _=>cases h
    · cases ht
  | n + 3=>cases ht
def intKind:TypeDesc → Bool
  | .int _=>true
  | _=>false
theorem checkKey_int {kt k n} {d:TypeDesc} (hd:P.underlying kt = some d) (hk:intKind d = true) (em:Bool) (w:World):(Instr.checkKey em 10000 kt (.int k n)).run P w = .ok () w:=by
  rw [show (10000:Nat) = 9999 + 1 from rfl,Instr.checkKey]
  simp only [Sem.run_bind,run_underlying hd,Result.andThen_ok]
  cases d <;> first | rfl | cases hk
theorem findNow_ok {d:TypeDesc} (hk:intKind d = true) (n:Int):∀ (kvs:List (Int × AV)) (es:List MapEntry) (i:Nat),MapR C kvs es →
    ∃ r,Instr.findNow d (.int .i64 n) es i = some r ∧ match mfind n kvs with
      | some x=>∃ j e,r = some (i + j,e.val) ∧ es[j]? = some e ∧ Rv1 C x e.val ∧ x.known = true ∧ e.key = .int .i64 n
      | none=>r = none
  | [],_,i,h=>by cases h; exact ⟨none,rfl,rfl⟩
  | (m,x) :: kvs,_,i,h=>by
    cases h with
    | cons hkey hval hkn hrest =>
      rename_i e es
      have hs:Instr.sameNow d (.int .i64 n) e.key = some (n == m):=by
        cases d <;> try (cases hk; done)
        simp [Instr.sameNow,hkey]
      by_cases hnm:n = m
      · subst hnm
        refine ⟨some (i,e.val),by simp [Instr.findNow,hs],?_⟩
        simp only [mfind,if_pos]
        exact ⟨0,e,rfl,rfl,hval,hkn,hkey⟩
      · obtain ⟨r,hr,hm⟩:=findNow_ok hk n kvs es (i + 1) hrest
        have hb:(n == m) = false:=by simp [hnm]
        refine ⟨r,by simp [Instr.findNow,hs,hb,hr],?_⟩
        simp only [mfind,if_neg hnm]
        cases hf:mfind n kvs with
        | none=>rw [hf] at hm; exact hm
        | some x' =>
          rw [hf] at hm
          obtain ⟨j,e',h1,h2,h3⟩:=hm
          exact ⟨j + 1,e',by rw [h1]; congr 2; omega,h2,h3⟩
def mapB (P:Program) (t:TypeId):Option (TypeId × TypeId) :=
  match P.underlying t with
  | some (.map k e)=>some (k,e)
  | _=>none
theorem mapB_inv {t k e} (h:mapB P t = some (k,e)):P.underlying t = some (.map k e):=by
  unfold mapB at h
  cases hu:P.underlying t with
  | none=>rw [hu] at h; cases h
  | some d=>rw [hu] at h; cases d <;> first | (cases h; rfl) | cases h
def zeroB (P:Program) (t:TypeId):Option Value:=(P.info? t).bind (·.zero)
theorem run_zeroValue {t z} (h:zeroB P t = some z) (w:World):(zeroValue t).run P w = .ok z w:=by
  unfold zeroB at h
  cases hi:P.info? t with
  | none=>rw [hi] at h; cases h
  | some i =>
    rw [hi] at h
    simp only [Option.bind_some] at h
    simp [zeroValue,typeInfo,hi,h]
theorem Rv_tup_mk {l} {vs:List Value} (h:Rvl C l vs):Rv C (.tup l) (.tuple vs.toArray):=.inr ⟨l,vs.toArray,rfl,rfl,by simpa using h⟩
theorem known_Rv1 {x v} (hk:x.known = true) (h:Rv C x v):Rv1 C x v:=.inr (Rv_known hk h)
theorem lookup_ok (hs:Sim base C H) {t kt et kd z zv ok X K v vk y} (ht:mapB P t = some (kt,et)) (hkt:P.underlying kt = some kd) (hki:intKind kd = true)
    (hz:zeroB P et = some zv) (hzr:Rv1 C z zv) (hx:Rv C X v) (hk:Rv C K vk) (h:doLookup z ok H X K = some y) :
    ∃ u,(Instr.lookup t v vk ok).run P C.w = .ok u C.w ∧ Rv C y u:=by
  cases X <;> try (cases h; done)
  cases K <;> try (cases h; done)
  rename_i o k n
  cases k <;> try (cases h; done)
  simp only [doLookup] at h
  cases ho:H[o]? with
  | none=>rw [ho] at h; cases h
  | some ob =>
    rw [ho] at h
    cases ob <;> try (cases h; done)
    rename_i kvs
    cases h
    obtain ⟨b,es,cl,h1,h2,h3,_⟩:=obj_map hs ho
    obtain ⟨b',h1',rfl⟩:=Rv_mp hx
    rw [h1] at h1'; cases h1'
    rw [Rv_int hk]
    obtain ⟨r,hr,hm⟩:=findNow_ok hki n kvs es.toList 0 h3.1
    have hfk:(Instr.findKey kt (.int .i64 n) es.toList).run P C.w = .ok r C.w:=by
      simp only [Instr.findKey,Sem.run_bind,run_underlying hkt,Result.andThen_ok,hr,Sem.run_pure]
    cases hf:mfind n kvs with
    | none =>
      rw [hf] at hm
      subst hm
      refine ⟨if ok then .tuple #[zv,.bool false] else zv,?_,?_⟩
      · simp only [Instr.lookup,Sem.run_bind,run_underlying (mapB_inv ht),Result.andThen_ok,run_getMap h2,Sem.run_pure,checkKey_int hkt hki,hfk,run_zeroValue hz]
      · cases ok
        · exact .inl hzr
        · exact Rv_tup_mk (.cons hzr (.cons (.inr (Rv_known rfl (mk_bool _))) .nil))
    | some x =>
      rw [hf] at hm
      obtain ⟨j,e,rfl,_,hv,hkn,_⟩:=hm
      refine ⟨if ok then .tuple #[e.val,.bool true] else e.val,?_,?_⟩
      · simp only [Instr.lookup,Sem.run_bind,run_underlying (mapB_inv ht),Result.andThen_ok,run_getMap h2,Sem.run_pure,checkKey_int hkt hki,hfk]
      · cases ok
        · exact .inl hv
        · exact Rv_tup_mk (.cons hv (.cons (.inr (Rv_known rfl (mk_bool _))) .nil))
theorem Rvl_get {l vs} (h:Rvl C l vs):∀ (i:Nat) (y:AV),l[i]? = some y → ∃ u,vs[i]? = some u ∧ Rv1 C y u:=by
  induction h with
  | nil=>intro i y h; simp at h
  | cons a _ ih =>
    intro i y h
    cases i with
    | zero=>simp at h; subst h; exact ⟨_,by simp,a⟩
    | succ i=>simp at h; obtain ⟨u,h1,h2⟩:=ih i y h; exact ⟨u,by simp [h1],h2⟩
theorem extract_ok {i X v y} (hx:Rv C X v) (h:doExtract i X = some y):∃ u,(Instr.extract v i).run P C.w = .ok u C.w ∧ Rv C y u:=by
  cases X <;> try (cases h; done)
  rename_i l
  obtain ⟨vs,rfl,hl⟩:=Rv_tup hx
  obtain ⟨u,h1,h2⟩:=Rvl_get hl i y h
  have h1':vs[i]? = some u:=by rw [← h1]; simp
  exact ⟨u,by simp [Instr.extract,h1'],.inl h2⟩
theorem mkfn_caps:∀ {l vs},Rvl C l vs → l.all capOk = true → Rcl C l (vs.map fun v=>[v])
  | [],_,h,_=>by cases h; rfl
  | x :: l,_,h,hc=>by
    cases h with
    | cons h1 h2 =>
      simp only [List.all_cons,Bool.and_eq_true] at hc
      obtain ⟨hx,hl⟩:=hc
      simp only [capOk,Bool.and_eq_true,Bool.not_eq_true',beq_iff_eq] at hx
      obtain ⟨a,b⟩:=Rv_known hx.1.1 (.inl h1)
      simp only [List.map_cons,Rcl]
      refine ⟨_,_,rfl,?_,mkfn_caps h2 hl⟩
      rw [cells_one (b.trans hx.2)] at a
      exact a
theorem mkfn_ok {g l vs y} (hl:Rvl C l vs) (h:doMkfn g l = some y):Rv C y (.func (.func (C.ι g)) #[] vs.toArray):=by
  unfold doMkfn at h
  split at h
  · rename_i hc
    cases h
    refine Rv_one ?_ rfl rfl
    simp only [Rc]
    refine ⟨fun x hx=>?_,_,rfl,by simpa using mkfn_caps hl hc⟩
    have:=List.all_eq_true.1 hc x hx
    simp only [capOk,Bool.and_eq_true,Bool.not_eq_true'] at this
    exact this.2
  · cases h
theorem foldMM_ok (mx:Bool):∀ {l vs X v y},Rv C X v → Rvl C l vs → foldMM mx X l = some y →
    ∃ u,(vs.foldlM (if mx then Builtin.max2 else Builtin.min2) v).run P C.w = .ok u C.w ∧ Rv C y u
  | [],_,X,v,y,hx,hl,h=>by
    cases hl
    cases X <;> try (cases h; done)
    cases h
    exact ⟨v,rfl,hx⟩
  | x :: l,_,X,v,y,hx,hl,h=>by
    cases hl with
    | cons h1 h2 =>
      rename_i v1 vs
      cases X <;> try (cases h; done)
      cases x <;> try (cases h; done)
      rename_i k m k' n
      simp only [foldMM] at h
      split at h
      · rename_i hk
        subst hk
        rw [Rv_int hx,Rv_int (.inl h1)]
        obtain ⟨u,h3,h4⟩:=foldMM_ok mx (mk_int k (if (if mx = true then n > m else n < m) then n else m)) h2 h
        refine ⟨u,?_,h4⟩
        simp only [List.foldlM_cons,Sem.run_bind]
        cases mx <;> simpa [Builtin.max2,Builtin.min2] using h3
      · cases h
theorem run_eql_slice {P:Program} (t e:TypeId) (a:Option Addr) (n c m k:Nat) (h:P.underlying t = some (.slice e)) (w:World):(Op.equal t (.slice a n c) (.slice none m k)).run P w = .ok a.isNone w:=by
  unfold Op.equal Op.maxDepth
  rw [show (10000:Nat) = 9999 + 1 from rfl,Op.equalIn]
  simp only [Sem.run_bind,run_underlying h,Result.andThen_ok]
  cases a <;> rfl
theorem isnil_ok {P:Program} {C:Cx} {ne t e X Y v u z} (ht:P.underlying t = some (.slice e)) (hx:Rv C X v) (hy:Rv C Y u) (h:doX (.isnil ne) X Y = some z) :
    ∃ a n c,v = .slice a n c ∧ u = .slice none 0 0 ∧ (binOp (if ne then .neq else .eql) t v u).run P C.w = .ok (.bool (if ne then !a.isNone else a.isNone)) C.w ∧ Rv C z (.bool (if ne then !a.isNone else a.isNone)):=by
  have key:∀ a n c,(binOp (if ne then .neq else .eql) t (.slice a n c) (.slice none 0 0)).run P C.w = .ok (.bool (if ne then !a.isNone else a.isNone)) C.w:=by
    intro a n c
    cases ne with
    | false=>simp only [Bool.false_eq_true,if_false,binOp,Sem.run_bind,run_eql_slice t e a n c 0 0 ht,Result.andThen_ok,Sem.run_pure]
    | true=>simp only [if_true,binOp,Sem.run_bind,run_eql_slice t e a n c 0 0 ht,Result.andThen_ok,Sem.run_pure]
  have hY:Y = .nl:=by
    cases X with
    | nl=>cases Y <;> first | rfl | cases h
    | isl l=>cases l with
      | nil=>cases Y <;> cases h
      | cons q r=>cases Y <;> first | rfl | cases h
    | sl o g sz st len=>cases len with
      | zero=>cases Y <;> cases h
      | succ n=>cases Y <;> first | rfl | cases h
    | _=>cases Y <;> cases h
  subst hY
  rw [Rv_nl hy]
  cases X with
  | nl =>
    rw [Rv_nl hx]
    simp only [doX,Option.some.injEq] at h
    subst h
    exact ⟨none,0,0,rfl,rfl,key _ _ _,by cases ne <;> exact mk_bool _⟩
  | isl l =>
    cases l with
    | nil=>cases h
    | cons q r =>
      simp only [doX,Option.some.injEq] at h
      subst h
      obtain ⟨a,cap,rfl,hh⟩:=Rv_isl hx
      rcases hh with hh | ⟨b,off,css,sz,rfl,_⟩
      · simp at hh
      · exact ⟨_,_,_,rfl,rfl,key _ _ _,by cases ne <;> exact mk_bool _⟩
  | sl o g sz st len =>
    cases len with
    | zero=>cases h
    | succ n =>
      simp only [doX,Option.some.injEq] at h
      subst h
      rcases Rv_sl hx with ⟨b,bs,cap,hβ,rfl,hle,hroom⟩ | ⟨q,hβ,hl,a,rfl⟩
      · exact ⟨_,_,_,rfl,rfl,key _ _ _,by cases ne <;> exact mk_bool _⟩
      · omega
  | _=>cases h
end Tor
namespace Tor
open Go Go.RowKit
variable {P:Program} {base:Nat} {C:Cx} {H:Heap}
structure Grow (w w':World):Prop where
  os:w'.os = w.os
  tape:w'.tape = w.tape
  output:w'.output = w.output
  size:w.heap.size ≤ w'.heap.size
  old:∀ b,b < w.heap.size → w'.heap[b]? = w.heap[b]?
theorem Grow.refl (w:World):Grow w w:=⟨rfl,rfl,rfl,Nat.le_refl _,fun _ _=>rfl⟩
theorem Grow.alloc (w:World) (o:Obj):Grow w (w.alloc o):=⟨rfl,rfl,rfl,by simp,fun b hb=>heap_alloc_old w o b hb⟩
theorem Grow.drewAlloc (w:World) (o:Obj):Grow w (w.drew.alloc o):=⟨rfl,rfl,rfl,by simp,fun b hb=>heap_alloc_old w.drew o b hb⟩
theorem Grow.drew (w:World):Grow w w.drew:=⟨rfl,rfl,rfl,Nat.le_refl _,fun _ _=>rfl⟩
theorem Grow.below {w w':World} (h:Grow w w') {B:Nat} (hB:B ≤ w.heap.size):Below B w w':=⟨h.os,h.tape,h.output,h.size,fun k hk=>h.old k (by omega)⟩
theorem Grow.shape {w w':World} (h:Grow w w') {b s} (hs:w.shape? b = some s):w'.shape? b = some s:=by
  have hlt:b < w.heap.size:=by
    unfold World.shape? at hs
    split at hs
    · rename_i hh; exact lt_of_heap hh
    · cases hs
  rw [← hs]
  unfold World.shape?
  rw [h.old b hlt]
structure Step (base ent:Nat) (C:Cx) (H:Heap) (C':Cx) (H':Heap):Prop where
  le:Le C C'
  sim:Sim base C' H'
  below:Below base C.w C'.w
  fgr:∀ b,C'.F b → C.F b ∨ base ≤ b
  priv:∀ b,b < ent → ¬ C.F b → (∀ o ob,H[o]? = some ob → blk C o ob ≠ some b) → C'.w.heap[b]? = C.w.heap[b]? ∧ ¬ C'.F b ∧ ∀ o ob,H'[o]? = some ob → blk C' o ob ≠ some b
abbrev OStep (base:Nat) (C:Cx) (H:Heap) (C':Cx) (H':Heap):Prop:=Step base C.w.heap.size C H C' H'
def Cx.with (C:Cx) (w:World) (n:Nat) (q:Option (Nat × Nat)):Cx:={ C with w:=w,β:=fun o g=>if o = n ∧ g = 0 then some q else C.β o g }
theorem le_with (hs:Sim base C H) {w'} (hg:Grow C.w w') (q):Le C (C.with w' H.length q) where
  ι:=rfl
  F _ h:=h
  β o g p h:=by
    have:¬ (o = H.length ∧ g = 0):=by
      rintro ⟨rfl,rfl⟩
      rw [hs.dom H.length (Nat.le_refl _) 0] at h; cases h
    simp [Cx.with,this,h]
  mem b hb:=hg.old b (hs.fsz b hb)
  shp b s h:=hg.shape h
theorem push_step (hs:Sim base C H) {w'} (hg:Grow C.w w') {q ob} (ho:ObjOk base (C.with w' H.length q) H.length ob)
    (hb:∀ b bs,q = some (b,bs) → C.w.heap.size ≤ b):OStep base C H (C.with w' H.length q) (H ++ [ob]):=by
  have hle:=le_with hs hg q
  have hnew:∀ b,blk (C.with w' H.length q) H.length ob = some b → C.w.heap.size ≤ b:=by
    intro b hbk
    have key:∀ g,bOf ((C.with w' H.length q).β H.length g) = some b → C.w.heap.size ≤ b:=by
      intro g h
      simp only [Cx.with] at h
      split at h
      · cases q with
        | none=>cases h
        | some p=>obtain ⟨b',bs⟩:=p; cases h; exact hb _ _ rfl
      · rw [hs.dom H.length (Nat.le_refl _) g] at h; cases h
    cases ob with
    | var x=>exact key 0 hbk
    | arr g sz l=>exact key g hbk
    | map kvs=>exact key 0 hbk
    | dead=>cases hbk
  refine ⟨hle,hs.push hle (fun _=>Iff.rfl) hg.size (fun o g hlt=>?_) (fun o g hlt=>?_) (fun b hb=>hg.old b hb) ho ?_ hnew,hg.below hs.bsz,fun _ h=>.inl h,fun b hlt hF hno=>⟨hg.old b hlt,hF,fun o ob' ho' hbk=>?_⟩⟩
  · have:¬ (o = H.length ∧ g = 0):=by omega
    simp [Cx.with,this]
  · have:¬ (o = H.length ∧ g = 0):=by omega
    simp [Cx.with,this,hs.dom o (by omega) g]
  · cases ob with
    | arr g sz l =>
      have h0:g = 0:=by
        rcases ho with ⟨h1,_⟩ | ⟨b,bs,c,e,pre,css,post,h1,_⟩ <;>
        · simp only [Cx.with] at h1
          split at h1
          · rename_i hh; exact hh.2
          · rw [hs.dom H.length (Nat.le_refl _) g] at h1; cases h1
      intro g' hg'
      have:g' ≠ 0:=by omega
      simp [Cx.with,this,hs.dom H.length (Nat.le_refl _) g']
    | _=>trivial
  · by_cases hlo:o < H.length
    · rw [List.getElem?_append_left hlo] at ho'
      rw [blk_le hle (hs.obj o ob' ho').1] at hbk
      exact hno o ob' ho' hbk
    · rw [List.getElem?_append_right (by omega)] at ho'
      obtain ⟨e1,e2⟩:=one_inv ho'
      have:o = H.length:=by omega
      subst this; subst e2
      have:=hnew b hbk
      omega
theorem heap_new (w:World) (o:Obj):(w.alloc o).heap[w.heap.size]? = some o:=heap_alloc_new w o
theorem var_step (hs:Sim base C H) {x:AV} {cs:Array Value} (e:TypeId) (hx:Rc C x cs.toList) :
    let C':=C.with (C.w.alloc (.cells cs e)) H.length (some (C.w.heap.size,0))
    OStep base C H C' (H ++ [.var x]) ∧ Rv C' (.ptr H.length 0 []) (.pointer (some ⟨C.w.heap.size,0,none⟩)):=by
  intro C'
  have hg:=Grow.alloc C.w (.cells cs e)
  have hle:Le C C':=le_with hs hg _
  have hβ:C'.β H.length 0 = some (some (C.w.heap.size,0)):=by simp [C',Cx.with]
  refine ⟨push_step hs hg ?_ (fun b bs h=>by cases h; exact Nat.le_refl _),Rv_one ?_ rfl rfl⟩
  · refine ⟨C.w.heap.size,cs,e,hβ,heap_new _ _,Rc_le hle _ _ hx,hs.bsz,fun h=>?_⟩
    exact Nat.lt_irrefl _ (hs.fsz _ h)
  · simp only [Rc]
    exact ⟨C.w.heap.size,0,hβ,by simp [offs]⟩
def Cx.frz (C:Cx) (w:World):Cx:={ C with w:=w,F:=fun b=>C.F b ∨ b = C.w.heap.size }
theorem frz_step (hs:Sim base C H) (o:Obj):OStep base C H (C.frz (C.w.alloc o)) H:=by
  have hg:=Grow.alloc C.w o
  have hle:Le C (C.frz (C.w.alloc o)):=⟨rfl,fun b h=>.inl h,fun _ _ _ h=>h,fun b hb=>hg.old b (hs.fsz b hb),fun b s h=>hg.shape h⟩
  refine ⟨hle,hs.world hle (fun b hb=>?_) (fun _ _=>rfl) hg.size (fun b hb _ _=>hg.old b hb),hg.below hs.bsz,fun b (h:C.F b ∨ b = C.w.heap.size)=>h.imp id (fun e=>by rw [e]; exact hs.bsz),fun b hlt hF hno=>⟨hg.old b hlt,fun h=>h.elim hF (fun e=>by omega),fun o ob ho hbk=>hno o ob ho hbk⟩⟩
  rcases hb with hb | rfl
  · exact ⟨Nat.lt_of_lt_of_le (hs.fsz b hb) hg.size,.inl hb⟩
  · exact ⟨by simp [Cx.frz],.inr (Nat.le_refl _)⟩
theorem cellsAt_new (w:World) (cs:Array Value) (e:TypeId):cellsAt (w.alloc (.cells cs e)) w.heap.size 0 cs.toList:=by
  have:=cellsAt_of (w:=w.alloc (.cells cs e)) (heap_new w (.cells cs e)) (pre:=[]) (ys:=cs.toList) (post:=[]) (by simp)
  simpa using this
theorem box_ok (hs:Sim base C H) {im e X v y H' b} (hx:Rv C X v) (h:doBox im H X = some (y,H',b)) :
    ∃ C' u,(Instr.box e v).run P C.w = .ok u C'.w ∧ OStep base C H C' H' ∧ Rv C' y u:=by
  unfold doBox at h
  split at h
  · rename_i hk
    obtain ⟨h1,h2⟩:=Rv_known hk hx
    have hrun:(Instr.box e v).run P C.w = .ok (.pointer (some ⟨C.w.heap.size,0,none⟩)) (C.w.alloc (.cells v.cells e)):=by
      simp [Instr.box,newVar,newRow]
    split at h
    · cases h
      have hc:=cellsAt_new C.w v.cells e
      by_cases hmp:∃ o,X = .mp o
      · obtain ⟨o,rfl⟩:=hmp
        obtain ⟨bm,hβ,rfl⟩:=Rv_mp hx
        refine ⟨_,_,hrun,frz_step hs _,Rv_one ?_ rfl rfl⟩
        simp only [Rc,bxOf]
        exact ⟨C.w.heap.size,bm,hβ,rfl,.inr rfl,hc⟩
      · have hb:bxOf X = .iptr X:=by cases X <;> first | rfl | exact absurd ⟨_,rfl⟩ hmp
        rw [hb]
        refine ⟨_,_,hrun,frz_step hs _,Rv_one ?_ rfl rfl⟩
        simp only [Rc]
        exact ⟨C.w.heap.size,0,v.cells.toList,rfl,.inr rfl,Rc_le (frz_step hs _).le _ _ h1,hc⟩
    · cases h
      obtain ⟨a,b⟩:=var_step hs e h1
      exact ⟨_,_,hrun,a,b⟩
  · cases h
theorem alloc_ok (hs:Sim base C H) {t z zv y H' b} (hz:zeroB P t = some zv) (hzr:∀ C,Rv C z zv)
    (h:(if z.known = true ∧ z.hasRef = false then some (AV.ptr H.length 0 [],H ++ [AObj.var z],false) else none) = some (y,H',b)) :
    ∃ C' u,(Instr.alloc t true (.tuple #[])).run P C.w = .ok u C'.w ∧ OStep base C H C' H' ∧ Rv C' y u:=by
  split at h
  · rename_i hh
    cases h
    obtain ⟨h1,h2⟩:=Rv_known hh.1 (hzr C)
    obtain ⟨a,b⟩:=var_step hs t h1
    exact ⟨_,_,by simp [Instr.alloc,run_zeroValue hz,newVar,newRow]; rfl,a,b⟩
  · cases h
theorem nils_step (hs:Sim base C H) (sz:Nat) (a:Option Addr) :
    let C':=C.with C.w H.length none
    OStep base C H C' (H ++ [.arr 0 sz []]) ∧ Rv C' (.sl H.length 0 sz 0 0) (.slice a 0 0):=by
  intro C'
  have hβ:C'.β H.length 0 = some none:=by simp [C',Cx.with]
  refine ⟨push_step hs (Grow.refl _) (.inl ⟨hβ,rfl⟩) (fun b bs h=>by cases h),Rv_one ?_ rfl rfl⟩
  simp only [Rc]
  exact .inr ⟨none,hβ,trivial,a,rfl⟩
theorem arr_step (hs:Sim base C H) {w'} (hg:Grow C.w w') {l:List AV} {css:List (List Value)} {post:List Value} {sz cap:Nat} (e:TypeId) {cs:Array Value}
    (hnew:w'.heap[C.w.heap.size]? = some (.cells cs e (0,0))) (hcs:cs.toList = css.flatten ++ post) (hl:Rcl C l css) (hu:∀ c ∈ css,c.length = sz) (hcap:cs.size = cap * sz) (hn:l.length ≤ cap) :
    let C':=C.with w' H.length (some (C.w.heap.size,0))
    OStep base C H C' (H ++ [.arr 0 sz l]) ∧ Rv C' (.sl H.length 0 sz 0 l.length) (.slice (some ⟨C.w.heap.size,0,none⟩) l.length cap):=by
  intro C'
  have hle:Le C C':=le_with hs hg _
  have hβ:C'.β H.length 0 = some (some (C.w.heap.size,0)):=by simp [C',Cx.with]
  refine ⟨push_step hs hg (.inr ?_) (fun b bs h=>by cases h; exact Nat.le_refl _),Rv_one ?_ rfl rfl⟩
  · exact ⟨C.w.heap.size,0,cs,e,[],css,post,hβ,hnew,by simpa using hcs,rfl,Rcl_le hle _ _ hl,hu,hs.bsz,fun h=>Nat.lt_irrefl _ (hs.fsz _ h)⟩
  · simp only [Rc]
    refine .inl ⟨C.w.heap.size,0,cap,hβ,by simp,hn,e,cs.size,?_,by omega⟩
    show w'.shape? C.w.heap.size = _
    simp [World.shape?,hnew]
theorem mkmap_ok (hs:Sim base C H) {t:TypeId} :
    ∃ C' u,(Instr.makeMap t none).run P C.w = .ok u C'.w ∧ OStep base C H C' (H ++ [.map []]) ∧ Rv C' (.mp H.length) u:=by
  have hg:=Grow.alloc C.w (.map #[] 0)
  have hβ:(C.with (C.w.alloc (.map #[] 0)) H.length (some (C.w.heap.size,0))).β H.length 0 = some (some (C.w.heap.size,0)):=by simp [Cx.with]
  refine ⟨C.with (C.w.alloc (.map #[] 0)) H.length (some (C.w.heap.size,0)),.map (some C.w.heap.size),?_,push_step hs hg ?_ (fun b bs h=>by cases h; exact Nat.le_refl _),Rv_one ?_ rfl rfl⟩
  · simp [Instr.makeMap,Cx.with]
  · exact ⟨C.w.heap.size,#[],0,hβ,heap_new _ _,⟨.nil,Go.MapKept.stamped_empty 0⟩,hs.bsz,fun h=>Nat.lt_irrefl _ (hs.fsz _ h)⟩
  · simp only [Rc]
    exact ⟨C.w.heap.size,hβ,rfl⟩
theorem slice0_ok (hs:Sim base C H) {t e sz X v y H' b vhi vmx} (ht:sliceB P t = some e) (hz:(sizeB P e).isSome = true) (hhi:vhi = .int .i64 0) (hmx:vmx = .int .i64 0) (hx:Rv C X v) (h:doSlice0 sz H X = some (y,H',b)) :
    ∃ C' u,(Instr.sliceAt t v none (some vhi) (some vmx)).run P C.w = .ok u C'.w ∧ OStep base C H C' H' ∧ Rv C' y u:=by
  subst hhi hmx
  have hu:=sliceB_inv ht
  obtain ⟨n,hn⟩:=Option.isSome_iff_exists.1 hz
  have hrun:∀ a len cap,v = .slice a len cap → (Instr.sliceAt t v none (some (.int .i64 0)) (some (.int .i64 0))).run P C.w = .ok (.slice a 0 0) C.w:=by
    rintro a len cap rfl
    simp [Instr.sliceAt,Instr.slice,Instr.sliceBounds,Instr.sliceBound,asIntOf,run_underlying hu,run_sizeOf hn]
  cases X <;> try (cases h; done)
  · cases h
    rw [Rv_nl hx] at hrun ⊢
    obtain ⟨a,b⟩:=nils_step hs sz none
    exact ⟨C.with C.w H.length none,_,hrun _ _ _ rfl,a,b⟩
  · cases h
    obtain ⟨a,cap,rfl,_⟩:=Rv_isl hx
    obtain ⟨x1,x2⟩:=nils_step hs sz a
    exact ⟨C.with C.w H.length none,_,hrun _ _ _ rfl,x1,x2⟩
  · cases h
    rcases Rv_sl hx with ⟨b,bs,cap,_,rfl,_⟩ | ⟨q,_,_,a,rfl⟩
    · obtain ⟨x1,x2⟩:=nils_step hs sz (some ⟨b,_,none⟩)
      exact ⟨C.with C.w H.length none,_,hrun _ _ _ rfl,x1,x2⟩
    · obtain ⟨x1,x2⟩:=nils_step hs sz a
      exact ⟨C.with C.w H.length none,_,hrun _ _ _ rfl,x1,x2⟩
theorem foldl_set (off:Nat):∀ (vs:List Value) (k:Nat) (cells:Array Value),off + k + vs.length ≤ cells.size →
    ((vs.zipIdx k).foldl (fun cs p=>cs.setIfInBounds (off + p.2) p.1) cells).toList = cells.toList.take (off + k) ++ vs ++ cells.toList.drop (off + k + vs.length)
  | [],k,cells,_=>by simp
  | v :: rest,k,cells,h=>by
    simp only [List.zipIdx_cons,List.foldl_cons]
    rw [foldl_set off rest (k + 1) _ (by simp at h ⊢; omega)]
    have e:=list_seg_step cells.toList (off + k) v rest (by simp at h ⊢; omega)
    simpa [Array.toList_setIfInBounds,Nat.add_assoc] using e
theorem sizes_take_set {l:List AV} {i j:Nat} {y:AV} (h:∀ z,l[i]? = some z → z.size = y.size):AV.sizes ((l.set i y).take j) = AV.sizes (l.take j):=by
  induction l generalizing i j with
  | nil=>simp
  | cons x l ih =>
    cases i with
    | zero =>
      cases j with
      | zero=>simp
      | succ j=>have:=h x (by simp); simp [AV.sizes,this]
    | succ i =>
      cases j with
      | zero=>simp
      | succ j=>simp only [List.set_cons_succ,List.take_succ_cons,AV.sizes]; rw [ih (fun z hz=>h z (by simpa using hz))]
inductive PartsR (C:Cx):List (Nat × AV) → List (Nat × Value) → Prop
  | nil:PartsR C [] []
  | cons {i x v r s}:Rv C x v → PartsR C r s → PartsR C ((i,x) :: r) ((i,v) :: s)
theorem fill_ok {place:Nat → Option (Nat × Nat)}:∀ (ap:List (Nat × AV)) (vp:List (Nat × Value)) (z l:List AV) (css:List (List Value)),PartsR C ap vp → setAll z ap = some l → Rcl C z css →
    (∀ i y,z[i]? = some y → place i = some (AV.sizes (z.take i),y.size)) →
    ∃ css',Rcl C l css' ∧ Instr.fill place css.flatten.toArray vp = some css'.flatten.toArray ∧ l.length = z.length ∧ (∀ sz,(∀ c ∈ css,c.length = sz) → ∀ c ∈ css',c.length = sz)
  | [],_,z,l,css,hp,h,hz,_=>by
    cases hp
    simp only [setAll] at h; cases h
    exact ⟨css,hz,rfl,rfl,fun _ h=>h⟩
  | (i,x) :: ap,_,z,l,css,hp,h,hz,hpl=>by
    cases hp with
    | cons hx hrest =>
      rename_i v vp
      simp only [setAll] at h
      cases hzi:z[i]? with
      | none=>rw [hzi] at h; cases h
      | some y =>
        rw [hzi] at h
        simp only at h
        split at h
        · rename_i hh
          obtain ⟨hsz,hk⟩:=hh
          obtain ⟨hr,hva⟩:=Rv_known hk hx
          have hvl:v.cells.toList.length = x.size:=Rc_len _ _ hr
          obtain ⟨c,hc,hrc⟩:=Rcl_get z css i y hz hzi
          have hcl:=Rc_len _ _ hrc
          have hpi:=hpl i y hzi
          have htk:=take_size hz i
          have hsplit:=flatten_split css i c hc
          have hfit:AV.sizes (z.take i) + v.cells.size ≤ css.flatten.length:=by
            rw [hsplit]; simp only [List.length_append,htk]; simp at hvl; omega
          obtain ⟨css',h1,h2,h3,h4⟩:=fill_ok (place:=place) ap vp (z.set i x) l (css.set i v.cells.toList) hrest h (Rcl_set z css i x _ hz hr) (fun j y' hj=>by
            rw [List.getElem?_set] at hj
            rw [sizes_take_set (fun q hq=>by rw [hzi] at hq; cases hq; exact hsz)]
            split at hj
            · rename_i e
              subst e
              split at hj
              · cases hj; rw [hpi,hsz]
              · cases hj
            · exact hpl j y' hj)
          refine ⟨css',h1,?_,by simpa using h3,fun sz hu=>h4 sz (fun d hd=>?_)⟩
          · rw [Instr.fill,hpi]
            simp only
            rw [if_neg (by simp only [Bool.or_eq_true,decide_eq_true_eq,List.size_toArray]; simp at hvl; omega)]
            rw [← h2]
            congr 1
            apply Array.ext'
            rw [flatten_set css i c _ hc]
            have hf:=foldl_set (AV.sizes (z.take i)) v.cells.toList 0 css.flatten.toArray (by simp at hfit ⊢; omega)
            have e1:(v.cells.zipIdx.foldl (fun cs p=>cs.setIfInBounds (AV.sizes (z.take i) + p.2) p.1) css.flatten.toArray) = ((v.cells.toList.zipIdx 0).foldl (fun cs p=>cs.setIfInBounds (AV.sizes (z.take i) + p.2) p.1) css.flatten.toArray):=by
              rw [← Array.foldl_toList]; simp
            rw [e1,hf]
            simp only [Nat.add_zero]
            rw [hsplit,← htk]
            simp only [List.append_assoc,List.take_left']
            congr 2
            rw [show (css.take i).flatten.length + v.cells.toList.length = (css.take i).flatten.length + c.length by omega,← List.append_assoc,show (css.take i).flatten.length + c.length = ((css.take i).flatten ++ c).length by simp,List.drop_left]
          · rcases List.mem_or_eq_of_mem_set hd with hd | rfl
            · exact hu d hd
            · have:=hu c (List.mem_of_getElem? hc)
              omega
        · cases h
def placeB (P:Program) (t:TypeId):Option (Nat → Option (Nat × Nat)) :=
  match P.underlying t with
  | some (.struct fs)=>some fun i=>(fs[i]?).bind fun f=>(sizeB P f.type).map fun n=>(f.offset,n)
  | some (.array _ e)=>(sizeB P e).map fun n i=>some (i * n,n)
  | _=>none
def fieldsOk (P:Program):List Field → Bool
  | []=>true
  | f :: r=>(sizeB P f.type).isSome && fieldsOk P r
def layoutOk (P:Program) (t:TypeId):Bool :=
  match P.underlying t with
  | some (.struct fs)=>fieldsOk P fs.toList
  | some (.array _ e)=>(sizeB P e).isSome
  | _=>false
def placesOk (pl:Nat → Option (Nat × Nat)):Nat → Nat → List AV → Bool
  | _,_,[]=>true
  | i,off,x :: l=>(pl i == some (off,x.size)) && placesOk pl (i + 1) (off + x.size) l
theorem placesOk_get {pl}:∀ (l:List AV) (i off:Nat),placesOk pl i off l = true → ∀ j y,l[j]? = some y → pl (i + j) = some (off + AV.sizes (l.take j),y.size)
  | [],_,_,_,j,y,h=>by simp at h
  | x :: l,i,off,h,j,y,hj=>by
    simp only [placesOk,Bool.and_eq_true,beq_iff_eq] at h
    cases j with
    | zero=>simp at hj; subst hj; simpa [AV.sizes] using h.1
    | succ j =>
      simp at hj
      have:=placesOk_get l (i + 1) (off + x.size) h.2 j y hj
      rw [show i + (j + 1) = i + 1 + j by omega,this]
      simp [AV.sizes,Nat.add_assoc]
theorem run_places {fs:Array Field} (h:fieldsOk P fs.toList = true) (w:World) :
    ∃ pl:Array (Nat × Nat),(fs.mapM (fun f=>do pure (f.offset,← Go.sizeOf f.type):Field → Sem (Nat × Nat))).run P w = .ok pl w ∧ ∀ i:Nat,pl[i]? = (fs[i]?).bind fun f=>(sizeB P f.type).map fun n=>(f.offset,n):=by
  have key:∀ l:List Field,fieldsOk P l = true → ∃ pl:List (Nat × Nat),(l.mapM (fun f=>do pure (f.offset,← Go.sizeOf f.type):Field → Sem (Nat × Nat))).run P w = .ok pl w ∧ ∀ i:Nat,pl[i]? = (l[i]?).bind fun f=>(sizeB P f.type).map fun n=>(f.offset,n):=by
    intro l
    induction l with
    | nil=>intro _; exact ⟨[],by simp,by simp⟩
    | cons f l ih =>
      intro hl
      simp only [fieldsOk,Bool.and_eq_true] at hl
      obtain ⟨n,hn⟩:=Option.isSome_iff_exists.1 hl.1
      obtain ⟨pl,h1,h2⟩:=ih hl.2
      refine ⟨(f.offset,n) :: pl,?_,fun i=>?_⟩
      · rw [List.mapM_cons]
        simp only [Sem.run_bind,run_sizeOf hn,Result.andThen_ok,Sem.run_pure,h1]
      · cases i with
        | zero=>simp [hn]
        | succ i=>simpa using h2 i
  obtain ⟨pl,h1,h2⟩:=key fs.toList h
  refine ⟨pl.toArray,?_,fun i=>by simpa using h2 i⟩
  rw [← Array.toArray_toList (xs:=fs),List.mapM_toArray]
  simp only [Sem.run_map,h1,Result.andThen_ok]
theorem build_ok {t z zv ap y} {parts:Array (Nat × Value)} {pl} (hpl:placeB P t = some pl) (hlay:layoutOk P t = true) (hz:zeroB P t = some zv) (hzr:Rv C (.agg z) zv) (hpo:placesOk pl 0 0 z = true)
    (hp:PartsR C ap parts.toList) (h:doBuild (setAll z ap) = some y) :
    ∃ u,(Instr.build t parts).run P C.w = .ok u C.w ∧ Rv C y u:=by
  cases hs:setAll z ap with
  | none=>rw [hs] at h; cases h
  | some l =>
    rw [hs] at h; cases h
    obtain ⟨css,hcl,rfl⟩:=Rv_agg hzr
    obtain ⟨css',h1,h2,_,_⟩:=fill_ok (place:=pl) ap parts.toList z l css hp hs hcl (fun i y hi=>by have:=placesOk_get z 0 0 hpo i y hi; simpa using this)
    refine ⟨.agg css'.flatten.toArray,?_,Rv_of (by simp only [Value.cells,Rc]; exact ⟨css',h1,rfl⟩) rfl⟩
    unfold placeB at hpl
    unfold layoutOk at hlay
    cases hu:P.underlying t with
    | none=>rw [hu] at hpl; cases hpl
    | some d =>
      rw [hu] at hpl hlay
      cases d <;> try (cases hpl; done)
      · rename_i n e
        simp only at hpl hlay
        obtain ⟨m,hm⟩:=Option.isSome_iff_exists.1 hlay
        rw [hm] at hpl; cases hpl
        simp only [Instr.build,Sem.run_bind,run_zeroValue hz,Result.andThen_ok,run_underlying hu,run_sizeOf hm,Value.cells]
        rw [h2]
        rfl
      · rename_i fs
        simp only at hpl hlay
        cases hpl
        obtain ⟨pl,h3,h4⟩:=run_places hlay C.w
        have e:(fun i:Nat=>pl[i]?) = fun i:Nat=>(fs[i]?).bind fun (f:Field)=>(sizeB P f.type).map fun n=>(f.offset,n):=funext h4
        simp only [Instr.build,Sem.run_bind,run_zeroValue hz,Result.andThen_ok,run_underlying hu,Value.cells,h3]
        rw [e,h2]
        rfl
theorem rep_flatten {α} [Inhabited α] (c:Array α) (n:Nat):(Array.range (n * c.size)).map (fun i=>c[i % c.size]!) = (List.replicate n c.toList).flatten.toArray:=by
  apply Array.ext'
  simp only [Array.toList_map,Array.toList_range]
  induction n with
  | zero=>simp
  | succ n ih =>
    rw [List.replicate_succ',List.flatten_append,← ih,Nat.succ_mul,List.range_add,List.map_append]
    congr 1
    apply List.ext_getElem?
    intro i
    simp only [List.map_map,List.getElem?_map,List.flatten_cons,List.flatten_nil,List.append_nil]
    by_cases hi:i < c.size
    · rw [List.getElem?_range hi]
      simp only [Option.map_some,Function.comp]
      rw [show (n * c.size + i) % c.size = i by rw [Nat.mul_comm,Nat.mul_add_mod,Nat.mod_eq_of_lt hi]]
      simp [hi,getElem!_pos]
    · rw [List.getElem?_eq_none (by simp; omega),List.getElem?_eq_none (by simpa using Nat.le_of_not_lt hi)]
      rfl
end Tor
namespace Tor
open Go Go.RowKit
variable {P:Program} {base:Nat} {C:Cx} {H:Heap}
theorem bslice_ok (hs:Sim base C H) {t e mt sz z zv n ap y H' b} {parts:Array (Nat × Value)} (ht:sliceB P t = some e) (hz:sizeB P e = some sz) (hzv:zeroB P e = some zv) (hzr:Rv C z zv) (hzk:z.known = true)
    (hn:n * sz ≤ 16777216) (hp:PartsR C ap parts.toList)
    (h:doBslice mt sz n H (if z.size = sz ∧ z.hasRef = false then setAll (List.replicate n z) ap else none) = some (y,H',b)) :
    ∃ C' u,(Instr.buildSlice t n parts).run P C.w = .ok u C'.w ∧ OStep base C H C' H' ∧ Rv C' y u:=by
  split at h
  · rename_i hzz
    obtain ⟨hzs,_⟩:=hzz
    cases hsl:setAll (List.replicate n z) ap with
    | none=>rw [hsl] at h; cases h
    | some l =>
      rw [hsl] at h
      obtain ⟨hzc,_⟩:=Rv_known hzk hzr
      have hzl:zv.cells.size = sz:=by have:=Rc_len _ _ hzc; simpa [hzs] using this
      have hrep:∀ i y,(List.replicate n z)[i]? = some y → y = z ∧ i < n:=by
        intro i y hy
        rw [List.getElem?_replicate] at hy
        split at hy
        · rename_i hlt; cases hy; exact ⟨rfl,hlt⟩
        · cases hy
      obtain ⟨css,h1,h2,h3,h4⟩:=fill_ok (place:=fun i=>some (i * sz,sz)) ap parts.toList (List.replicate n z) l (List.replicate n zv.cells.toList) hp hsl (Rcl_replicate hzc n) (fun i y hi=>by
        obtain ⟨rfl,hlt⟩:=hrep i y hi
        rw [hzs,List.take_replicate,Nat.min_eq_left (by omega)]
        have:∀ k,AV.sizes (List.replicate k y) = k * sz:=by
          intro k
          induction k with
          | zero=>simp [AV.sizes]
          | succ k ih=>rw [List.replicate_succ,AV.sizes,ih,hzs,Nat.succ_mul]; omega
        rw [this])
      have hun:∀ c ∈ css,c.length = sz:=h4 sz (fun c hc=>by rw [List.eq_of_mem_replicate hc]; simpa using hzl)
      have hlen:l.length = n:=by simpa using h3
      have hcount:=Rcl_count _ _ h1
      have hrun:(Instr.buildSlice t n parts).run P C.w = .ok (.slice (some ⟨C.w.heap.size,0,none⟩) n n) (C.w.alloc (.cells css.flatten.toArray e)):=by
        have hfl:(List.replicate n zv.cells.toList).flatten.length = n * sz:=by
          rw [uniform_len (sz:=sz) _ (fun c hc=>by rw [List.eq_of_mem_replicate hc]; simpa using hzl)]; simp
        have hcells:(Array.range (n * sz)).map (fun i=>zv.cells[i % zv.cells.size]!) = (List.replicate n zv.cells.toList).flatten.toArray:=by
          rw [← hzl]; exact rep_flatten _ _
        simp only [Instr.buildSlice,Sem.run_bind,run_underlying (sliceB_inv ht),Result.andThen_ok,run_sizeOf hz]
        rw [if_neg (by omega)]
        by_cases h0:n * sz = 0
        · have he:∀ f:Nat → Value,(Array.range (n * sz)).map f = (List.replicate n zv.cells.toList).flatten.toArray:=by
            intro f
            rw [List.eq_nil_of_length_eq_zero (l:=(List.replicate n zv.cells.toList).flatten) (by omega),h0]; simp
          rw [if_pos h0]
          simp only [Sem.run_bind,Sem.run_pure,Result.andThen_ok,he,h2]
          simp only [Sem.run_bind,newRow,run_newObj,Result.andThen_ok,Sem.run_pure]
          rfl
        · rw [if_neg h0]
          simp only [Sem.run_bind,run_zeroValue hzv,Sem.run_pure,Result.andThen_ok,hcells,h2]
          simp only [Sem.run_bind,newRow,run_newObj,Result.andThen_ok,Sem.run_pure]
          rfl
      unfold doBslice at h
      simp only at h
      split at h
      · cases h
        have hst:=arr_step hs (Grow.alloc C.w (.cells css.flatten.toArray e)) (l:=l) (css:=css) (post:=[]) (sz:=sz) (cap:=n) e (heap_new _ _) (by simp) h1 hun (by simp [uniform_len css hun,hcount,hlen]) (by omega)
        rw [hlen] at hst
        exact ⟨_,_,hrun,hst.1,hst.2⟩
      · split at h
        · cases h
        · rename_i hnr
          cases h
          refine ⟨_,_,hrun,frz_step hs _,Rv_one ?_ rfl rfl⟩
          simp only [Rc]
          refine ⟨by simpa using hnr,_,rfl,_,_,by rw [hlen],?_⟩
          by_cases h0:l.length = 0
          · exact .inl h0
          · refine .inr ⟨C.w.heap.size,0,css,sz,rfl,.inr rfl,by omega,Rcl_le (frz_step hs _).le _ _ h1,hun,?_⟩
            have:=cellsAt_new C.w css.flatten.toArray e
            exact this
  · cases h
theorem mkslice_ok (hs:Sim base C H) {t e sz bytes z zv N K vn vk y H' b} {i:TypeInfo} (ht:sliceB P t = some e) (hi:P.info? e = some i) (hsz:i.size = sz) (hb:i.bytes = bytes) (hzv:i.zero = some zv) (hzr:Rv C z zv) (hzk:z.known = true)
    (hn:Rv C N vn) (hk:Rv C K vk) (h:doMkslice sz bytes z H N K = some (y,H',b)) :
    ∃ C' u,(Instr.makeSlice t vn vk).run P C.w = .ok u C'.w ∧ OStep base C H C' H' ∧ Rv C' y u:=by
  unfold doMkslice at h
  split at h
  · rename_i n c
    split at h
    · rename_i hh
      obtain ⟨a1,a2,a3,a4,a5,_⟩:=hh
      cases h
      rw [Rv_int hn,Rv_int hk]
      obtain ⟨hzc,_⟩:=Rv_known hzk hzr
      have hzl:zv.cells.size = sz:=by have:=Rc_len _ _ hzc; simpa [a5] using this
      unfold maxLenA at a3
      have hbig:((i.bytes:Int) * c ≤ 281474976710656):=by
        have h1:(i.bytes:Int) * c ≤ 4096 * c:=Int.mul_le_mul_of_nonneg_right (by omega) (by omega)
        omega
      have hrun:=run_make (P:=P) C.w t e i zv (sliceB_inv ht) hi hzv .i64 .i64 n c a1 a2 hbig (by omega)
      have hmade:madeCells zv.cells (c.toNat * i.size) = (List.replicate c.toNat zv.cells.toList).flatten.toArray:=by
        rw [hsz,← hzl]; exact rep_flatten _ _
      rw [hmade] at hrun
      have hst:=arr_step hs (Grow.alloc C.w (.cells (List.replicate c.toNat zv.cells.toList).flatten.toArray e)) (l:=List.replicate n.toNat z) (css:=List.replicate n.toNat zv.cells.toList)
        (post:=(List.replicate (c.toNat - n.toNat) zv.cells.toList).flatten) (sz:=sz) (cap:=c.toNat) e (heap_new _ _)
        (by rw [← List.flatten_append,List.replicate_append_replicate,show n.toNat + (c.toNat - n.toNat) = c.toNat by omega])
        (Rcl_replicate hzc _) (fun d hd=>by rw [List.eq_of_mem_replicate hd]; simpa using hzl)
        (by rw [List.size_toArray,uniform_len (sz:=sz) _ (fun d hd=>by rw [List.eq_of_mem_replicate hd]; simpa using hzl),List.length_replicate]) (by simp; omega)
      simp only [List.length_replicate] at hst
      exact ⟨_,_,hrun,hst.1,hst.2⟩
    · cases h
  · cases h
theorem set_priv (hs:Sim base C H) {C':Cx} {o ob ob'} (ho:H[o]? = some ob) (hle:Le C C') (hF:∀ b,C'.F b → C.F b)
    (hm:∀ b,b < C.w.heap.size → blk C o ob ≠ some b → C'.w.heap[b]? = C.w.heap[b]?) (hb:∀ b,blk C' o ob' = some b → blk C o ob = some b ∨ C.w.heap.size ≤ b) :
    ∀ b,b < C.w.heap.size → ¬ C.F b → (∀ o ob,H[o]? = some ob → blk C o ob ≠ some b) → C'.w.heap[b]? = C.w.heap[b]? ∧ ¬ C'.F b ∧ ∀ o1 ob1,(H.set o ob')[o1]? = some ob1 → blk C' o1 ob1 ≠ some b:=by
  intro b hlt hFb hno
  refine ⟨hm b hlt (hno o ob ho),fun h=>hFb (hF b h),fun o1 ob1 h1 hbk=>?_⟩
  rw [List.getElem?_set] at h1
  split at h1
  · rename_i e
    subst e
    split at h1
    · cases h1
      rcases hb b hbk with h | h
      · exact hno _ _ ho h
      · omega
    · cases h1
  · rw [blk_le hle (hs.obj o1 ob1 h1).1] at hbk
    exact hno o1 ob1 h1 hbk
theorem row_step (hs:Sim base C H) {o ob ob' b c c' e} (ho:H[o]? = some ob) (hb:blk C o ob = some b) (hc:C.w.heap[b]? = some (.cells c e (0,0))) (hsz:c'.size = c.size)
    (hn:ObjOk base { C with w:=C.w.setRow b c' } o ob') (hg:GenOk C o ob') (hb':blk C o ob' = some b) :
    OStep base C H { C with w:=C.w.setRow b c' } (H.set o ob'):=by
  obtain ⟨h1,h2,h3⟩:=blk_heap (hs.obj o ob ho).1 hb
  have hle:Le C { C with w:=C.w.setRow b c' }:=by
    refine ⟨rfl,fun _ h=>h,fun _ _ _ h=>h,fun b1 hb1=>setRow_other _ _ _ _ (fun e=>h2 (e ▸ hb1)),fun b1 s hs1=>?_⟩
    by_cases hbb:b1 = b
    · subst hbb
      simp only [World.shape?,hc] at hs1
      simp only [World.shape?,setRow_heap _ _ _ _ _ _ hc,hsz]
      exact hs1
    · simp only [World.shape?] at hs1 ⊢
      rw [setRow_other _ _ _ _ hbb]; exact hs1
  have hm:∀ b1,b1 < C.w.heap.size → blk C o ob ≠ some b1 → (C.w.setRow b c').heap[b1]? = C.w.heap[b1]?:=fun b1 _ hne=>setRow_other _ _ _ _ (fun e=>hne (by rw [hb,e]))
  have hlast:∀ b1,blk { C with w:=C.w.setRow b c' } o ob' = some b1 → blk C o ob = some b1 ∨ C.w.heap.size ≤ b1:=by
    intro b1 hb1
    left
    have:blk { C with w:=C.w.setRow b c' } o ob' = blk C o ob':=by cases ob' <;> rfl
    rw [this,hb'] at hb1
    rw [hb]; exact hb1
  refine ⟨hle,hs.set ho hle (fun b1 hb1=>⟨by simpa using hs.fsz b1 hb1,.inl hb1⟩) (by simp) (fun _ _ _=>rfl) hm hn ?_ hlast,⟨rfl,rfl,rfl,by simp,fun k hk=>setRow_other _ _ _ _ (by omega)⟩,fun _ h=>.inl h,set_priv hs ho hle (fun _ h=>h) hm hlast⟩
  cases ob' with
  | arr g sz l=>exact hg
  | _=>trivial
theorem setRow_le (hs:Sim base C H) {o ob b c c' e} (ho:H[o]? = some ob) (hb:blk C o ob = some b) (hc:C.w.heap[b]? = some (.cells c e (0,0))) (hsz:c'.size = c.size) :
    Le C { C with w:=C.w.setRow b c' }:=by
  obtain ⟨h1,h2,h3⟩:=blk_heap (hs.obj o ob ho).1 hb
  refine ⟨rfl,fun _ h=>h,fun _ _ _ h=>h,fun b1 hb1=>setRow_other _ _ _ _ (fun e=>h2 (e ▸ hb1)),fun b1 s hs1=>?_⟩
  by_cases hbb:b1 = b
  · subst hbb
    simp only [World.shape?,hc] at hs1
    simp only [World.shape?,setRow_heap _ _ _ _ _ _ hc,hsz]
    exact hs1
  · simp only [World.shape?] at hs1 ⊢
    rw [setRow_other _ _ _ _ hbb]; exact hs1
theorem take_drop_mid {α} (pre zs post ys:List α) (h:zs.length = ys.length):(pre ++ zs ++ post).take pre.length ++ ys ++ (pre ++ zs ++ post).drop (pre.length + ys.length) = pre ++ ys ++ post:=by
  rw [List.append_assoc pre zs post,List.take_left,List.drop_append,List.drop_eq_nil_of_le (by omega),List.nil_append,← h]
  congr 1
  rw [show pre.length + zs.length - pre.length = zs.length by omega,List.drop_left]
theorem store_ok (hs:Sim base C H) {t sz X Y v u y H' b} (hz:sizeB P t = some sz) (hx:Rv C X v) (hy:Rv C Y u) (h:doStore sz H X Y = some (y,H',b)) :
    ∃ C',(Instr.storeAt t v u).run P C.w = .ok () C'.w ∧ OStep base C H C' H' ∧ y = nothing:=by
  cases X <;> try (cases h; done)
  rename_i o g p
  simp only [doStore] at h
  split at h
  · rename_i hh
    obtain ⟨hk,hysz⟩:=hh
    cases ho:H[o]? with
    | none=>rw [ho] at h; cases h
    | some ob =>
      rw [ho] at h
      simp only [setIn] at h
      cases hso:objSet ob g p Y with
      | none=>rw [hso] at h; cases h
      | some ob' =>
        rw [hso] at h
        cases h
        obtain ⟨hr,hva⟩:=Rv_known hk hy
        have hul:u.cells.toList.length = sz:=by rw [Rc_len _ _ hr]; exact hysz
        obtain ⟨bp,bs,hβ,rfl⟩:=Rv_ptr hx
        have hrun:∀ (c:Array Value) e (pre zs post:List Value) (off:Nat),C.w.heap[bp]? = some (.cells c e (0,0)) → c.toList = pre ++ zs ++ post → pre.length = off → zs.length = sz → bs + offs p = off →
            (Instr.storeAt t (.pointer (some ⟨bp,bs + offs p,none⟩)) u).run P C.w = .ok () (C.w.setRow bp (pre ++ u.cells.toList ++ post).toArray):=by
          intro c e pre zs post off hc hcl hp hzl ho2
          have hlen:c.size = pre.length + zs.length + post.length:=by rw [← Array.length_toList,hcl]; simp; omega
          have hst:=run_storeCells_at P bp off e u.cells.toList 0 c C.w hc (by omega) (Rc_one _ _ hr)
          simp only [Nat.add_zero] at hst
          rw [hcl,← hp,take_drop_mid _ _ _ _ (by omega)] at hst
          simp only [Instr.storeAt,Instr.sureAddr,Sem.run_bind,Sem.run_pure,Result.andThen_ok,storeVar,run_sizeOf hz]
          rw [if_neg (by simp at hul ⊢; omega),ho2,← hp]
          exact hst
        obtain ⟨hok,hgen⟩:=hs.obj o ob ho
        cases ob with
        | var x =>
          simp only [objSet] at hso
          split at hso
          · rename_i hg
            subst hg
            cases hup:upd x p Y with
            | none=>rw [hup] at hso; cases hso
            | some x' =>
              rw [hup] at hso; cases hso
              obtain ⟨bq,c,e,h1,h2,h3,h4,h5⟩:=hok
              have hqq:=h1.symm.trans hβ
              simp only [Option.some.injEq,Prod.mk.injEq] at hqq
              obtain ⟨rfl,rfl⟩:=hqq
              obtain ⟨pre,zs,post,e1,e2,e3,e4⟩:=upd_ok p x Y x' _ _ hup h3 hr
              have hblk:blk C o (.var x) = some bq:=by simp [blk,h1,bOf]
              have hsz':(pre ++ u.cells.toList ++ post).toArray.size = c.size:=by rw [← Array.length_toList (xs:=c),e1]; simp at e3 ⊢; omega
              have hle:=setRow_le hs ho hblk h2 hsz'
              refine ⟨_,hrun c e pre zs post _ h2 e1 e2 (by omega) (by omega),row_step hs ho hblk h2 hsz' ?_ trivial (by simp [blk,h1,bOf]),rfl⟩
              exact ⟨bq,_,e,h1,setRow_heap _ _ _ _ _ _ h2,by simpa using Rc_le hle _ _ e4,h4,h5⟩
          · cases hso
        | arr g' sz' l =>
          cases p with
          | nil=>simp [objSet] at hso
          | cons q p =>
            obtain ⟨i,off⟩:=q
            simp only [objSet] at hso
            split at hso
            · rename_i hg
              obtain ⟨hg,hof⟩:=hg
              subst hg
              cases hli:l[i]? with
              | none=>rw [hli] at hso; cases hso
              | some z =>
                rw [hli] at hso
                simp only at hso
                cases hup:upd z p Y with
                | none=>rw [hup] at hso; cases hso
                | some z' =>
                  rw [hup] at hso; cases hso
                  rcases hok with ⟨_,h2⟩ | ⟨b',bs',c,e,pre,css,post,h1,h2,h3,h4,h5,h6,h7,h8⟩
                  · subst h2; simp at hli
                  · rw [h1] at hβ; cases hβ
                    obtain ⟨cz,hcz,hrz⟩:=Rcl_get l css i z h5 hli
                    obtain ⟨pre2,zs,post2,e1,e2,e3,e4⟩:=upd_ok p z Y z' cz _ hup hrz hr
                    have hi:i < css.length:=(List.getElem?_eq_some_iff.1 hcz).1
                    have hl:(css.take i).flatten.length = i * sz':=take_uniform css h6 i (by omega)
                    have hcl:c.toList = (pre ++ (css.take i).flatten ++ pre2) ++ zs ++ (post2 ++ (css.drop (i + 1)).flatten ++ post):=by
                      rw [h3,flatten_split css i cz hcz,e1]; simp [List.append_assoc]
                    have hblk:blk C o (.arr g sz' l) = some bp:=by simp [blk,h1,bOf]
                    have hsz':((pre ++ (css.take i).flatten ++ pre2) ++ u.cells.toList ++ (post2 ++ (css.drop (i + 1)).flatten ++ post)).toArray.size = c.size:=by
                      rw [← Array.length_toList (xs:=c),hcl]; simp at e3 ⊢; omega
                    have hle:=setRow_le hs ho hblk h2 hsz'
                    refine ⟨_,hrun c e _ zs _ _ h2 hcl rfl (by omega) (by simp only [List.length_append,h4,hl,e2,offs,List.map_cons,List.sum_cons,hof]; omega),row_step hs ho hblk h2 hsz' ?_ hgen (by simp [blk,h1,bOf]),rfl⟩
                    refine .inr ⟨bp,bs,_,e,pre,css.set i (pre2 ++ u.cells.toList ++ post2),post,h1,setRow_heap _ _ _ _ _ _ h2,?_,h4,Rcl_le hle _ _ (Rcl_set l css i z' _ h5 e4),fun x hx=>?_,h7,h8⟩
                    · rw [flatten_set css i cz _ hcz]; simp [List.append_assoc]
                    · rcases List.mem_or_eq_of_mem_set hx with hx | rfl
                      · exact h6 x hx
                      · have:=h6 cz (List.mem_of_getElem? hcz)
                        rw [e1] at this
                        simp at this e3 ⊢; omega
            · cases hso
        | _=>simp [objSet] at hso
  · cases h
end Tor
namespace Tor
open Go Go.RowKit
variable {P:Program} {base:Nat} {C:Cx} {H:Heap}
theorem elems_ok (hs:Sim base C H) {y v l2} (hy:Rv C y v) (h:elems H y = some l2) :
    ∃ a cap,v = .slice a l2.length cap ∧ (l2 = [] ∨ ∃ b off css sz,a = some ⟨b,off,none⟩ ∧ Rcl C l2 css ∧ (∀ c ∈ css,c.length = sz) ∧ cellsAt C.w b off css.flatten):=by
  cases y <;> try (cases h; done)
  · cases h
    exact ⟨none,0,Rv_nl hy,.inl rfl⟩
  · rename_i l
    cases h
    obtain ⟨a,cap,rfl,hc⟩:=Rv_isl hy
    refine ⟨a,cap,rfl,?_⟩
    rcases hc with h0 | ⟨b,off,css,sz,h1,_,_,h2,h3,h4⟩
    · exact .inl (List.eq_nil_of_length_eq_zero h0)
    · exact .inr ⟨b,off,css,sz,h1,h2,h3,h4⟩
  · rename_i o g sz st len
    simp only [elems] at h
    split at h
    · rename_i g' sz' l ho
      split at h
      · rename_i hh
        obtain ⟨rfl,rfl,hle⟩:=hh
        cases h
        have hlen:((l.drop st).take len).length = len:=by simp; omega
        rw [hlen]
        obtain ⟨hok,_⟩:=hs.obj o _ ho
        rcases Rv_sl hy with ⟨b,bs,cap,hβ,rfl,_⟩ | ⟨q,hβ,hl,a,rfl⟩
        · refine ⟨_,cap,rfl,?_⟩
          rcases hok with ⟨hn,_⟩ | ⟨b',bs',c,e,pre,css,post,h1,h2,h3,h4,h5,h6,_⟩
          · rw [hn] at hβ; cases hβ
          · rw [h1] at hβ; cases hβ
            refine .inr ⟨b,_,(css.drop st).take len,sz,rfl,Rcl_take _ _ _ (Rcl_drop _ _ _ h5),fun c hc=>h6 c (List.mem_of_mem_drop (List.mem_of_mem_take hc)),?_⟩
            have hcl:=Rcl_count _ _ h5
            have hc:c.toList = (pre ++ (css.take st).flatten) ++ ((css.drop st).take len).flatten ++ (((css.drop st).drop len).flatten ++ post):=by
              rw [h3]
              have:css.flatten = (css.take st).flatten ++ (((css.drop st).take len).flatten ++ ((css.drop st).drop len).flatten):=by
                rw [← List.flatten_append,List.take_append_drop,← List.flatten_append,List.take_append_drop]
              rw [this]; simp [List.append_assoc]
            have:=cellsAt_of h2 hc
            rw [List.length_append,h4,take_uniform css h6 st (by omega)] at this
            exact this
        · subst hl
          exact ⟨a,0,rfl,.inl (by simp)⟩
      · cases h
    · cases h
theorem cellsAt_drew {w:World} {b off cs} (h:cellsAt w b off cs):cellsAt w.drew b off cs:=fun i x hx=>by simpa using h i x hx
theorem run_first {w:World} {sz:Nat} {a:Option Addr} {n cap:Nat} {cs:List Value} (hn:cs.length = n * sz) (h:cs = [] ∨ ∃ b off,a = some ⟨b,off,none⟩ ∧ cellsAt w b off cs) :
    (Builtin.firstCells sz n (.slice a n cap)).run P w = .ok cs.toArray w:=by
  rcases h with rfl | ⟨b,off,rfl,hc⟩
  · cases a with
    | none=>exact run_firstCells_none w sz n n cap
    | some a=>exact run_firstCells_some w sz n a n cap [] hn (fun j v hv=>by simp at hv)
  · exact run_firstCells_some w sz n _ n cap cs hn (fun j v hv=>by rw [addr_add]; exact hc j v hv)
theorem first_ok {l2:List AV} {sz:Nat} {a:Option Addr} (h:l2 = [] ∨ ∃ b off css sz,a = some ⟨b,off,none⟩ ∧ Rcl C l2 css ∧ (∀ c ∈ css,c.length = sz) ∧ cellsAt C.w b off css.flatten)
    (hd:headSize sz l2 = true):∃ css,Rcl C l2 css ∧ (∀ c ∈ css,c.length = sz) ∧ css.flatten.length = l2.length * sz ∧ (css.flatten = [] ∨ ∃ b off,a = some ⟨b,off,none⟩ ∧ cellsAt C.w b off css.flatten):=by
  rcases h with rfl | ⟨b,off,css,sz',h1,h2,h3,h4⟩
  · exact ⟨[],rfl,fun c hc=>(by cases hc),by simp,.inl rfl⟩
  · have hcl:=Rcl_count _ _ h2
    by_cases hne:l2 = []
    · subst hne
      refine ⟨css,h2,?_,?_,.inr ⟨b,off,h1,h4⟩⟩
      · have:css = []:=List.eq_nil_of_length_eq_zero (by simpa using hcl)
        subst this; intro c hc; cases hc
      · have:css = []:=List.eq_nil_of_length_eq_zero (by simpa using hcl)
        subst this; simp
    · have:sz' = sz:=headSize_uniform h2 h3 hd hne
      subst this
      exact ⟨css,h2,h3,by rw [uniform_len css h3,hcl],.inr ⟨b,off,h1,h4⟩⟩
section
variable (w:World)
theorem run_app_in (t t2 ty e:TypeId) {e2:TypeId} {sz:Nat} (ht:P.underlying t = some (.slice e)) (ht2:P.underlying t2 = some (.slice e2)) (hz:sizeB P e = some sz) (a0:Option Addr) (sLen sCap:Nat) (a:Option Addr) (n c:Nat) (new:Array Value)
    (hf:(Builtin.firstCells sz n (.slice a n c)).run P w = .ok new w) (hn:sLen + n ≤ sCap) (w':World)
    (h0:a0 = none → w' = w) (h1:∀ b,a0 = some b → (storeCells (b.add (sLen * sz)) new.toList).run P w = .ok () w') :
    (Builtin.append_ #[t,t2] ty #[.slice a0 sLen sCap,.slice a n c]).run P w = .ok (.slice a0 (sLen + n) sCap) w':=by
  cases a0 with
  | none =>
    have:=h0 rfl
    subst this
    simp [Builtin.append_,run_underlying ht,run_underlying ht2,run_sizeOf hz,Builtin.lenOf,hn,hf]
  | some b =>
    have:=h1 b rfl
    simp [Builtin.append_,run_underlying ht,run_underlying ht2,run_sizeOf hz,Builtin.lenOf,hn,hf,this]
theorem run_app_grow (t t2 ty e:TypeId) {e2:TypeId} (i:TypeInfo) (z:Value) (ht:P.underlying t = some (.slice e)) (ht2:P.underlying t2 = some (.slice e2)) (hi:P.info? e = some i) (hz:i.zero = some z)
    (a0:Option Addr) (sLen sCap:Nat) (a:Option Addr) (n c:Nat) (olds news:Array Value)
    (hfo:(Builtin.firstCells i.size sLen (.slice a0 sLen sCap)).run P w.drew = .ok olds w.drew) (hf:(Builtin.firstCells i.size n (.slice a n c)).run P w.drew = .ok news w.drew)
    (hg:sCap < sLen + n) (h63:((sLen + n:Nat):Int) ≤ 9223372036854775807) (hfit:Builtin.nextslicecap (sLen + n) sCap * i.bytes ≤ 281474976710656) :
    (Builtin.append_ #[t,t2] ty #[.slice a0 sLen sCap,.slice a n c]).run P w =
      .ok (.slice (some ⟨w.heap.size,0,none⟩) (sLen + n) (grownCap w (sLen + n) sCap e))
        (w.drew.alloc (.cells (olds ++ news ++ Builtin.zeroCells z.cells (grownCap w (sLen + n) sCap e - (sLen + n))) e)):=by
  have hn:¬ (sLen + n ≤ sCap):=by omega
  have h63':¬ (9223372036854775807 < ((sLen:Int) + (n:Int))):=by omega
  have h48':¬ (281474976710656 < Builtin.nextslicecap (sLen + n) sCap * i.bytes):=by omega
  simp [Builtin.append_,run_underlying ht,run_underlying ht2,Go.sizeOf,typeInfo,zeroValue,hi,hz,Builtin.lenOf,hn,h63',h48',Question.forced,hf,hfo,newRow,grownCap]
end
def Cx.gen (C:Cx) (w:World) (o g:Nat) (q:Option (Nat × Nat)):Cx:={ C with w:=w,β:=fun o' g'=>if o' = o ∧ g' = g then some q else C.β o' g' }
theorem le_gen (hs:Sim base C H) {w'} {o g sz l} (ho:H[o]? = some (.arr g sz l)) (q) (hm:∀ b,C.F b → w'.heap[b]? = C.w.heap[b]?) (hshp:∀ b s,C.w.shape? b = some s → w'.shape? b = some s):Le C (C.gen w' o (g + 1) q) where
  ι:=rfl
  F _ h:=h
  β o' g' p h:=by
    have:¬ (o' = o ∧ g' = g + 1):=by
      rintro ⟨rfl,rfl⟩
      rw [(hs.obj o' _ ho).2 (g + 1) (Nat.lt_succ_self g)] at h; cases h
    simp [Cx.gen,this,h]
  mem b hb:=hm b hb
  shp b s h:=hshp b s h
theorem gen_genOk (hs:Sim base C H) {w' o g sz l} (ho:H[o]? = some (.arr g sz l)) (q sz' l'):GenOk (C.gen w' o (g + 1) q) o (.arr (g + 1) sz' l'):=by
  intro g' hg'
  have:g' ≠ g + 1:=by omega
  simp [Cx.gen,this,(hs.obj o _ ho).2 g' (by omega)]
theorem zeroCells_size (z:Array Value) (n:Nat):(Builtin.zeroCells z n).size = n * z.size:=by simp [Builtin.zeroCells]
theorem append_ok (hs:Sim base C H) {t t2 ty e e2 sz bytes X Y v u y H' b zv} {i:TypeInfo} (ht:sliceB P t = some e) (ht2:sliceB P t2 = some e2) (hi:P.info? e = some i) (hsz:i.size = sz) (hby:i.bytes = bytes) (hzv:i.zero = some zv) (hzs:zv.cells.size = sz)
    (hx:Rv C X v) (hy:Rv C Y u) (h:doAppend sz bytes H X Y = some (y,H',b)) :
    ∃ C' r,(Builtin.append_ #[t,t2] ty #[v,u]).run P C.w = .ok r C'.w ∧ OStep base C H C' H' ∧ Rv C' y r:=by
  have hu:=sliceB_inv ht
  have hu2:=sliceB_inv ht2
  have hszB:sizeB P e = some sz:=by simp [sizeB,hi,hsz]
  cases X <;> try (cases h; done)
  · -- a nil slice
    simp only [doAppend] at h
    cases hel:elems H Y with
    | none=>rw [hel] at h; cases h
    | some l2 =>
      rw [hel] at h
      simp only [appNil] at h
      split at h
      · rename_i hh
        obtain ⟨hb,hd,hlen⟩:=hh
        cases h
        rw [Rv_nl hx]
        obtain ⟨a,cap,rfl,hcs⟩:=elems_ok hs hy hel
        obtain ⟨css,c1,c2,c3,c4⟩:=first_ok hcs hd
        by_cases h0:l2.length = 0
        · have hl0:l2 = []:=List.eq_nil_of_length_eq_zero h0
          subst hl0
          have hrun:=run_app_in C.w t t2 ty e hu hu2 hszB none 0 0 a 0 cap css.flatten.toArray (run_first c3 c4) (by simp) C.w (fun _=>rfl) (fun b hb=>by cases hb)
          obtain ⟨x1,x2⟩:=nils_step hs sz none
          exact ⟨C.with C.w H.length none,_,hrun,x1,x2⟩
        · unfold maxLenA at hlen
          have hg:=grownCap_ge C.w (0 + l2.length) 0 e
          rw [Nat.zero_add] at hg
          have hrun:=run_app_grow C.w t t2 ty e i zv hu hu2 hi hzv none 0 0 a l2.length cap #[] css.flatten.toArray (run_firstCells_none _ _ _ _ _)
            (hsz ▸ run_first c3 (c4.imp id (fun ⟨b,off,x1,x2⟩=>⟨b,off,x1,cellsAt_drew x2⟩))) (by omega) (by omega)
            (growslice_fits (by omega) (by
              have:(0 + l2.length) * i.bytes ≤ 4294967296 * 4096:=Nat.mul_le_mul (by omega) (by omega)
              omega))
          rw [Nat.zero_add] at hrun
          have hcl:=Rcl_count _ _ c1
          generalize hgc:grownCap C.w l2.length 0 e = gc at hrun hg
          have hst:=arr_step hs (Grow.drewAlloc C.w (.cells (#[] ++ css.flatten.toArray ++ Builtin.zeroCells zv.cells (gc - l2.length)) e)) (l:=l2) (css:=css)
            (post:=(Builtin.zeroCells zv.cells (gc - l2.length)).toList) (sz:=sz) (cap:=gc) e (heap_new _ _) (by simp) c1 c2 (by
              simp only [Array.size_append,List.size_toArray,zeroCells_size,hzs,c3,List.size_toArray,List.length_nil]
              rw [Nat.zero_add,← Nat.add_mul]
              congr 1; omega) (by omega)
          exact ⟨_,_,hrun,hst.1,hst.2⟩
      · cases h
  · rename_i o g sz' st len
    simp only [doAppend] at h
    cases ho:H[o]? with
    | none=>rw [ho] at h; cases h
    | some ob =>
      rw [ho] at h
      cases hel:elems H Y with
      | none=>rw [hel] at h; cases ob <;> cases h
      | some l2 =>
        rw [hel] at h
        cases ob <;> try (cases h; done)
        rename_i g' sz'' l
        replace h:=appTo_in h
        simp only [appIn] at h
        split at h
        · rename_i hh
          obtain ⟨rfl,rfl,rfl,hsl,hb,hd,hlen⟩:=hh
          cases h
          unfold maxLenA at hlen
          obtain ⟨a,cap2,rfl,hcs⟩:=elems_ok hs hy hel
          obtain ⟨css2,c1,c2,c3,c4⟩:=first_ok hcs hd
          have hc2:=Rcl_count _ _ c1
          obtain ⟨hok,hgn⟩:=hs.obj o _ ho
          -- what the slice shows
          have hd1:(l.take (st + len)).drop st = (l.drop st).take len:=by rw [List.drop_take]; congr 1; omega
          have hsl1:st + len = (l.take (st + len)).length:=by simp; omega
          rw [← hd1]
          generalize hl1:l.take (st + len) = l1 at hd1 hsl1
          have key:∃ a0 cap css,v = .slice a0 len cap ∧ len ≤ cap ∧ Rcl C (l1.drop st) css ∧ (∀ c ∈ css,c.length = sz'') ∧ css.length = len ∧ (css.flatten = [] ∨ ∃ b off,a0 = some ⟨b,off,none⟩ ∧ cellsAt C.w b off css.flatten) ∧
              ((∃ b bs c ee pre css0 post,C.β o g = some (some (b,bs)) ∧ C.w.heap[b]? = some (.cells c ee (0,0)) ∧ c.toList = pre ++ css0.flatten ++ post ∧ pre.length = bs ∧ Rcl C l1 css0 ∧ (∀ x ∈ css0,x.length = sz'') ∧ base ≤ b ∧ ¬ C.F b ∧
                a0 = some ⟨b,bs + st * sz'',none⟩ ∧ css = css0.drop st ∧ bs + st * sz'' + cap * sz'' ≤ c.size) ∨ (cap = 0 ∧ len = 0)):=by
            have hdl:(l1.drop st).length = len:=by simp; omega
            rcases Rv_sl hx with ⟨b,bs,cap,hβ,rfl,hle,hroom⟩ | ⟨q,hβ,hl,a,rfl⟩
            · rcases hok with ⟨hn,hl0⟩ | ⟨b',bs',c,ee,pre,css',post',h1,h2,h3',h4,h5',h6',h7,h8⟩
              · rw [hn] at hβ; cases hβ
              · rw [h1] at hβ; cases hβ
                have hcc':=Rcl_count _ _ h5'
                have h5:Rcl C l1 (css'.take (st + len)):=by rw [← hl1]; exact Rcl_take _ _ _ h5'
                have h3:c.toList = pre ++ (css'.take (st + len)).flatten ++ ((css'.drop (st + len)).flatten ++ post'):=by
                  have:css'.flatten = (css'.take (st + len)).flatten ++ (css'.drop (st + len)).flatten:=by rw [← List.flatten_append,List.take_append_drop]
                  rw [h3',this]; simp [List.append_assoc]
                have h6:∀ x ∈ css'.take (st + len),x.length = sz'':=fun x hx=>h6' x (List.mem_of_mem_take hx)
                generalize css'.take (st + len) = css at h5 h3 h6
                generalize (css'.drop (st + len)).flatten ++ post' = post at h3
                have hcc:=Rcl_count _ _ h5
                obtain ⟨e',n,hs1,hs2⟩:=hroom
                simp only [World.shape?,h2,Option.some.injEq,Prod.mk.injEq] at hs1
                obtain ⟨_,rfl⟩:=hs1
                refine ⟨_,cap,css.drop st,rfl,hle,Rcl_drop _ _ _ h5,fun c hc=>h6 c (List.mem_of_mem_drop hc),by simp; omega,.inr ⟨b,_,rfl,?_⟩,.inl ⟨b,bs,c,ee,pre,css,post,h1,h2,h3,h4,h5,h6,h7,h8,rfl,rfl,hs2⟩⟩
                have hc:c.toList = (pre ++ (css.take st).flatten) ++ (css.drop st).flatten ++ post:=by
                  rw [h3]
                  have:css.flatten = (css.take st).flatten ++ (css.drop st).flatten:=by rw [← List.flatten_append,List.take_append_drop]
                  rw [this]; simp [List.append_assoc]
                have:=cellsAt_of h2 hc
                rw [List.length_append,h4,take_uniform css h6 st (by omega)] at this
                exact this
            · subst hl
              have:l1.drop st = []:=List.eq_nil_of_length_eq_zero hdl
              rw [this]
              exact ⟨a,0,[],rfl,Nat.le_refl _,rfl,fun c hc=>(by cases hc),rfl,.inl rfl,.inr ⟨rfl,rfl⟩⟩
          obtain ⟨a0,cap,css,rfl,hcap,k1,k2,k3,k4,k5⟩:=key
          have hfl:=uniform_len css k2
          have hfl2:=uniform_len css2 c2
          by_cases hin:len + l2.length ≤ cap
          · -- in place
            rcases k5 with ⟨b,bs,c,ee,pre,css0,post,h1,h2,h3,h4,h5,h6,h7,h8,rfl,rfl,h9⟩ | ⟨rfl,rfl⟩
            · have hcc:=Rcl_count _ _ h5
              have hsum:css0.flatten.length = css0.length * sz'':=uniform_len css0 h6
              have hpos:pre.length + css0.flatten.length = bs + st * sz'' + len * sz'':=by
                rw [h4,hsum,hcc,← hsl1,Nat.add_mul]; omega
              have hcsz:c.size = pre.length + css0.flatten.length + post.length:=by rw [← Array.length_toList,h3,List.length_append,List.length_append]
              have hroom:css2.flatten.length ≤ post.length:=by
                have:(len + l2.length) * sz'' ≤ cap * sz'':=Nat.mul_le_mul_right _ hin
                rw [Nat.add_mul] at this
                rw [hfl2,hc2]; omega
              have hst:=run_storeCells_at P b (bs + st * sz'' + len * sz'') ee css2.flatten 0 c C.w h2 (by omega) (fun v hv=>by
                obtain ⟨cc,hcc,hv⟩:=List.mem_flatten.1 hv
                exact Rcl_one _ _ c1 cc hcc v hv)
              simp only [Nat.add_zero] at hst
              have hcells:c.toList.take (bs + st * sz'' + len * sz'') ++ css2.flatten ++ c.toList.drop (bs + st * sz'' + len * sz'' + css2.flatten.length) = pre ++ (css0 ++ css2).flatten ++ post.drop css2.flatten.length:=by
                rw [h3,← hpos,show pre.length + css0.flatten.length = (pre ++ css0.flatten).length by simp,List.take_left,List.drop_append,List.drop_eq_nil_of_le (by omega),List.nil_append,List.flatten_append]
                rw [show (pre ++ css0.flatten).length + css2.flatten.length - (pre ++ css0.flatten).length = css2.flatten.length by omega]
                simp [List.append_assoc]
              rw [hcells] at hst
              have hrun:=run_app_in C.w t t2 ty e hu hu2 hszB (some ⟨b,bs + st * sz'',none⟩) len cap a l2.length cap2 css2.flatten.toArray (run_first c3 c4) hin _ (fun hb=>by cases hb) (fun b1 hb1=>by cases hb1; rw [addr_add]; exact hst)
              have hsize:(pre ++ (css0 ++ css2).flatten ++ post.drop css2.flatten.length).toArray.size = c.size:=by
                rw [hcsz]; simp only [List.size_toArray,List.length_append,List.flatten_append,List.length_drop]; omega
              have hblk:blk C o (.arr g sz'' l) = some b:=by simp [blk,h1,bOf]
              have hle1:=setRow_le hs ho hblk h2 hsize
              have hle:Le C (C.gen (C.w.setRow b (pre ++ (css0 ++ css2).flatten ++ post.drop css2.flatten.length).toArray) o (g + 1) (some (b,bs + st * sz''))):=le_gen hs ho _ hle1.mem hle1.shp
              have hβ':(C.gen (C.w.setRow b (pre ++ (css0 ++ css2).flatten ++ post.drop css2.flatten.length).toArray) o (g + 1) (some (b,bs + st * sz''))).β o (g + 1) = some (some (b,bs + st * sz'')):=by simp [Cx.gen]
              have hnew:=setRow_heap C.w b c (pre ++ (css0 ++ css2).flatten ++ post.drop css2.flatten.length).toArray ee (0,0) h2
              have hm:∀ b1,b1 < C.w.heap.size → blk C o (.arr g sz'' l) ≠ some b1 → (C.gen (C.w.setRow b (pre ++ (css0 ++ css2).flatten ++ post.drop css2.flatten.length).toArray) o (g + 1) (some (b,bs + st * sz''))).w.heap[b1]? = C.w.heap[b1]?:=fun b1 _ hne=>setRow_other _ _ _ _ (fun e=>hne (by rw [hblk,e]))
              have hlast:∀ b1,blk (C.gen (C.w.setRow b (pre ++ (css0 ++ css2).flatten ++ post.drop css2.flatten.length).toArray) o (g + 1) (some (b,bs + st * sz''))) o (.arr (g + 1) sz'' (l1.drop st ++ l2)) = some b1 → blk C o (.arr g sz'' l) = some b1 ∨ C.w.heap.size ≤ b1:=by
                intro b1 hb1
                left
                simp only [blk,hβ',bOf,Option.some.injEq] at hb1
                rw [hblk,hb1]
              refine ⟨_,_,hrun,⟨hle,hs.set ho hle (fun b1 hb1=>⟨by simpa [Cx.gen] using hs.fsz b1 hb1,.inl hb1⟩) (by simp [Cx.gen]) (fun o' g hne=>by simp [Cx.gen,hne]) hm ?_ (gen_genOk hs ho _ _ _) hlast,⟨rfl,rfl,rfl,by simp [Cx.gen],fun k hk=>setRow_other _ _ _ _ (by omega)⟩,fun _ h=>.inl h,set_priv hs ho hle (fun _ h=>h) hm hlast⟩,?_⟩
              · refine .inr ⟨b,bs + st * sz'',_,ee,pre ++ (css0.take st).flatten,css0.drop st ++ css2,post.drop css2.flatten.length,hβ',hnew,?_,?_,Rcl_le hle _ _ (Rcl_append _ _ _ _ (Rcl_drop _ _ _ h5) c1),?_,h7,h8⟩
                · have:(css0 ++ css2).flatten = (css0.take st).flatten ++ (css0.drop st ++ css2).flatten:=by
                    rw [← List.flatten_append,← List.append_assoc,List.take_append_drop]
                  rw [this]; simp [List.append_assoc]
                · rw [List.length_append,h4,take_uniform css0 h6 st (by omega)]
                · intro x hx
                  rcases List.mem_append.1 hx with hx | hx
                  · exact h6 x (List.mem_of_mem_drop hx)
                  · exact c2 x hx
              · refine Rv_one ?_ rfl rfl
                simp only [Rc]
                refine .inl ⟨b,bs + st * sz'',cap,hβ',by simp,hin,?_⟩
                refine ⟨ee,c.size,?_,by omega⟩
                show World.shape? (C.w.setRow b _) b = _
                simp only [World.shape?,hnew,hsize]
            · have hl2:l2 = []:=List.eq_nil_of_length_eq_zero (by omega)
              subst hl2
              have hc0:css2 = []:=List.eq_nil_of_length_eq_zero (by simpa using hc2)
              subst hc0
              have hrun:=run_app_in C.w t t2 ty e hu hu2 hszB a0 0 0 a 0 cap2 #[] (run_first (by simp) (.inl rfl)) (by simp) C.w (fun _=>rfl) (fun b1 hb1=>rfl)
              have hle:Le C (C.gen C.w o (g + 1) none):=le_gen hs ho _ (fun _ _=>rfl) (fun _ _ h=>h)
              have hβ':(C.gen C.w o (g + 1) none).β o (g + 1) = some none:=by simp [Cx.gen]
              have hd0:l1.drop st = []:=List.eq_nil_of_length_eq_zero (by simp; omega)
              have hm:∀ b1,b1 < C.w.heap.size → blk C o (.arr g sz'' l) ≠ some b1 → (C.gen C.w o (g + 1) none).w.heap[b1]? = C.w.heap[b1]?:=fun _ _ _=>rfl
              have hlast:∀ b1,blk (C.gen C.w o (g + 1) none) o (.arr (g + 1) sz'' (l1.drop st ++ [])) = some b1 → blk C o (.arr g sz'' l) = some b1 ∨ C.w.heap.size ≤ b1:=by
                intro b1 hb1; simp only [blk,hβ',bOf] at hb1; cases hb1
              refine ⟨C.gen C.w o (g + 1) none,_,hrun,⟨hle,hs.set ho hle (fun b1 hb1=>⟨hs.fsz b1 hb1,.inl hb1⟩) (Nat.le_refl _) (fun o' g hne=>by simp [Cx.gen,hne]) hm ?_ (gen_genOk hs ho _ _ _) hlast,(Grow.refl C.w).below hs.bsz,fun _ h=>.inl h,set_priv hs ho hle (fun _ h=>h) hm hlast⟩,?_⟩
              · exact .inl ⟨hβ',by simp [hd0]⟩
              · refine Rv_one ?_ rfl rfl
                simp only [Rc]
                exact .inr ⟨none,hβ',rfl,a0,rfl⟩
          · -- a new row
            have hrun:=run_app_grow C.w t t2 ty e i zv hu hu2 hi hzv a0 len cap a l2.length cap2 css.flatten.toArray css2.flatten.toArray
              (by
                rw [hsz]
                rcases k4 with k4 | ⟨b,off,x1,x2⟩
                · cases a0 with
                  | none=>rw [k4]; exact run_firstCells_none _ _ _ _ _
                  | some a0=>exact run_firstCells_some _ _ _ _ _ _ _ (by rw [hfl,k3]) (fun j v hv=>by rw [k4] at hv; simp at hv)
                · subst x1
                  exact run_firstCells_some _ _ _ _ _ _ _ (by rw [hfl,k3]) (fun j v hv=>by rw [addr_add]; exact cellsAt_drew x2 j v hv))
              (hsz ▸ run_first c3 (c4.imp id (fun ⟨b,off,x1,x2⟩=>⟨b,off,x1,cellsAt_drew x2⟩))) (by omega) (by omega)
              (growslice_fits (by omega) (by
                have:(len + l2.length) * i.bytes ≤ 4294967296 * 4096:=Nat.mul_le_mul (by omega) (by omega)
                omega))
            have hg:=grownCap_ge C.w (len + l2.length) cap e
            generalize hgc:grownCap C.w (len + l2.length) cap e = gc at hrun hg
            generalize hw:C.w.drew.alloc (.cells (css.flatten.toArray ++ css2.flatten.toArray ++ Builtin.zeroCells zv.cells (gc - (len + l2.length))) e) = w' at hrun
            have hgr:Grow C.w w':=hw ▸ Grow.drewAlloc _ _
            have hnew:w'.heap[C.w.heap.size]? = some (.cells (css.flatten.toArray ++ css2.flatten.toArray ++ Builtin.zeroCells zv.cells (gc - (len + l2.length))) e (0,0)):=by rw [← hw]; exact heap_new _ _
            have hle:Le C (C.gen w' o (g + 1) (some (C.w.heap.size,0))):=le_gen hs ho _ (fun b hb=>hgr.old b (hs.fsz b hb)) (fun _ _ h=>hgr.shape h)
            have hβ':(C.gen w' o (g + 1) (some (C.w.heap.size,0))).β o (g + 1) = some (some (C.w.heap.size,0)):=by simp [Cx.gen]
            have hcsize:(css.flatten.toArray ++ css2.flatten.toArray ++ Builtin.zeroCells zv.cells (gc - (len + l2.length))).size = gc * sz'':=by
              simp only [Array.size_append,List.size_toArray,zeroCells_size,hzs]
              rw [hfl,hfl2,k3,hc2,← Nat.add_mul,← Nat.add_mul]
              congr 1; omega
            have hm:∀ b1,b1 < C.w.heap.size → blk C o (.arr g sz'' l) ≠ some b1 → (C.gen w' o (g + 1) (some (C.w.heap.size,0))).w.heap[b1]? = C.w.heap[b1]?:=fun b1 hb1 _=>hgr.old b1 hb1
            have hlast:∀ b1,blk (C.gen w' o (g + 1) (some (C.w.heap.size,0))) o (.arr (g + 1) sz'' (l1.drop st ++ l2)) = some b1 → blk C o (.arr g sz'' l) = some b1 ∨ C.w.heap.size ≤ b1:=by
              intro b1 hb1
              right
              simp only [blk,hβ',bOf,Option.some.injEq] at hb1
              omega
            refine ⟨C.gen w' o (g + 1) (some (C.w.heap.size,0)),_,hrun,⟨hle,hs.set ho hle (fun b1 hb1=>⟨Nat.lt_of_lt_of_le (hs.fsz b1 hb1) hgr.size,.inl hb1⟩) hgr.size (fun o' g hne=>by simp [Cx.gen,hne]) hm ?_ (gen_genOk hs ho _ _ _) hlast,hgr.below hs.bsz,fun _ h=>.inl h,set_priv hs ho hle (fun _ h=>h) hm hlast⟩,?_⟩
            · refine .inr ⟨C.w.heap.size,0,_,e,[],css ++ css2,(Builtin.zeroCells zv.cells (gc - (len + l2.length))).toList,hβ',hnew,by simp,rfl,Rcl_le hle _ _ (Rcl_append _ _ _ _ k1 c1),?_,hs.bsz,fun h=>Nat.lt_irrefl _ (hs.fsz _ h)⟩
              intro x hx
              rcases List.mem_append.1 hx with hx | hx
              · exact k2 x hx
              · exact c2 x hx
            · refine Rv_one ?_ rfl rfl
              simp only [Rc]
              refine .inl ⟨C.w.heap.size,0,gc,hβ',by simp,hg,e,gc * sz'',?_,by omega⟩
              show World.shape? w' C.w.heap.size = _
              simp only [World.shape?,hnew,hcsize]
        · cases h
theorem copy_ok (hs:Sim base C H) {t t2 ty e sz X Y v u y H' b} (ht:sliceB P t = some e) (hz:sizeB P e = some sz) (hx:Rv C X v) (hy:Rv C Y u) (h:doCopy sz H X Y = some (y,H',b)) :
    ∃ C' r,(Builtin.copy_ #[t,t2] ty #[v,u]).run P C.w = .ok r C'.w ∧ OStep base C H C' H' ∧ Rv C' y r:=by
  have hu:=sliceB_inv ht
  cases X <;> try (cases h; done)
  rename_i o g sz' st len
  simp only [doCopy] at h
  cases ho:H[o]? with
  | none=>rw [ho] at h; cases h
  | some ob =>
    rw [ho] at h
    cases hel:elems H Y with
    | none=>rw [hel] at h; cases ob <;> cases h
    | some l2 =>
      rw [hel] at h
      cases ob <;> try (cases h; done)
      rename_i g' sz'' l
      simp only [copyTo] at h
      split at h
      · rename_i hh
        obtain ⟨rfl,rfl,rfl,hsl,hd⟩:=hh
        cases h
        obtain ⟨a,cap2,rfl,hcs⟩:=elems_ok hs hy hel
        obtain ⟨css2,c1,c2,c3,c4⟩:=first_ok hcs hd
        have hc2:=Rcl_count _ _ c1
        obtain ⟨hok,hgn⟩:=hs.obj o _ ho
        generalize hm:Nat.min l2.length len = m
        have hm':m = min l2.length len:=hm.symm
        have ctk:Rcl C (l2.take len) (css2.take len):=Rcl_take _ _ _ c1
        have c2':∀ c ∈ css2.take len,c.length = sz'':=fun c hc=>c2 c (List.mem_of_mem_take hc)
        have hct:(css2.take len).length = m:=by rw [List.length_take]; omega
        have c3':(css2.take len).flatten.length = m * sz'':=by rw [uniform_len _ c2',hct]
        have c4':(css2.take len).flatten = [] ∨ ∃ b off,a = some ⟨b,off,none⟩ ∧ cellsAt C.w b off (css2.take len).flatten:=by
          rcases c4 with c4 | ⟨b,off,x1,x2⟩
          · left
            have:css2.flatten = (css2.take len).flatten ++ (css2.drop len).flatten:=by rw [← List.flatten_append,List.take_append_drop]
            rw [c4] at this
            exact (List.append_eq_nil_iff.1 this.symm).1
          · refine .inr ⟨b,off,x1,?_⟩
            have:css2.flatten = [] ++ (css2.take len).flatten ++ (css2.drop len).flatten:=by rw [List.nil_append,← List.flatten_append,List.take_append_drop]
            rw [this] at x2
            simpa using cellsAt_part x2
        have hfirst:(Builtin.firstCells sz'' m (.slice a l2.length cap2)).run P C.w = .ok (css2.take len).flatten.toArray C.w:=by
          rcases c4' with k | ⟨b,off,rfl,hc⟩
          · rw [k] at c3' ⊢
            cases a with
            | none=>exact run_firstCells_none _ _ _ _ _
            | some a=>exact run_firstCells_some _ _ _ _ _ _ _ c3' (fun j v hv=>by simp at hv)
          · exact run_firstCells_some _ _ _ _ _ _ _ c3' (fun j v hv=>by rw [addr_add]; exact hc j v hv)
        have hrun:∀ (a0:Option Addr) cap w',(a0 = none → w' = C.w) → (∀ b,a0 = some b → (storeCells b (css2.take len).flatten).run P C.w = .ok () w') →
            (Builtin.copy_ #[t,t2] ty #[.slice a0 len cap,.slice a l2.length cap2]).run P C.w = .ok (.int .i64 (m:Nat)) w':=by
          intro a0 cap w' h0 h1
          cases a0 with
          | none =>
            have:=h0 rfl
            subst this
            simp [Builtin.copy_,run_underlying hu,run_sizeOf hz,Builtin.lenOf,hm,hfirst,goInt]
          | some b =>
            have:=h1 b rfl
            simp [Builtin.copy_,run_underlying hu,run_sizeOf hz,Builtin.lenOf,hm,hfirst,goInt,this]
        have zero:len = 0 → l.take st ++ l2.take len ++ l.drop (st + m) = l:=by
          intro h0
          have:m = 0:=by omega
          subst h0; rw [this]; simp
        rcases Rv_sl hx with ⟨b,bs,cap,hβ,rfl,hle,hroom⟩ | ⟨q,hβ,hl,a1,rfl⟩
        · rcases hok with ⟨hn,hl0⟩ | ⟨b',bs',c,ee,pre,css,post,h1,h2,h3,h4,h5,h6,h7,h8⟩
          · rw [hn] at hβ; cases hβ
          · rw [h1] at hβ; cases hβ
            have hcc:=Rcl_count _ _ h5
            have hcl:c.toList = (pre ++ (css.take st).flatten) ++ ((css.drop st).take m).flatten ++ ((css.drop (st + m)).flatten ++ post):=by
              rw [h3]
              have:css.flatten = (css.take st).flatten ++ (((css.drop st).take m).flatten ++ ((css.drop st).drop m).flatten):=by
                rw [← List.flatten_append,List.take_append_drop,← List.flatten_append,List.take_append_drop]
              rw [this,List.drop_drop]; simp [List.append_assoc]
            have hmid:((css.drop st).take m).flatten.length = m * sz'':=by
              rw [uniform_len (sz:=sz'') _ (fun c hc=>h6 c (List.mem_of_mem_drop (List.mem_of_mem_take hc)))]
              congr 1; simp; omega
            have hpre:(pre ++ (css.take st).flatten).length = bs + st * sz'':=by rw [List.length_append,h4,take_uniform css h6 st (by omega)]
            have hlenc:c.size = bs + st * sz'' + m * sz'' + ((css.drop (st + m)).flatten ++ post).length:=by
              rw [← Array.length_toList,hcl,List.length_append,List.length_append,hpre,hmid]
            have hst:=run_storeCells_at P b (bs + st * sz'') ee (css2.take len).flatten 0 c C.w h2 (by omega) (fun v hv=>by
              obtain ⟨cc,hcc,hv⟩:=List.mem_flatten.1 hv
              exact Rcl_one _ _ ctk cc hcc v hv)
            simp only [Nat.add_zero] at hst
            rw [hcl,← hpre,take_drop_mid _ _ _ _ (by omega)] at hst
            rw [hpre] at hst
            have hsize:((pre ++ (css.take st).flatten) ++ (css2.take len).flatten ++ ((css.drop (st + m)).flatten ++ post)).toArray.size = c.size:=by
              rw [hlenc,List.size_toArray,List.length_append,List.length_append,hpre,c3']
            have hblk:blk C o (.arr g sz'' l) = some b:=by simp [blk,h1,bOf]
            have hle:=setRow_le hs ho hblk h2 hsize
            refine ⟨_,_,hrun _ cap _ (fun hh=>by cases hh) (fun b1 hb1=>by cases hb1; exact hst),row_step hs ho hblk h2 hsize (.inr ⟨b,bs,_,ee,pre,css.take st ++ css2.take len ++ css.drop (st + m),post,h1,setRow_heap _ _ _ _ _ _ h2,by simp [List.append_assoc],h4,?_,?_,h7,h8⟩) hgn (by simp [blk,h1,bOf]),mk_int _ _⟩
            · exact Rcl_le hle _ _ (Rcl_append _ _ _ _ (Rcl_append _ _ _ _ (Rcl_take _ _ _ h5) ctk) (Rcl_drop _ _ _ h5))
            · intro x hx
              rcases List.mem_append.1 hx with hx | hx
              · rcases List.mem_append.1 hx with hx | hx
                · exact h6 x (List.mem_of_mem_take hx)
                · exact c2' x hx
              · exact h6 x (List.mem_of_mem_drop hx)
        · have hc0:(css2.take len).flatten = []:=by rw [hl]; simp
          have hr0:=hrun a1 0 C.w (fun _=>rfl) (fun b _=>by rw [hc0]; rfl)
          rw [hl] at hr0
          refine ⟨C,_,hr0,?_,mk_int _ _⟩
          rw [zero hl]
          have hlt:o < H.length:=(List.getElem?_eq_some_iff.1 ho).1
          have hself:H.set o (.arr g sz'' l) = H:=by
            apply List.ext_getElem?
            intro i
            rw [List.getElem?_set]
            split
            · rename_i e; subst e; first | exact ho.symm | (rw [if_pos hlt]; exact ho.symm)
            · rfl
          rw [hself]
          exact ⟨Le.refl _,hs,(Grow.refl C.w).below hs.bsz,fun _ h=>.inl h,fun b _ hF hno=>⟨rfl,hF,hno⟩⟩
      · cases h
theorem findNow_upd {d:TypeDesc} (hk:intKind d = true) (n:Int) (y:AV) (v:Value) (hv:Rv1 C y v) (hy:y.known = true) (cl:Nat):∀ {kvs:List (Int × AV)} {es:List MapEntry},MapR C kvs es → ∀ i,
    (Instr.findNow d (.int .i64 n) es i = some none ∧ (∀ e ∈ es,e.key ≠ .int .i64 n) ∧ MapR C (mset n y kvs) (es ++ [{ key:=.int .i64 n,val:=v,born:=cl }]) ∧ mdel n kvs = kvs) ∨
    ∃ j e,Instr.findNow d (.int .i64 n) es i = some (some (i + j,e.val)) ∧ es[j]? = some e ∧ e.key = .int .i64 n ∧
      MapR C (mset n y kvs) (es.modify j fun e=>{ e with key:=.int .i64 n,val:=v }) ∧ MapR C (mdel n kvs) (es.eraseIdx j):=by
  intro kvs es h
  induction h with
  | nil=>intro i; exact .inl ⟨rfl,fun e he=>(by cases he),.cons rfl hv hy .nil,rfl⟩
  | cons h1 h2 h3 h4 ih =>
    rename_i k' x e r es
    intro i
    have hs:Instr.sameNow d (.int .i64 n) e.key = some (n == k'):=by
      cases d <;> try (cases hk; done)
      simp [Instr.sameNow,h1]
    by_cases hkk:n = k'
    · subst hkk
      refine .inr ⟨0,e,by simp [Instr.findNow,hs],rfl,h1,?_,?_⟩
      · simp only [mset,if_pos,List.modify_zero_cons]
        exact .cons rfl hv hy h4
      · simpa [mdel] using h4
    · have hb:(n == k') = false:=by simp [hkk]
      rcases ih (i + 1) with ⟨a1,a0,a2,a3⟩ | ⟨j,e',a1,a2,a3,a4,a5⟩
      · refine .inl ⟨by simp [Instr.findNow,hs,hb,a1],fun e2 he2=>?_,?_,by simp [mdel,hkk,a3]⟩
        · cases he2 with
          | head=>rw [h1]; exact fun e=>hkk (by cases e; rfl)
          | tail _ he2=>exact a0 e2 he2
        simp only [mset,if_neg hkk]
        exact .cons h1 h2 h3 a2
      · refine .inr ⟨j + 1,e',by simp [Instr.findNow,hs,hb,a1,Nat.add_assoc,Nat.add_comm 1 j],by simpa using a2,a3,?_,?_⟩
        · simp only [mset,if_neg hkk,List.modify_succ_cons]
          exact .cons h1 h2 h3 a4
        · simp only [mdel,if_neg hkk,List.eraseIdx_cons_succ]
          exact .cons h1 h2 h3 a5
theorem map_step (hs:Sim base C H) {o kvs kvs' b} {es es':Array MapEntry} {clock clock':Nat} (ho:H[o]? = some (.map kvs)) (hβ:C.β o 0 = some (some (b,0))) (hb:C.w.heap[b]? = some (.map es clock)) (hbase:base ≤ b) (hF:¬ C.F b)
    (hm:MapRS C kvs' es' clock'):OStep base C H { C with w:={ C.w with heap:=C.w.heap.setIfInBounds b (.map es' clock') } } (H.set o (.map kvs')):=by
  have hlt:=lt_of_heap hb
  have hsame:(C.w.heap.setIfInBounds b (.map es' clock'))[b]? = some (.map es' clock'):=by simp [hlt]
  have hoth:∀ i,i ≠ b → (C.w.heap.setIfInBounds b (.map es' clock'))[i]? = C.w.heap[i]?:=by
    intro i hi
    rw [Array.getElem?_setIfInBounds]
    rw [if_neg (fun e=>hi e.symm)]
  have hblk:blk C o (.map kvs) = some b:=by simp [blk,hβ,bOf]
  have hle:Le C { C with w:={ C.w with heap:=C.w.heap.setIfInBounds b (.map es' clock') } }:=by
    refine ⟨rfl,fun _ h=>h,fun _ _ _ h=>h,fun b1 hb1=>hoth b1 (fun e=>hF (e ▸ hb1)),fun b1 s hs1=>?_⟩
    by_cases hbb:b1 = b
    · subst hbb; simp [World.shape?,hb] at hs1
    · simp only [World.shape?,hoth b1 hbb] at hs1 ⊢; exact hs1
  have hm2:∀ b1,b1 < C.w.heap.size → blk C o (.map kvs) ≠ some b1 → (C.w.heap.setIfInBounds b (.map es' clock'))[b1]? = C.w.heap[b1]?:=fun b1 _ hne=>hoth b1 (fun e=>hne (by rw [hblk,e]))
  have hlast:∀ b1,blk { C with w:={ C.w with heap:=C.w.heap.setIfInBounds b (.map es' clock') } } o (.map kvs') = some b1 → blk C o (.map kvs) = some b1 ∨ C.w.heap.size ≤ b1:=by
    intro b1 hb1
    left
    simp only [blk,hβ,bOf,Option.some.injEq] at hb1
    rw [hblk,hb1]
  refine ⟨hle,hs.set ho hle (fun b1 hb1=>⟨by simpa using hs.fsz b1 hb1,.inl hb1⟩) (by simp) (fun _ _ _=>rfl) hm2 ?_ trivial hlast,⟨rfl,rfl,rfl,by simp,fun k hk=>hoth k (by omega)⟩,fun _ h=>.inl h,set_priv hs ho hle (fun _ h=>h) hm2 hlast⟩
  exact ⟨b,es',clock',hβ,hsame,⟨MapR_le hle hm.1,hm.2⟩,hbase,hF⟩
theorem mupd_ok (hs:Sim base C H) {t kt et kd X K Y v vk u y H' b} (ht:mapB P t = some (kt,et)) (hkt:P.underlying kt = some kd) (hki:intKind kd = true)
    (hx:Rv C X v) (hk:Rv C K vk) (hy:Rv C Y u) (h:doMupd H X K Y = some (y,H',b)) :
    ∃ C',(Instr.mapUpdate t v vk u).run P C.w = .ok () C'.w ∧ OStep base C H C' H' ∧ y = nothing:=by
  cases X <;> try (cases h; done)
  cases K <;> try (cases h; done)
  rename_i o k n
  cases k <;> try (cases h; done)
  simp only [doMupd] at h
  split at h
  · rename_i hyk
    cases ho:H[o]? with
    | none=>rw [ho] at h; cases h
    | some ob =>
      rw [ho] at h
      cases ob <;> try (cases h; done)
      rename_i kvs
      cases h
      obtain ⟨b,es,cl,h1,h2,h3,h4,h5⟩:=obj_map hs ho
      obtain ⟨b',h1',rfl⟩:=Rv_mp hx
      rw [h1] at h1'; cases h1'
      rw [Rv_int hk]
      have hyv:=known_Rv1 hyk hy
      rcases findNow_upd hki n Y u hyv hyk cl h3.1 0 with ⟨a1,a0,a2,_⟩ | ⟨j,e,a1,a2,a3,a4,_⟩
      · refine ⟨_,?_,map_step hs (es':=es.push { key:=.int .i64 n,val:=u,born:=cl }) (clock':=cl + 1) ho h1 h2 h4 h5 ⟨by simpa using a2,Go.MapKept.stamped_push h3.2 a0⟩,rfl⟩
        simp [Instr.mapUpdate,Instr.findKey,run_underlying (mapB_inv ht),run_underlying hkt,MapKept.run_getObj_map h2,checkKey_int hkt hki,a1,MapKept.run_setObj_map _ h2]
      · refine ⟨_,?_,map_step hs (es':=es.modify j fun e=>{ e with key:=.int .i64 n,val:=u }) (clock':=cl) ho h1 h2 h4 h5 ⟨by simpa using a4,Go.MapKept.stamped_modify h3.2 j _ (fun _ _=>rfl) (fun e' _ he'=>by
          have hj:es[j]? = some e:=by simpa using a2
          rw [hj] at he'; cases he'; exact a3.symm)⟩,rfl⟩
        have hj:es[j]? = some e:=by simpa using a2
        have hst:(Instr.keyThatStays (.int .i64 n) (.int .i64 n)).run P C.w = .ok (.int .i64 n) C.w:=by
          simp [Instr.keyThatStays,Instr.sameBits]
        simp [Instr.mapUpdate,Instr.findKey,run_underlying (mapB_inv ht),run_underlying hkt,MapKept.run_getObj_map h2,checkKey_int hkt hki,a1,MapKept.run_setObj_map _ h2,hj,a3,hst]
  · cases h
theorem mdel_ok (hs:Sim base C H) {t t2 ty kt et kd X K v vk y H' b} (ht:mapB P t = some (kt,et)) (hkt:P.underlying kt = some kd) (hki:intKind kd = true)
    (hx:Rv C X v) (hk:Rv C K vk) (h:doMdel H X K = some (y,H',b)) :
    ∃ C' r,(Builtin.delete_ #[t,t2] ty #[v,vk]).run P C.w = .ok r C'.w ∧ OStep base C H C' H' ∧ Rv C' y r:=by
  cases X <;> try (cases h; done)
  cases K <;> try (cases h; done)
  rename_i o k n
  cases k <;> try (cases h; done)
  simp only [doMdel] at h
  cases ho:H[o]? with
  | none=>rw [ho] at h; cases h
  | some ob =>
    rw [ho] at h
    cases ob <;> try (cases h; done)
    rename_i kvs
    cases h
    obtain ⟨b,es,cl,h1,h2,h3,h4,h5⟩:=obj_map hs ho
    obtain ⟨b',h1',rfl⟩:=Rv_mp hx
    rw [h1] at h1'; cases h1'
    rw [Rv_int hk]
    have hnone:∀ C':Cx,Rv C' nothing (.tuple #[]):=fun C'=>Rv_tup_mk (vs:=[]) .nil
    rcases findNow_upd hki n (.bool true) (.bool true) (.inr (Rv_known rfl (mk_bool true))) rfl cl h3.1 0 with ⟨a1,_,_,a2⟩ | ⟨j,e,a1,a2,a3,_,a5⟩
    · refine ⟨_,.tuple #[],?_,map_step hs (es':=es) (clock':=cl) ho h1 h2 h4 h5 (by rw [a2]; exact h3),hnone _⟩
      simp [Builtin.delete_,Instr.findKey,run_underlying (mapB_inv ht),run_underlying hkt,MapKept.run_getObj_map h2,checkKey_int hkt hki,a1,MapKept.run_setObj_map _ h2]
    · refine ⟨_,.tuple #[],?_,map_step hs (es':=es.eraseIdxIfInBounds j) (clock':=cl) ho h1 h2 h4 h5 ⟨by simpa using a5,Go.MapKept.stamped_erase h3.2 j⟩,hnone _⟩
      simp [Builtin.delete_,Instr.findKey,run_underlying (mapB_inv ht),run_underlying hkt,MapKept.run_getObj_map h2,checkKey_int hkt hki,a1,MapKept.run_setObj_map _ h2]
end Tor
