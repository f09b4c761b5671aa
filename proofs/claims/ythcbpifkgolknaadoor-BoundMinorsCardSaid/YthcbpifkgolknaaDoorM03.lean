/-
  A part of the proof: an abstract machine for the program, its soundness, and what the functions compute (Set, Rel, Nat, Int1, Int2, Int3, Int4, Int5, Int6, Div1, Div2, Div3, Mat1, Mat2).
  Conditions: none.
-/
import Derived.Test.YthcbpifkgolknaaDoorM01
import Derived.Test.YthcbpifkgolknaaDoorM02
import Derived.Below
import Derived.Laws.CopyRow
import Derived.Laws.Append
import Derived.Laws.Rows
import Derived.IntWalk
import Derived.Laws.BitsLemmas
import Derived.Laws.Bits64
set_option linter.unusedSectionVars false
set_option linter.unusedVariables false
set_option linter.unusedSimpArgs false
set_option linter.defProp false
namespace Tor
open Go
theorem mx0:∀ l,(AV.agg l).hasRef = AV.hasRefs l:=fun _=>by simp only [AV.hasRef]
theorem mx1:∀ l n,(AV.agg l).under n = AV.unders n l:=fun _ _=>by simp only [AV.under]
theorem mx2:∀ l,(AV.agg l).solid = AV.solids l:=fun _=>by simp only [AV.solid]
theorem mx3:∀ l,(AV.isl l).solid = (!AV.hasRefs l && AV.solids l):=fun _=>by simp only [AV.solid]
theorem mx4:∀ l,(AV.tup l).solid = AV.solids l:=fun _=>by simp only [AV.solid]
theorem mx5:∀ l,(AV.tup l).hasRef = AV.hasRefs l:=fun _=>by simp only [AV.hasRef]
theorem mx6:∀ l n,(AV.tup l).under n = AV.unders n l:=fun _ _=>by simp only [AV.under]
theorem mx7:∀ o g p,(AV.ptr o g p).hasRef = true:=fun _ _ _=>by simp only [AV.hasRef]
theorem mx8:∀ o g sz st len,(AV.sl o g sz st len).hasRef = true:=fun _ _ _ _ _=>by simp only [AV.hasRef]
theorem mx9:∀ o,(AV.mp o).hasRef = true:=fun _=>by simp only [AV.hasRef]
theorem mx10:∀ o g p n,(AV.ptr o g p).under n = decide (o < n):=fun _ _ _ _=>by simp only [AV.under]
theorem mx11:∀ o g sz st len n,(AV.sl o g sz st len).under n = decide (o < n):=fun _ _ _ _ _ _=>by simp only [AV.under]
theorem mx12:∀ o n,(AV.mp o).under n = decide (o < n):=fun _ _=>by simp only [AV.under]
theorem mx13:∀ x,(AV.iptr x).hasRef = x.hasRef:=fun _=>by simp only [AV.hasRef]
theorem mx14:∀ x n,(AV.iptr x).under n = x.under n:=fun _ _=>by simp only [AV.under]
theorem mx15:∀ n H d l,fz n H (d + 1) (.agg l) = .agg (l.map (fz n H d)):=fun _ _ _ _=>by simp only [fz]
theorem mx16:∀ n H d l,fz n H (d + 1) (.tup l) = .tup (l.map (fz n H d)):=fun _ _ _ _=>by simp only [fz]
theorem mx17:∀ n H d,fz n H (d + 1) .nl = .isl []:=fun _ _ _=>by simp only [fz]
def fzRow (n:Nat) (H:Heap) (d:Nat):Option (List AV) → AV
  | some l=>.isl (l.map (fz n H d))
  | none=>.u
theorem fzRow_s {n H d l}:fzRow n H d (some l) = .isl (l.map (fz n H d)):=rfl
theorem mx18:∀ n H d o g sz st len,fz n H (d + 1) (.sl o g sz st len) = if o < n then .sl o g sz st len else fzRow n H d (elems H (.sl o g sz st len)):=by
  intro n H d o g sz st len
  simp only [fz]
  cases elems H (.sl o g sz st len) <;> rfl
theorem mx19:∀ o,(AV.bx o).hasRef = true:=fun _=>by simp only [AV.hasRef]
theorem mx20:∀ o n,(AV.bx o).under n = decide (o < n):=fun _ _=>by simp only [AV.under]
theorem mx21:∀ f l,(AV.fn f l).hasRef = AV.hasRefs l:=fun _ _=>by simp only [AV.hasRef]
theorem mx22:∀ f l n,(AV.fn f l).under n = AV.unders n l:=fun _ _ _=>by simp only [AV.under]
def consSl (H:Heap) (o:Nat) (r:List AV):Option (List AV) → Option (List AV × Heap)
  | some l=>if AV.hasRefs l then none else consume1 (.isl l) (consume (H.set o .dead) r)
  | none=>none
theorem consSl_s {H o r l}:consSl H o r (some l) = if AV.hasRefs l then none else consume1 (.isl l) (consume (H.set o .dead) r):=rfl
theorem consume_sl {H o g sz st len r}:consume H (.sl o g sz st len :: r) = consSl H o r (elems H (.sl o g sz st len)):=by
  simp only [consume]
  cases elems H (.sl o g sz st len) <;> rfl
theorem consume_nil {H}:consume H [] = some ([],H):=rfl
theorem consume_u {H r}:consume H (AV.u :: r) = consume1 AV.u (consume H r):=rfl
theorem consume_bool {H r b}:consume H ((AV.bool b) :: r) = consume1 (AV.bool b) (consume H r):=rfl
theorem consume_int {H r k n}:consume H ((AV.int k n) :: r) = consume1 (AV.int k n) (consume H r):=rfl
theorem consume_a {H r x}:consume H ((AV.a x) :: r) = consume1 (AV.a x) (consume H r):=rfl
theorem consume_nl {H r}:consume H (AV.nl :: r) = consume1 AV.nl (consume H r):=rfl
theorem consume_bx {H r o}:consume H ((AV.bx o) :: r) = consume1 (AV.bx o) (consume H r):=rfl
theorem consume_agg {H r l}:consume H ((AV.agg l) :: r) = consume1 (AV.agg l) (consume H r):=rfl
theorem consume_isl {H r l}:consume H ((AV.isl l) :: r) = consume1 (AV.isl l) (consume H r):=rfl
theorem consume_iptr {H r x}:consume H ((AV.iptr x) :: r) = consume1 (AV.iptr x) (consume H r):=rfl
theorem consume_ptr {H r o g p}:consume H ((AV.ptr o g p) :: r) = consume1 (AV.ptr o g p) (consume H r):=rfl
theorem consume_fn {H r f l}:consume H ((AV.fn f l) :: r) = consume1 (AV.fn f l) (consume H r):=rfl
theorem consume_mp {H r o}:consume H ((AV.mp o) :: r) = consume1 (AV.mp o) (consume H r):=rfl
theorem consume_tup {H r l}:consume H ((AV.tup l) :: r) = consume1 (AV.tup l) (consume H r):=rfl
def simD:=And.intro (@fzRow_s) (And.intro (And.intro (And.intro (And.intro (And.intro (And.intro (And.intro (And.intro (@objGet_e1) (@objGet_e2)) (And.intro (@objSet_e1) (And.intro (@objSet_e2) (@elems_e1)))) (And.intro (And.intro (@elems_e2) (And.intro (@elems_e3) (@ev_e1))) (And.intro (@ev_e2) (And.intro (@ev_e3) (@ev_e4))))) (And.intro (And.intro (And.intro (@headSize_e1) (@headSize_e2)) (And.intro (@bound_e1) (And.intro (@bound_e2) (@ret_e1)))) (And.intro (And.intro (@ret_e2) (And.intro (@eff_e1) (@eff_e2))) (And.intro (@doPick_e1) (And.intro (@doPick_e2) (@doBuild_e1)))))) (And.intro (And.intro (And.intro (And.intro (@doBuild_e2) (@doBslice_e1)) (And.intro (@doBslice_e2) (And.intro (@fits_e1) (@fits_e2)))) (And.intro (And.intro (@doLoad_e1) (And.intro (@doLoad_e2) (@put_e1))) (And.intro (@put_e2) (And.intro (@doStore_e1) (@doNilCheck_e1))))) (And.intro (And.intro (And.intro (@doNilCheck_e2) (And.intro (@doNilCheck_e3) (@doConv_e1))) (And.intro (@doMkslice_e1) (And.intro (@sliceIn_e1) (@cutI_e1)))) (And.intro (And.intro (@cutI_e2) (And.intro (@cutS_e1) (@cutS_e2))) (And.intro (@doSlice_e1) (And.intro (@doSlice_e2) (@doSlice0_e1))))))) (And.intro (And.intro (And.intro (And.intro (And.intro (@doSlice0_e2) (@doSlice0_e3)) (And.intro (@toIptr_e1) (And.intro (@toIptr_e2) (@doFieldAddr_e1)))) (And.intro (And.intro (@doFieldAddr_e2) (And.intro (@doField_e1) (@iptrOf_e1))) (And.intro (@iptrOf_e2) (And.intro (@doIndexAddr_e1) (@doIndexAddr_e2))))) (And.intro (And.intro (And.intro (@doIndexArr_e1) (And.intro (@doIndexArr_e2) (@byteOf_e1))) (And.intro (@byteOf_e2) (And.intro (@doIndexStr_e1) (@orElse_e1)))) (And.intro (And.intro (@orElse_e2) (And.intro (@lookIn_e1) (@doLookup_e1))) (And.intro (@mupdIn_e1) (And.intro (@doMupd_e1) (@mdelIn_e1)))))) (And.intro (And.intro (And.intro (And.intro (@doMdel_e1) (@mlen_e1)) (And.intro (@doLen_e1) (And.intro (@doLen_e2) (@doLen_e3)))) (And.intro (And.intro (@doLen_e4) (And.intro (@doLen_e5) (@appTo_e1))) (And.intro (@appNil_e1) (And.intro (@appNil_e2) (@doAppend_e1))))) (And.intro (And.intro (And.intro (@doAppend_e2) (And.intro (@copyTo_e1) (@doCopy_e1))) (And.intro (@doExtract_e1) (And.intro (And.intro (@doCallv_e1) (And.intro (@doCallp_e1) (And.intro (@memN_e1) (And.intro (@memN_e2) (And.intro (@doX_e1) (And.intro (@doX_e2) (And.intro (@doX_e3) (@doX_e4)))))))) (@wantsK_e1)))) (And.intro (And.intro (@wantsK_e2) (And.intro (@wants_e1) (@wants_e2))) (And.intro (@setVar_e1) (And.intro (@setVar_e2) (@regionK_e1)))))))) (And.intro (And.intro (And.intro (And.intro (And.intro (And.intro (@regionK_e2) (@blockK_e1)) (And.intro (@blockK_e2) (And.intro (@blockK_e3) (@blockK_e4)))) (And.intro (And.intro (@resOf_e1) (And.intro (@resOf_e2) (@resOf_e3))) (And.intro (@consO_e1) (And.intro (@oneOf_e1) (@oneOf_e2))))) (And.intro (And.intro (And.intro (@oneOf_e3) (And.intro (@oneOf_e4) (@consume1_e1))) (And.intro (@consume1_e2) (And.intro (@ended_e1) (@ended_e2)))) (And.intro (And.intro (@shut_e1) (And.intro (@shut_e2) (@isoEnd_e1))) (And.intro (@isoEnd_e2) (And.intro (@withHeap_e1) (@withHeap_e2)))))) (And.intro (And.intro (And.intro (And.intro (@shrEnd_e1) (@shrEnd_e2)) (And.intro (@keepEnd_e1) (And.intro (@keepEnd_e2) (@isA_u)))) (And.intro (And.intro (@known_u) (And.intro (@hasRef_u) (@under_u))) (And.intro (@plain_u) (And.intro (@fz_u) (@size_u))))) (And.intro (And.intro (And.intro (@isA_bool) (And.intro (@known_bool) (@hasRef_bool))) (And.intro (@under_bool) (And.intro (@solid_bool) (@plain_bool)))) (And.intro (And.intro (@fz_bool) (And.intro (@size_bool) (@isA_int))) (And.intro (@known_int) (And.intro (@hasRef_int) (@under_int))))))) (And.intro (And.intro (And.intro (And.intro (And.intro (@solid_int) (@plain_int)) (And.intro (@fz_int) (And.intro (@size_int) (@isA_a)))) (And.intro (And.intro (@known_a) (And.intro (@hasRef_a) (@under_a))) (And.intro (@solid_a) (And.intro (@plain_a) (@fz_a))))) (And.intro (And.intro (And.intro (@size_a) (And.intro (@isA_nl) (@known_nl))) (And.intro (@hasRef_nl) (And.intro (@under_nl) (@solid_nl)))) (And.intro (And.intro (@plain_nl) (And.intro (@size_nl) (@isA_bx))) (And.intro (@known_bx) (And.intro (@solid_bx) (@plain_bx)))))) (And.intro (And.intro (And.intro (And.intro (@size_bx) (@isA_agg)) (And.intro (@known_agg) (And.intro (@plain_agg) (@isA_isl)))) (And.intro (And.intro (@known_isl) (And.intro (@hasRef_isl) (@under_isl))) (And.intro (@plain_isl) (And.intro (@fz_isl) (@size_isl))))) (And.intro (And.intro (And.intro (@isA_iptr) (And.intro (@known_iptr) (@plain_iptr))) (And.intro (@size_iptr) (And.intro (@isA_ptr) (@known_ptr)))) (And.intro (And.intro (@solid_ptr) (And.intro (@plain_ptr) (@size_ptr))) (And.intro (@isA_sl) (And.intro (@known_sl) (@solid_sl))))))))) (And.intro (And.intro (And.intro (And.intro (And.intro (And.intro (And.intro (@plain_sl) (@size_sl)) (And.intro (@isA_fn) (And.intro (@known_fn) (@plain_fn)))) (And.intro (And.intro (@size_fn) (And.intro (@isA_mp) (@known_mp))) (And.intro (@solid_mp) (And.intro (@plain_mp) (@size_mp))))) (And.intro (And.intro (And.intro (@isA_tup) (@known_tup)) (And.intro (@plain_tup) (And.intro (@size_tup) (@size_agg)))) (And.intro (And.intro (@bxOf_mp) (And.intro (@bxOf_agg) (@bxOf_isl))) (And.intro (@bxOf_int) (And.intro (@bxOf_bool) (@getIn_s)))))) (And.intro (And.intro (And.intro (And.intro (@setIn_s) (@seqK_n)) (And.intro (@seqK_e) (And.intro (@seqK_r) (@condK_t)))) (And.intro (And.intro (@condK_f) (And.intro (@loopC_s) (@loopK_n))) (And.intro (@loopK_e) (And.intro (@loopK_r) (@conCall_s))))) (And.intro (And.intro (And.intro (@callFun_i) (And.intro (@callFun_c) (@callFun_s))) (And.intro (@callFun_k) (And.intro (@binInt_add) (@binInt_sub)))) (And.intro (And.intro (@binInt_mul) (And.intro (@binInt_eql) (@binInt_neq))) (And.intro (@binInt_lss) (And.intro (@binInt_leq) (@binInt_gtr))))))) (And.intro (And.intro (And.intro (And.intro (And.intro (@binInt_geq) (@binInt_quo)) (And.intro (@binInt_rem) (And.intro (@binInt_and) (@binAV_add)))) (And.intro (And.intro (@binAV_sub) (And.intro (@binAV_mul) (@binAV_quo))) (And.intro (@binAV_rem) (And.intro (@binAV_eql) (@binAV_neq))))) (And.intro (And.intro (And.intro (@binAV_lss) (And.intro (@binAV_leq) (@binAV_gtr))) (And.intro (@binAV_geq) (And.intro (@binAV_and) (@binAV_or)))) (And.intro (And.intro (@binAV_xor) (And.intro (@binAV_andNot) (@binB_eql))) (And.intro (@binB_neq) (And.intro (@unAV_not) (@unAV_neg)))))) (And.intro (And.intro (And.intro (And.intro (@binAV_shl) (@binAV_shr)) (And.intro (@doCn.eq_1) (And.intro (@doCb.eq_1) (@doCs.eq_1)))) (And.intro (And.intro (@doCl.eq_1) (And.intro (@doCa.eq_1) (@tupOf.eq_1))) (And.intro (@capOk.eq_1) (And.intro (@nothing.eq_1) (@clean.eq_1))))) (And.intro (And.intro (And.intro (@scrubV.eq_1) (And.intro (@scrubV.eq_2) (@orRs.eq_1))) (And.intro (@setAll.eq_1) (And.intro (@setAll.eq_2) (@nav.eq_1)))) (And.intro (And.intro (@nav.eq_2) (And.intro (@upd.eq_1) (@upd.eq_2))) (And.intro (@AV.sizes.eq_1) (And.intro (@AV.sizes.eq_2) (@AV.hasRefs.eq_1)))))))) (And.intro (And.intro (And.intro (And.intro (And.intro (And.intro (@AV.hasRefs.eq_2) (@AV.unders.eq_1)) (And.intro (@AV.unders.eq_2) (And.intro (@AV.solids.eq_1) (@AV.solids.eq_2)))) (And.intro (And.intro (@runIso.eq_1) (And.intro (@start.eq_1) (@resAll.eq_1))) (And.intro (@resList.eq_1) (And.intro (@resList.eq_2) (@doMkfn.eq_1))))) (And.intro (And.intro (And.intro (@fzDepth.eq_1) (And.intro (@orElse.eq_1) (@orElse.eq_2))) (And.intro (@aop.eq_1) (And.intro (@aop.eq_2) (@aop.eq_3)))) (And.intro (And.intro (@aop.eq_4) (And.intro (@aop.eq_5) (@aop.eq_6))) (And.intro (@aop.eq_7) (And.intro (@aop.eq_8) (@aop.eq_9)))))) (And.intro (And.intro (And.intro (And.intro (@aop.eq_10) (@aop.eq_11)) (And.intro (@aop.eq_12) (And.intro (@aop.eq_13) (@aop.eq_14)))) (And.intro (And.intro (@aop.eq_15) (And.intro (@aop.eq_16) (@aop.eq_17))) (And.intro (@aop.eq_18) (And.intro (@aop.eq_19) (@aop.eq_20))))) (And.intro (And.intro (And.intro (@aop.eq_21) (And.intro (@aop.eq_22) (@aop.eq_23))) (And.intro (@aop.eq_24) (And.intro (@aop.eq_25) (@aop.eq_26)))) (And.intro (And.intro (@aop.eq_27) (And.intro (@aop.eq_28) (@aop.eq_29))) (And.intro (@aop.eq_30) (And.intro (@aop.eq_31) (@aop.eq_32))))))) (And.intro (And.intro (And.intro (And.intro (And.intro (@aop.eq_33) (@aop.eq_34)) (And.intro (@aop.eq_35) (And.intro (@aop.eq_36) (@aop.eq_37)))) (And.intro (And.intro (@aop.eq_38) (And.intro (@aop.eq_39) (And.intro (@aop.eq_40) (And.intro (@aop.eq_41) (And.intro (@aop.eq_42) (@aop.eq_43)))))) (And.intro (@evalOps_nil) (And.intro (@evalOps_cons) (@gK_t))))) (And.intro (And.intro (And.intro (@gK_f) (And.intro (@kK_s) (@run_seq))) (And.intro (@run_region) (And.intro (@run_cond) (@run_block)))) (And.intro (And.intro (@run_exit) (And.intro (@run_skip) (@run_label))) (And.intro (@run_scope) (And.intro (@run_ret) (@isA_agg)))))) (And.intro (And.intro (And.intro (And.intro (@mx0) (@mx1)) (And.intro (@mx2) (And.intro (@mx3) (@mx4)))) (And.intro (And.intro (@mx5) (And.intro (@mx6) (@mx7))) (And.intro (@mx8) (And.intro (@mx9) (@mx10))))) (And.intro (And.intro (And.intro (@mx11) (And.intro (@mx12) (@mx13))) (And.intro (@mx14) (And.intro (@mx15) (@mx16)))) (And.intro (And.intro (@mx17) (And.intro (@mx18) (@mx19))) (And.intro (@mx20) (And.intro (@mx21) (@mx22))))))))))
theorem sim:type_of% simD:=simD
def sikD:=And.intro (And.intro (And.intro (And.intro (@consSl_s) (@consume_sl)) (And.intro (@consume_nil) (@consume_u))) (And.intro (And.intro (@consume_bool) (@consume_int)) (And.intro (@consume_a) (@consume_nl)))) (And.intro (And.intro (And.intro (@consume_bx) (@consume_agg)) (And.intro (@consume_isl) (@consume_iptr))) (And.intro (And.intro (@consume_ptr) (@consume_fn)) (And.intro (@consume_mp) (@consume_tup))))
theorem sik:type_of% sikD:=sikD
def silD:=And.intro (And.intro (And.intro (And.intro (And.intro (@List.getD_cons_zero.{0}) (And.intro (@List.getD_cons_succ.{0}) (@List.getElem?_cons_zero.{0}))) (And.intro (And.intro (@List.getElem?_cons_succ.{0}) (@List.nil_append.{0})) (And.intro (@List.cons_append.{0}) (@List.set_cons_zero.{0})))) (And.intro (And.intro (@List.set_cons_succ.{0}) (And.intro (@List.length_cons.{0}) (@List.length_nil.{0}))) (And.intro (And.intro (@List.map_cons.{0,0}) (@List.map_nil.{0,0})) (And.intro (@List.take_zero.{0}) (@List.take_succ_cons.{0}))))) (And.intro (And.intro (And.intro (@List.drop_zero.{0}) (And.intro (@List.replicate_succ.{0}) (@List.replicate_zero.{0}))) (And.intro (And.intro (@Option.map_some.{0,0}) (@Option.map_none.{0,0})) (And.intro (@List.all_cons.{0}) (@List.all_nil.{0})))) (And.intro (And.intro (And.intro (@List.append_nil.{0}) (@beq_self_eq_true.{0})) (And.intro (@bne_self_eq_false.{0}) (@List.drop_nil.{0}))) (And.intro (And.intro (@List.take_nil.{0}) (@List.getElem?_nil.{0})) (And.intro (@List.getD_nil.{0}) (@List.drop_succ_cons.{0})))))) (And.intro (And.intro (And.intro (And.intro (@decide_true) (And.intro (@decide_false) (@Bool.not_true))) (And.intro (And.intro (@Bool.not_false) (@Bool.false_or)) (And.intro (@Bool.or_false) (@Bool.true_or)))) (And.intro (And.intro (And.intro (@Bool.or_true) (@Bool.true_and)) (And.intro (@Bool.and_true) (@Bool.false_and))) (And.intro (And.intro (@Bool.and_false) (@true_and)) (And.intro (@and_true) (@false_and))))) (And.intro (And.intro (And.intro (@and_false) (And.intro (@Nat.zero_add) (@Nat.add_zero))) (And.intro (And.intro (@Bool.false_eq_true) (@true_or)) (And.intro (@or_true) (@false_or)))) (And.intro (And.intro (And.intro (@or_false) (@not_true_eq_false)) (And.intro (@not_false_eq_true) (@Nat.sub_zero))) (And.intro (And.intro (@Nat.sub_self) (@if_true.{1})) (And.intro (@if_false.{1}) (@eq_self.{1}))))))
theorem sil:type_of% silD:=silD
end Tor
namespace Tor
open Go
structure Env where
  f:Nat → FuncId
  G:List (Addr × Value)
instance:CoeFun Env (fun _=>Nat → FuncId):=⟨Env.f⟩
structure Cx where
  ι:Env
  F:Nat → Prop
  β:Nat → Nat → Option (Option (Nat × Nat))
  w:World
def cellsAt (w:World) (b off:Nat) (cs:List Value):Prop:=∀ i x,cs[i]? = some x → w.cell? ⟨b,off + i,none⟩ = some x
def SlV (C:Cx) (n:Nat) (R:List (List Value) → Prop) (v:Value):Prop :=
  ∃ a cap,v = .slice a n cap ∧ (n = 0 ∨ ∃ b off css sz,a = some ⟨b,off,none⟩ ∧ C.F b ∧ n ≤ cap ∧ R css ∧ (∀ c ∈ css,c.length = sz) ∧ cellsAt C.w b off css.flatten)
def limbsN:Nat → Nat → List Nat
  | 0,_=>[]
  | f + 1,n=>if n = 0 then [] else (n % 4294967296) :: limbsN f (n / 4294967296)
def limbs (n:Nat):List Nat:=limbsN n n
def offs (p:List (Nat × Nat)):Nat:=(p.map (·.2)).sum
def Room (w:World) (b base sz cap:Nat):Prop:=∃ e n,w.shape? b = some (e,n) ∧ base + cap * sz ≤ n
mutual
def Rc (C:Cx):AV → List Value → Prop
  | .u,_=>False
  | .bool b,cs=>cs = [.bool b]
  | .int k n,cs=>cs = [.int k n]
  | .a x,cs=>cs = [x] ∧ x.oneCell' = true
  | .nl,cs=>cs = [.slice none 0 0]
  | .bx o,cs=>∃ b bm,C.β o 0 = some (some (bm,0)) ∧ cs = [.pointer (some ⟨b,0,none⟩)] ∧ C.F b ∧ cellsAt C.w b 0 [.map (some bm)]
  | .agg l,cs=>∃ css,Rcl C l css ∧ cs = css.flatten
  | .isl l,cs=>AV.hasRefs l = false ∧ ∃ v,cs = [v] ∧ SlV C l.length (Rcl C l) v
  | .iptr x,cs=>∃ b off xs,cs = [.pointer (some ⟨b,off,none⟩)] ∧ C.F b ∧ Rc C x xs ∧ cellsAt C.w b off xs
  | .ptr o g p,cs=>∃ b bs,C.β o g = some (some (b,bs)) ∧ cs = [.pointer (some ⟨b,bs + offs p,none⟩)]
  | .sl o g sz st len,cs=>(∃ b bs cap,C.β o g = some (some (b,bs)) ∧ cs = [.slice (some ⟨b,bs + st * sz,none⟩) len cap] ∧ len ≤ cap ∧ Room C.w b (bs + st * sz) sz cap) ∨
      (∃ q,C.β o g = some q ∧ len = 0 ∧ ∃ a,cs = [.slice a 0 0])
  | .fn f l,cs=>(∀ x ∈ l,x.isA = false) ∧ ∃ vs,cs = [.func (.func (C.ι f)) #[] vs] ∧ Rcl C l (vs.toList.map fun v=>[v])
  | .mp o,cs=>∃ b,C.β o 0 = some (some (b,0)) ∧ cs = [.map (some b)]
  | .tup _,_=>False
def Rcl (C:Cx):List AV → List (List Value) → Prop
  | [],css=>css = []
  | x :: l,css=>∃ c r,css = c :: r ∧ Rc C x c ∧ Rcl C l r
end
theorem hasRefs_mem:∀ {l:List AV},AV.hasRefs l = false → ∀ x ∈ l,x.hasRef = false
  | [],_,_,h=>by cases h
  | y :: l,hl,x,hx=>by
    simp only [AV.hasRefs,Bool.or_eq_false_iff] at hl
    cases hx with
    | head=>exact hl.1
    | tail _ hx=>exact hasRefs_mem hl.2 x hx
theorem hasRefs_of_mem:∀ {l:List AV},(∀ x ∈ l,x.hasRef = false) → AV.hasRefs l = false
  | [],_=>rfl
  | y :: l,h=>by
    simp only [AV.hasRefs,Bool.or_eq_false_iff]
    exact ⟨h y (.head _),hasRefs_of_mem fun x hx=>h x (.tail _ hx)⟩
def vIsA:Value → Bool
  | .agg _=>true
  | _=>false
def Rv1 (C:Cx) (x:AV) (v:Value):Prop:=x = .u ∨ (Rc C x v.cells.toList ∧ vIsA v = x.isA)
inductive Rvl (C:Cx):List AV → List Value → Prop
  | nil:Rvl C [] []
  | cons {x v l vs}:Rv1 C x v → Rvl C l vs → Rvl C (x :: l) (v :: vs)
def Rv (C:Cx) (x:AV) (v:Value):Prop:=Rv1 C x v ∨ ∃ l vs,x = .tup l ∧ v = .tuple vs ∧ Rvl C l vs.toList
structure Le (C C':Cx):Prop where
  ι:C'.ι = C.ι
  F:∀ b,C.F b → C'.F b
  β:∀ o g q,C.β o g = some q → C'.β o g = some q
  mem:∀ b,C.F b → C'.w.heap[b]? = C.w.heap[b]?
  shp:∀ b s,C.w.shape? b = some s → C'.w.shape? b = some s
theorem Le.refl (C:Cx):Le C C:=⟨rfl,fun _ h=>h,fun _ _ _ h=>h,fun _ _=>rfl,fun _ _ h=>h⟩
theorem Le.trans {A B C:Cx} (h:Le A B) (k:Le B C):Le A C :=
  ⟨k.ι.trans h.ι,fun b hb=>k.F b (h.F b hb),fun o g q hq=>k.β o g q (h.β o g q hq),fun b hb=>(k.mem b (h.F b hb)).trans (h.mem b hb),fun b s hs=>k.shp b s (h.shp b s hs)⟩
theorem cellsAt_le {C C':Cx} (h:Le C C') {b off cs} (hb:C.F b) (hc:cellsAt C.w b off cs):cellsAt C'.w b off cs:=by
  intro i x hx
  have:=hc i x hx
  rw [← this]
  unfold World.cell?
  simp only [h.mem b hb]
theorem SlV_le {C C':Cx} (h:Le C C') {n R R' v} (hR:∀ css,R css → R' css) (hv:SlV C n R v):SlV C' n R' v:=by
  obtain ⟨a,cap,rfl,hn⟩:=hv
  refine ⟨a,cap,rfl,?_⟩
  rcases hn with hn | ⟨b,off,css,sz,ha,hF,hc,hr,hu,hm⟩
  · exact .inl hn
  · exact .inr ⟨b,off,css,sz,ha,h.F b hF,hc,hR _ hr,hu,cellsAt_le h hF hm⟩
theorem Room_le {C C':Cx} (h:Le C C') {b base sz cap} (hr:Room C.w b base sz cap):Room C'.w b base sz cap:=by
  obtain ⟨e,n,hs,hn⟩:=hr
  exact ⟨e,n,h.shp _ _ hs,hn⟩
mutual
theorem Rc_le {C C':Cx} (h:Le C C'):∀ (x:AV) (cs:List Value),Rc C x cs → Rc C' x cs
  | .u,_,hr=>hr
  | .bool _,_,hr=>hr
  | .int _ _,_,hr=>hr
  | .a _,_,hr=>hr
  | .nl,_,hr=>hr
  | .bx _,_,hr=>by
    simp only [Rc] at hr ⊢
    obtain ⟨b,bm,e1,e2,hF,hm⟩:=hr
    exact ⟨b,bm,h.β _ _ _ e1,e2,h.F b hF,cellsAt_le h hF hm⟩
  | .agg l,_,hr=>by
    simp only [Rc] at hr ⊢
    obtain ⟨css,hl,e⟩:=hr
    exact ⟨css,Rcl_le h l css hl,e⟩
  | .isl l,_,hr=>by
    simp only [Rc] at hr ⊢
    obtain ⟨h0,v,e,hv⟩:=hr
    exact ⟨h0,v,e,SlV_le h (fun css=>Rcl_le h l css) hv⟩
  | .iptr x,_,hr=>by
    simp only [Rc] at hr ⊢
    obtain ⟨b,off,xs,e,hF,hx,hm⟩:=hr
    exact ⟨b,off,xs,e,h.F b hF,Rc_le h x xs hx,cellsAt_le h hF hm⟩
  | .ptr o g p,_,hr=>by
    simp only [Rc] at hr ⊢
    obtain ⟨b,bs,hb,e⟩:=hr
    exact ⟨b,bs,h.β _ _ _ hb,e⟩
  | .sl o g sz st len,_,hr=>by
    simp only [Rc] at hr ⊢
    rcases hr with ⟨b,bs,cap,hb,e,hl,hm⟩ | ⟨q,hb,hl,a,e⟩
    · exact .inl ⟨b,bs,cap,h.β _ _ _ hb,e,hl,Room_le h hm⟩
    · exact .inr ⟨q,h.β _ _ _ hb,hl,a,e⟩
  | .fn f l,_,hr=>by
    simp only [Rc] at hr ⊢
    obtain ⟨ha,vs,e,hl⟩:=hr
    exact ⟨ha,vs,by rw [h.ι]; exact e,Rcl_le h l _ hl⟩
  | .mp o,_,hr=>by
    simp only [Rc] at hr ⊢
    obtain ⟨b,hb,e⟩:=hr
    exact ⟨b,h.β _ _ _ hb,e⟩
  | .tup _,_,hr=>hr
theorem Rcl_le {C C':Cx} (h:Le C C'):∀ (l:List AV) (css:List (List Value)),Rcl C l css → Rcl C' l css
  | [],_,hr=>hr
  | x :: l,_,hr=>by
    simp only [Rcl] at hr ⊢
    obtain ⟨c,r,e,hx,hl⟩:=hr
    exact ⟨c,r,e,Rc_le h x c hx,Rcl_le h l r hl⟩
end
theorem Rv1_le {C C':Cx} (h:Le C C') {x v} (hr:Rv1 C x v):Rv1 C' x v:=by
  rcases hr with e | ⟨a,b⟩
  · exact .inl e
  · exact .inr ⟨Rc_le h _ _ a,b⟩
theorem Rvl_le {C C':Cx} (h:Le C C') {l vs} (hr:Rvl C l vs):Rvl C' l vs:=by
  induction hr with
  | nil=>exact .nil
  | cons a _ ih=>exact .cons (Rv1_le h a) ih
theorem Rv_le {C C':Cx} (h:Le C C') {x v} (hr:Rv C x v):Rv C' x v:=by
  rcases hr with a | ⟨l,vs,e1,e2,a⟩
  · exact .inl (Rv1_le h a)
  · exact .inr ⟨l,vs,e1,e2,Rvl_le h a⟩
mutual
theorem Rc_len {C:Cx}:∀ (x:AV) (cs:List Value),Rc C x cs → cs.length = x.size
  | .u,_,hr=>hr.elim
  | .bool _,_,hr=>by simp only [Rc] at hr; subst hr; rfl
  | .int _ _,_,hr=>by simp only [Rc] at hr; subst hr; rfl
  | .a _,_,hr=>by simp only [Rc] at hr; rw [hr.1]; rfl
  | .nl,_,hr=>by simp only [Rc] at hr; subst hr; rfl
  | .bx _,_,hr=>by simp only [Rc] at hr; obtain ⟨b,bm,_,e,_⟩:=hr; subst e; rfl
  | .agg l,_,hr=>by
    simp only [Rc] at hr; obtain ⟨css,hl,e⟩:=hr; subst e; simp only [AV.size]; exact Rcl_len l css hl
  | .isl _,_,hr=>by simp only [Rc] at hr; obtain ⟨_,v,e,_⟩:=hr; subst e; rfl
  | .iptr _,_,hr=>by simp only [Rc] at hr; obtain ⟨b,off,xs,e,_⟩:=hr; subst e; rfl
  | .ptr _ _ _,_,hr=>by simp only [Rc] at hr; obtain ⟨b,bs,_,e⟩:=hr; subst e; rfl
  | .sl _ _ _ _ _,_,hr=>by
    simp only [Rc] at hr
    rcases hr with ⟨b,bs,cap,_,e,_⟩ | ⟨_,_,_,a,e⟩ <;> (subst e; rfl)
  | .fn _ _,_,hr=>by simp only [Rc] at hr; obtain ⟨_,vs,e,_⟩:=hr; subst e; rfl
  | .mp _,_,hr=>by simp only [Rc] at hr; obtain ⟨b,_,e⟩:=hr; subst e; rfl
  | .tup _,_,hr=>hr.elim
theorem Rcl_len {C:Cx}:∀ (l:List AV) (css:List (List Value)),Rcl C l css → css.flatten.length = AV.sizes l
  | [],_,hr=>by simp only [Rcl] at hr; subst hr; rfl
  | x :: l,_,hr=>by
    simp only [Rcl] at hr
    obtain ⟨c,r,e,hx,hl⟩:=hr
    subst e
    have h1:=Rc_len x c hx
    have h2:=Rcl_len l r hl
    simp only [List.flatten_cons,List.length_append,AV.sizes]; omega
end
theorem Rcl_count {C:Cx}:∀ (l:List AV) (css:List (List Value)),Rcl C l css → css.length = l.length
  | [],_,hr=>by simp only [Rcl] at hr; subst hr; rfl
  | x :: l,_,hr=>by
    simp only [Rcl] at hr
    obtain ⟨c,r,e,_,hl⟩:=hr
    subst e
    simp [Rcl_count l r hl]
theorem Rcl_get {C:Cx}:∀ (l:List AV) (css:List (List Value)) (i:Nat) (y:AV),Rcl C l css → l[i]? = some y → ∃ c,css[i]? = some c ∧ Rc C y c
  | [],_,i,y,_,h=>by simp at h
  | x :: l,_,i,y,hr,h=>by
    simp only [Rcl] at hr
    obtain ⟨c,r,e,hx,hl⟩:=hr
    subst e
    cases i with
    | zero=>simp at h; subst h; exact ⟨c,by simp,hx⟩
    | succ i=>simp at h; obtain ⟨c',h1,h2⟩:=Rcl_get l r i y hl h; exact ⟨c',by simp [h1],h2⟩
theorem Rcl_set {C:Cx}:∀ (l:List AV) (css:List (List Value)) (i:Nat) (y:AV) (c:List Value),Rcl C l css → Rc C y c → Rcl C (l.set i y) (css.set i c)
  | [],_,i,y,c,hr,_=>by simp only [Rcl] at hr; subst hr; simp [Rcl]
  | x :: l,_,i,y,c,hr,hy=>by
    simp only [Rcl] at hr
    obtain ⟨c0,r,e,hx,hl⟩:=hr
    subst e
    cases i with
    | zero=>simp only [List.set_cons_zero,Rcl]; exact ⟨c,r,rfl,hy,hl⟩
    | succ i=>simp only [List.set_cons_succ,Rcl]; exact ⟨c0,_,rfl,hx,Rcl_set l r i y c hl hy⟩
theorem Rcl_append {C:Cx}:∀ (l l':List AV) (css css':List (List Value)),Rcl C l css → Rcl C l' css' → Rcl C (l ++ l') (css ++ css')
  | [],l',_,css',hr,h'=>by simp only [Rcl] at hr; subst hr; exact h'
  | x :: l,l',_,css',hr,h'=>by
    simp only [Rcl] at hr
    obtain ⟨c,r,e,hx,hl⟩:=hr
    subst e
    simp only [List.cons_append,Rcl]
    exact ⟨c,_,rfl,hx,Rcl_append l l' r css' hl h'⟩
theorem Rcl_take {C:Cx}:∀ (l:List AV) (css:List (List Value)) (n:Nat),Rcl C l css → Rcl C (l.take n) (css.take n)
  | [],_,n,hr=>by simp only [Rcl] at hr; subst hr; simp [Rcl]
  | x :: l,_,n,hr=>by
    simp only [Rcl] at hr
    obtain ⟨c,r,e,hx,hl⟩:=hr
    subst e
    cases n with
    | zero=>simp [Rcl]
    | succ n=>simp only [List.take_succ_cons,Rcl]; exact ⟨c,_,rfl,hx,Rcl_take l r n hl⟩
theorem Rcl_drop {C:Cx}:∀ (l:List AV) (css:List (List Value)) (n:Nat),Rcl C l css → Rcl C (l.drop n) (css.drop n)
  | [],_,n,hr=>by simp only [Rcl] at hr; subst hr; simp [Rcl]
  | x :: l,_,n,hr=>by
    cases n with
    | zero=>exact hr
    | succ n =>
      simp only [Rcl] at hr
      obtain ⟨c,r,e,hx,hl⟩:=hr
      subst e
      simp only [List.drop_succ_cons]
      exact Rcl_drop l r n hl
theorem Rcl_replicate {C:Cx} {z:AV} {c:List Value} (h:Rc C z c):∀ n,Rcl C (List.replicate n z) (List.replicate n c)
  | 0=>rfl
  | n + 1=>by simp only [List.replicate_succ,Rcl]; exact ⟨c,_,rfl,h,Rcl_replicate h n⟩
theorem flatten_split {α} (css:List (List α)) (i:Nat) (c:List α) (h:css[i]? = some c) :
    css.flatten = (css.take i).flatten ++ c ++ (css.drop (i + 1)).flatten:=by
  induction css generalizing i with
  | nil=>simp at h
  | cons d r ih =>
    cases i with
    | zero=>simp at h; subst h; simp
    | succ i=>simp at h; simp [ih i h,List.append_assoc]
theorem flatten_set {α} (css:List (List α)) (i:Nat) (c d:List α) (h:css[i]? = some c) :
    (css.set i d).flatten = (css.take i).flatten ++ d ++ (css.drop (i + 1)).flatten:=by
  induction css generalizing i with
  | nil=>simp at h
  | cons e r ih =>
    cases i with
    | zero=>simp
    | succ i=>simp at h; simp [ih i h,List.append_assoc]
theorem take_size {C:Cx} {l:List AV} {css} (h:Rcl C l css) (i:Nat):(css.take i).flatten.length = AV.sizes (l.take i):=Rcl_len _ _ (Rcl_take l css i h)
theorem nav_ok {C:Cx}:∀ (p:List (Nat × Nat)) (x y:AV) (cs:List Value),nav x p = some y → Rc C x cs →
    ∃ pre ys post,cs = pre ++ ys ++ post ∧ pre.length = offs p ∧ Rc C y ys
  | [],x,y,cs,h,hr=>by
    have:x = y:=by cases x <;> exact Option.some.inj h
    subst this
    exact ⟨[],cs,[],by simp,rfl,hr⟩
  | (i,off) :: p,x,y,cs,h,hr=>by
    cases x with
    | agg l =>
      simp only [nav] at h
      split at h
      · rename_i ho
        split at h
        · rename_i z hz
          simp only [Rc] at hr
          obtain ⟨css,hl,e⟩:=hr
          obtain ⟨c,hc,hzc⟩:=Rcl_get l css i z hl hz
          obtain ⟨pre,ys,post,e2,hp,hy⟩:=nav_ok p z y c h hzc
          refine ⟨(css.take i).flatten ++ pre,ys,post ++ (css.drop (i + 1)).flatten,?_,?_,hy⟩
          · rw [e,flatten_split css i c hc,e2]; simp [List.append_assoc]
          · rw [List.length_append,take_size hl i,ho,hp]; simp [offs]
        · cases h
      · cases h
    | _=>simp [nav] at h
theorem upd_ok {C:Cx}:∀ (p:List (Nat × Nat)) (x y x':AV) (cs ys:List Value),upd x p y = some x' → Rc C x cs → Rc C y ys →
    ∃ pre zs post,cs = pre ++ zs ++ post ∧ pre.length = offs p ∧ zs.length = ys.length ∧ Rc C x' (pre ++ ys ++ post)
  | [],x,y,x',cs,ys,h,hr,hy=>by
    simp only [upd] at h
    split at h
    · rename_i hh
      cases h
      refine ⟨[],cs,[],by simp,rfl,?_,by simpa using hy⟩
      rw [Rc_len _ _ hr,Rc_len _ _ hy]; exact hh.1
    · cases h
  | (i,off) :: p,x,y,x',cs,ys,h,hr,hy=>by
    cases x with
    | agg l =>
      simp only [upd] at h
      split at h
      · rename_i ho
        split at h
        · rename_i z hz
          split at h
          · rename_i z' hz'
            cases h
            simp only [Rc] at hr ⊢
            obtain ⟨css,hl,e⟩:=hr
            obtain ⟨c,hc,hzc⟩:=Rcl_get l css i z hl hz
            obtain ⟨pre,zs,post,e2,hp,hlen,hz2⟩:=upd_ok p z y z' c ys hz' hzc hy
            refine ⟨(css.take i).flatten ++ pre,zs,post ++ (css.drop (i + 1)).flatten,?_,?_,hlen,?_⟩
            · rw [e,flatten_split css i c hc,e2]; simp [List.append_assoc]
            · rw [List.length_append,take_size hl i,ho,hp]; simp [offs]
            · refine ⟨css.set i (pre ++ ys ++ post),Rcl_set l css i z' _ hl hz2,?_⟩
              rw [flatten_set css i c _ hc]; simp [List.append_assoc]
          · cases h
        · cases h
      · cases h
    | _=>simp [upd] at h
mutual
theorem Rc_one {C:Cx}:∀ (x:AV) (cs:List Value),Rc C x cs → ∀ v ∈ cs,v.oneCell' = true
  | .u,_,hr=>hr.elim
  | .bool _,_,hr=>by simp only [Rc] at hr; subst hr; simp [Value.oneCell']
  | .int _ _,_,hr=>by simp only [Rc] at hr; subst hr; simp [Value.oneCell']
  | .a _,_,hr=>by simp only [Rc] at hr; rw [hr.1]; simpa using hr.2
  | .nl,_,hr=>by simp only [Rc] at hr; subst hr; simp [Value.oneCell']
  | .bx _,_,hr=>by
    simp only [Rc] at hr; obtain ⟨b,bm,_,e,_⟩:=hr; subst e; simp [Value.oneCell']
  | .agg l,_,hr=>by
    simp only [Rc] at hr; obtain ⟨css,hl,e⟩:=hr; subst e
    intro v hv
    obtain ⟨c,hc,hv⟩:=List.mem_flatten.1 hv
    exact Rcl_one l css hl c hc v hv
  | .isl _,_,hr=>by simp only [Rc] at hr; obtain ⟨_,v,e,a,cap,rfl,_⟩:=hr; subst e; simp [Value.oneCell']
  | .iptr _,_,hr=>by simp only [Rc] at hr; obtain ⟨b,off,xs,e,_⟩:=hr; subst e; simp [Value.oneCell']
  | .ptr _ _ _,_,hr=>by simp only [Rc] at hr; obtain ⟨b,bs,_,e⟩:=hr; subst e; simp [Value.oneCell']
  | .sl _ _ _ _ _,_,hr=>by
    simp only [Rc] at hr
    rcases hr with ⟨b,bs,cap,_,e,_⟩ | ⟨_,_,_,a,e⟩ <;> (subst e; simp [Value.oneCell'])
  | .fn _ _,_,hr=>by simp only [Rc] at hr; obtain ⟨_,vs,e,_⟩:=hr; subst e; simp [Value.oneCell']
  | .mp _,_,hr=>by simp only [Rc] at hr; obtain ⟨b,_,e⟩:=hr; subst e; simp [Value.oneCell']
  | .tup _,_,hr=>hr.elim
theorem Rcl_one {C:Cx}:∀ (l:List AV) (css:List (List Value)),Rcl C l css → ∀ c ∈ css,∀ v ∈ c,v.oneCell' = true
  | [],_,hr=>by simp only [Rcl] at hr; subst hr; simp
  | x :: l,_,hr=>by
    simp only [Rcl] at hr
    obtain ⟨c,r,e,hx,hl⟩:=hr
    subst e
    intro d hd
    rcases List.mem_cons.1 hd with rfl | hd
    · exact Rc_one x _ hx
    · exact Rcl_one l r hl d hd
end
end Tor
namespace Tor
open Go
def B32:Nat:=4294967296
def val:List Nat → Nat
  | []=>0
  | d :: r=>d + B32 * val r
theorem limbsN_fuel:∀ (n f g:Nat),n ≤ f → n ≤ g → limbsN f n = limbsN g n:=by
  intro n
  induction n using Nat.strongRecOn with
  | _ n ih =>
    intro f g hf hg
    cases f with
    | zero => have : n = 0 := by omega
              subst this; cases g <;> simp [limbsN]
    | succ f =>
      cases g with
      | zero => have : n = 0 := by omega
                subst this; simp [limbsN]
      | succ g =>
        simp only [limbsN]
        by_cases h0:n = 0
        · simp [h0]
        · simp only [h0,if_false]
          congr 1
          exact ih (n / 4294967296) (by omega) f g (by omega) (by omega)
theorem limbs_zero:limbs 0 = []:=rfl
theorem limbs_pos {n:Nat} (h:0 < n):limbs n = (n % B32) :: limbs (n / B32):=by
  have h1:limbs n = limbsN (n - 1 + 1) n:=by unfold limbs; congr 1; omega
  rw [h1]
  simp only [limbsN,B32]
  rw [if_neg (by omega)]
  congr 1
  exact limbsN_fuel _ _ _ (by omega) (Nat.le_refl _)
theorem val_limbs:∀ n,val (limbs n) = n:=by
  intro n
  induction n using Nat.strongRecOn with
  | _ n ih =>
    by_cases h0:n = 0
    · subst h0; rfl
    · rw [limbs_pos (by omega),val,ih (n / B32) (by simp only [B32]; omega)]
      simp only [B32]; omega
theorem limbs_lt:∀ n,∀ d ∈ limbs n,d < B32:=by
  intro n
  induction n using Nat.strongRecOn with
  | _ n ih =>
    intro d hd
    by_cases h0:n = 0
    · subst h0; cases hd
    · rw [limbs_pos (by omega)] at hd
      cases hd with
      | head=>exact Nat.mod_lt _ (by decide)
      | tail _ hd=>exact ih (n / B32) (by simp only [B32]; omega) d hd
theorem limbs_nil {n:Nat}:limbs n = [] ↔ n = 0:=by
  constructor
  · intro h
    have:=val_limbs n
    rw [h] at this; exact this.symm
  · rintro rfl; rfl
theorem limbs_last:∀ n,(h:limbs n ≠ []) → (limbs n).getLast h ≠ 0:=by
  intro n
  induction n using Nat.strongRecOn with
  | _ n ih =>
    intro h
    by_cases h0:n = 0
    · exact absurd (limbs_nil.2 h0) h
    · by_cases h1:n / B32 = 0
      · have e:limbs n = [n % B32]:=by rw [limbs_pos (by omega),h1]; rfl
        simp only [e,List.getLast_singleton]
        simp only [B32] at h1 ⊢
        omega
      · have hne:limbs (n / B32) ≠ []:=fun e=>h1 (limbs_nil.1 e)
        have e:limbs n = (n % B32) :: limbs (n / B32):=limbs_pos (by omega)
        simp only [e]
        rw [List.getLast_cons hne]
        exact ih (n / B32) (by simp only [B32]; omega) hne
theorem val_lt:∀ l:List Nat,(∀ d ∈ l,d < B32) → val l < B32 ^ l.length
  | [],_=>by simp [val]
  | d :: r,h=>by
    have h1:=h d (.head _)
    have h2:=val_lt r fun x hx=>h x (.tail _ hx)
    simp only [val,List.length_cons,Nat.pow_succ]
    have:B32 * val r + B32 ≤ B32 * B32 ^ r.length:=by rw [← Nat.mul_succ]; exact Nat.mul_le_mul_left _ h2
    rw [Nat.mul_comm (B32 ^ r.length)]
    omega
theorem val_append:∀ a b:List Nat,val (a ++ b) = val a + B32 ^ a.length * val b
  | [],b=>by simp [val]
  | d :: r,b=>by
    simp only [List.cons_append,val,val_append r b,List.length_cons,Nat.pow_succ]
    rw [Nat.mul_add,Nat.add_assoc,Nat.mul_comm (B32 ^ r.length) B32,Nat.mul_assoc]
theorem val_pos_of_last:∀ l:List Nat,(h:l ≠ []) → l.getLast h ≠ 0 → 0 < val l
  | [d],_,h2=>by simp at h2; simp [val]; omega
  | d :: e :: r,_,h2=>by
    have:=val_pos_of_last (e :: r) (by simp) (by simpa [List.getLast_cons] using h2)
    simp only [val] at this ⊢
    have h3:0 < B32 * (e + B32 * val r):=Nat.mul_pos (by decide) this
    omega
theorem limbs_val:∀ l:List Nat,(∀ d ∈ l,d < B32) → (∀ h:l ≠ [],l.getLast h ≠ 0) → limbs (val l) = l
  | [],_,_=>rfl
  | d :: r,h,hl=>by
    have hd:=h d (.head _)
    have hpos:=val_pos_of_last (d :: r) (by simp) (hl (by simp))
    rw [limbs_pos hpos]
    have e1:val (d :: r) % B32 = d:=by
      simp only [val]
      rw [Nat.add_mul_mod_self_left]; exact Nat.mod_eq_of_lt hd
    have e2:val (d :: r) / B32 = val r:=by
      simp only [val]
      rw [Nat.add_mul_div_left _ _ (by decide),Nat.div_eq_of_lt hd,Nat.zero_add]
    rw [e1,e2,limbs_val r (fun x hx=>h x (.tail _ hx)) (fun hne=>by
      have:=hl (by simp)
      rwa [List.getLast_cons hne] at this)]
theorem val_snoc_zero (l:List Nat):val (l ++ [0]) = val l:=by rw [val_append]; simp [val]
def limbA (d:Nat):AV:=.int .u32 d
def Z (n:Int):AV:=.agg [.bool (decide (n < 0)),.isl ((limbs n.natAbs).map limbA)]
theorem Z_size (n:Int):(Z n).size = 2:=by simp [Z,AV.size,AV.sizes]
theorem Z_isA (n:Int):(Z n).isA = true:=rfl
theorem Z_known (n:Int):(Z n).known = true:=rfl
theorem Z_ref (n:Int):(Z n).hasRef = false:=by simp [Z,AV.hasRef,AV.hasRefs]
theorem Z_under (n:Int) (m:Nat):(Z n).under m = true:=by simp [Z,AV.under,AV.unders]
theorem solids_limbs:∀ l:List Nat,AV.solids (l.map limbA) = true
  | []=>rfl
  | d :: r=>by simp [AV.solids,limbA,AV.solid,solids_limbs r]
theorem refs_limbs:∀ l:List Nat,AV.hasRefs (l.map limbA) = false
  | []=>rfl
  | d :: r=>by simp [AV.hasRefs,limbA,AV.hasRef,refs_limbs r]
theorem Z_solid (n:Int):(Z n).solid = true:=by simp [Z,AV.solid,AV.solids,refs_limbs,solids_limbs]
theorem headSize_limbs (l:List Nat):headSize 1 (l.map limbA) = true:=by cases l <;> rfl
theorem fz_limbs (n:Nat) (H:Heap) (k:Nat):∀ l:List Nat,(l.map limbA).map (fz n H (k + 1)) = l.map limbA
  | []=>rfl
  | d :: r=>by simp only [List.map_cons,fz_limbs n H k r,limbA,fz]
theorem fz_Z (n:Nat) (H:Heap) (k:Nat) (m:Int):fz n H (k + 2) (Z m) = Z m:=by simp only [Z,fz,List.map_cons,List.map_nil]
def sitD:=And.intro (And.intro (And.intro (And.intro (And.intro (@oN.eq_1) (@oS.eq_1)) (And.intro (@Z_size) (@Z_known))) (And.intro (And.intro (@Z_isA) (@Z_ref)) (And.intro (@Z_under) (@Z_solid)))) (And.intro (And.intro (And.intro (@fz_Z) (@headSize_limbs)) (And.intro (@fz_limbs) (@refs_limbs))) (And.intro (And.intro (@solids_limbs) (@Int.natCast_nonneg)) (And.intro (@Int.toNat_natCast) (@Int.toNat_zero))))) (And.intro (And.intro (And.intro (And.intro (@Nat.le_refl) (@Int.le_refl)) (And.intro (@Bool.true_beq) (@Bool.false_beq))) (And.intro (And.intro (@oT.eq_1) (@oF.eq_1)) (And.intro (@mV.eq_1) (@mL.eq_1)))) (And.intro (And.intro (And.intro (@sL.eq_1) (@zI.eq_1)) (And.intro (@AOpd.n.eq_1) (@List.take_length.{0}))) (And.intro (And.intro (@List.length_map.{0,0}) (@List.contains_cons.{0})) (And.intro (@List.contains_nil.{0}) (@Int.cast_ofNat_Int)))))
theorem sit:type_of% sitD:=sitD
theorem si:type_of% (And.intro sim (And.intro sik (And.intro sil sit))):=And.intro sim (And.intro sik (And.intro sil sit))
end Tor
namespace Tor
open Go
def Free (E:CallF):Prop:=∀ g a H,g ≠ 56 → E g a H = none
theorem i64w {n:Int} (h:-9223372036854775808 ≤ n ∧ n ≤ 9223372036854775807):IntKind.i64.wrap n = n:=IntWalk.i64_in n h
variable {E:CallF} (hE:Free E)
include hE
theorem r1_sign (n:Int) (H:Heap):call E GP 43 [Z n] H = some (.int .i64 n.sign,H,false):=by
  rw [call_fun (hE _ _ _ (by decide)) (f:=a43) rfl rfl]
  by_cases h0:limbs n.natAbs = []
  · have hn:n = 0:=by have:=limbs_nil.1 h0; omega
    subst hn
    simp (maxSteps:=1000000) only [si,simprocAttr,Z,h0,show limbs 0 = [] from rfl,a43,a43R,Int.sign_zero]
  · have hn:n ≠ 0:=fun e=>h0 (by subst e; rfl)
    have hlen:((limbs n.natAbs).length:Int) ≠ 0:=by simp; exact h0
    by_cases hneg:n < 0
    · simp (maxSteps:=1000000) only [si,simprocAttr,Z,a43,a43R,refs_limbs,hlen,hneg,Int.sign_eq_neg_one_of_neg hneg]
    · simp (maxSteps:=1000000) only [si,simprocAttr,Z,a43,a43R,refs_limbs,hlen,hneg,Int.sign_eq_one_of_pos (show 0 < n by omega)]
def stripN (l:List Nat):Nat → Nat
  | 0=>0
  | n + 1=>if l.getD n 0 = 0 then stripN l n else n + 1
omit hE in
theorem made_loop (l:List Nat) (b:AV) (c:AV) (hc:c.under 0 = true) (hb:b.under 0 = true):∀ n,n ≤ l.length → l.length < 2147483648 →
    run E GP a38l0 { vars:=[.isl (l.map limbA),b,.int .i64 n,.u,c],heap:=[],rs:=false } = some (.exit 0,{ vars:=[.isl (l.map limbA),b,.int .i64 (stripN l n:Nat),.bool false,c],heap:=[],rs:=false }):=by
  intro n
  induction n with
  | zero =>
    intro _ _
    rw [a38l0_run]
    simp (maxSteps:=1000000) only [si,simprocAttr,stripN,a38b0,a38R,Int.ofNat_zero]
  | succ n ih =>
    intro hn hl
    have hget:(l.map limbA)[n]? = some (limbA (l.getD n 0)):=by
      rw [List.getElem?_map,List.getElem?_eq_getElem (by omega)]; simp [List.getD,List.getElem?_eq_getElem (show n < l.length by omega)]
    have hw:IntKind.i64.wrap (((n + 1:Nat):Int) - 1) = (n:Int):=by rw [i64w (by omega)]; omega
    have hpos:((n + 1:Nat):Int) > 0:=by omega
    rw [a38l0_run]
    by_cases hz:l.getD n 0 = 0
    · have hz':((l.getD n 0:Nat):Int) = 0:=by omega
      simp (maxSteps:=1000000) only [si,simprocAttr,stripN,a38b0,a38R,hw,hpos,hget,limbA,hz',hz,hc,hb]
      exact ih (by omega) hl
    · have hz':((l.getD n 0:Nat):Int) ≠ 0:=by omega
      simp (maxSteps:=1000000) only [si,simprocAttr,stripN,a38b0,a38R,hw,hpos,hget,limbA,hz',hz,hc,hb]
omit hE in
theorem stripN_le (l:List Nat):∀ n,stripN l n ≤ n
  | 0=>Nat.le_refl _
  | n + 1=>by
    simp only [stripN]
    split
    · have:=stripN_le l n; omega
    · exact Nat.le_refl _
omit hE in
theorem val_take_strip (l:List Nat):∀ n,n ≤ l.length → val (l.take (stripN l n)) = val (l.take n)
  | 0,_=>rfl
  | n + 1,h=>by
    simp only [stripN]
    split
    · rename_i hz
      rw [val_take_strip l n (by omega),List.take_add_one]
      have:l[n]? = some 0:=by
        rw [List.getElem?_eq_getElem (by omega)]
        simp [List.getD,List.getElem?_eq_getElem (show n < l.length by omega)] at hz
        rw [hz]
      rw [this]
      exact (val_snoc_zero _).symm
    · rfl
omit hE in
theorem strip_last (l:List Nat):∀ n,n ≤ l.length → ∀ h:l.take (stripN l n) ≠ [],(l.take (stripN l n)).getLast h ≠ 0
  | 0,_,h=>absurd rfl h
  | n + 1,hn,h=>by
    by_cases hz:l.getD n 0 = 0
    · have e:stripN l (n + 1) = stripN l n:=by simp only [stripN]; rw [if_pos hz]
      simp only [e] at h ⊢
      exact strip_last l n (by omega) h
    · have e:stripN l (n + 1) = n + 1:=by simp only [stripN]; rw [if_neg hz]
      simp only [e]
      have e2:l.take (n + 1) = l.take n ++ [l.getD n 0]:=by
        rw [List.take_add_one,List.getElem?_eq_getElem (by omega)]; simp [List.getD,List.getElem?_eq_getElem (show n < l.length by omega)]
      simp only [e2]
      rw [List.getLast_append]
      simpa using hz
omit hE in
theorem strip_limbs (l:List Nat) (h:∀ d ∈ l,d < B32):l.take (stripN l l.length) = limbs (val l):=by
  have h1:=val_take_strip l l.length (Nat.le_refl _)
  rw [List.take_length] at h1
  rw [← h1]
  exact (limbs_val _ (fun d hd=>h d (List.mem_of_mem_take hd)) (strip_last l l.length (Nat.le_refl _))).symm
def ofL (neg:Bool) (l:List Nat):Int:=if neg then -(val l:Int) else val l
omit hE in
theorem Z_ofL (neg:Bool) (l:List Nat) (h:∀ d ∈ l,d < B32):Z (ofL neg l) = .agg [.bool (neg && decide (0 < stripN l l.length)),.isl ((l.take (stripN l l.length)).map limbA)]:=by
  have e:=strip_limbs l h
  have hz:(0 < stripN l l.length) ↔ val l ≠ 0:=by
    have hl:(l.take (stripN l l.length)).length = stripN l l.length:=by rw [List.length_take]; have:=stripN_le l l.length; omega
    rw [← hl,e]
    constructor
    · intro h0 h1; rw [h1] at h0; simp [limbs_zero] at h0
    · intro h0
      cases hh:limbs (val l) with
      | nil=>exact absurd (limbs_nil.1 hh) h0
      | cons _ _=>simp
  unfold Z ofL
  have hab:(if neg = true then -(val l:Int) else (val l:Int)).natAbs = val l:=by split <;> omega
  rw [hab,e]
  congr 2
  cases neg
  · simp
  · simp only [if_true,Bool.true_and]
    congr 1
    by_cases h0:val l = 0
    · simp [h0,hz]
    · simp [hz,h0]; omega
theorem r1_made (l:List Nat) (neg:Bool) (H:Heap) (hl:∀ d ∈ l,d < B32) (hlen:l.length < 2147483648):call E GP 38 [.isl (l.map limbA),.bool neg] H = some (Z (ofL neg l),H,false):=by
  rw [call_fun (hE _ _ _ (by decide)) (f:=a38) rfl rfl]
  have hloop:=made_loop (E:=E) l (.bool neg) (.agg [.bool false,.isl []]) (by simp [AV.under,AV.unders]) (by simp [AV.under]) l.length (Nat.le_refl _) hlen
  have hs:=stripN_le l l.length
  rw [Z_ofL neg l hl]
  have hs2:((stripN l l.length:Nat):Int) ≤ (l.length:Int):=by omega
  have hs3:decide (((stripN l l.length:Nat):Int) > 0) = decide (0 < stripN l l.length):=by simp
  have hm:(l.take (stripN l l.length)).length ≤ 4294967296:=by simp; omega
  cases neg <;>
  simp (maxSteps:=1000000) only [si,simprocAttr,a38,a38R,hloop,hs2,hs3,maxLenA,List.drop_zero,← List.map_take,hm]
end Tor
namespace Tor
open Go
def diffAt (a b:List Nat):Nat → Option Nat
  | 0=>none
  | n + 1=>if a.getD n 0 = b.getD n 0 then diffAt a b n else some n
theorem limb_get {l:List Nat} {n:Nat} (h:n < l.length):(l.map limbA)[n]? = some (limbA (l.getD n 0)):=by
  rw [List.getElem?_map,List.getElem?_eq_getElem h]; simp [List.getD,List.getElem?_eq_getElem h]
variable {E:CallF} {GP':Nat → Option AFun}
theorem less_loop (a b:List Nat) (hl:a.length < 2147483648):∀ n,n ≤ a.length → n ≤ b.length → ∀ (i:Int),i = (n:Int) - 1 →
    run E GP a57l0 { vars:=[.isl (a.map limbA),.isl (b.map limbA),.bool false,.int .i64 i,.bool false,.u,.u],heap:=[],rs:=false } =
      match diffAt a b n with
      | none=>some (.exit 0,{ vars:=[.isl (a.map limbA),.isl (b.map limbA),.bool false,.int .i64 (-1),.bool false,.bool false,.u],heap:=[],rs:=false })
      | some j=>some (.ret,{ vars:=[.isl (a.map limbA),.isl (b.map limbA),.bool (decide (a.getD j 0 < b.getD j 0)),.int .i64 j,.bool false,.bool true,.bool true],heap:=[],rs:=false }):=by
  intro n
  induction n with
  | zero =>
    intro _ _ i hi
    have:i = -1:=by omega
    subst this
    rw [a57l0_run]
    simp (maxSteps:=1000000) only [si,simprocAttr,diffAt,a57b0,a57R]
  | succ n ih =>
    intro ha hb i hi
    have:i = (n:Int):=by omega
    subst this
    have hw:IntKind.i64.wrap ((n:Int) - 1) = (n:Int) - 1:=i64w (by omega)
    have h0:(n:Int) ≥ 0:=by omega
    have g1:=limb_get (show n < a.length by omega)
    have g2:=limb_get (show n < b.length by omega)
    rw [a57l0_run]
    by_cases hz:a.getD n 0 = b.getD n 0
    · simp (maxSteps:=1000000) only [si,simprocAttr,diffAt,a57b0,a57R,hw,h0,g1,g2,limbA,hz]
      exact ih (by omega) (by omega) _ rfl
    · have hz':((a.getD n 0:Nat):Int) ≠ ((b.getD n 0:Nat):Int):=by omega
      simp (maxSteps:=1000000) only [si,simprocAttr,diffAt,a57b0,a57R,hw,h0,g1,g2,limbA,hz,hz',Int.ofNat_lt]
theorem take_succ_val (l:List Nat) (n:Nat) (h:n < l.length):val (l.take (n + 1)) = val (l.take n) + B32 ^ n * l.getD n 0:=by
  have e2:l.take (n + 1) = l.take n ++ [l.getD n 0]:=by
    rw [List.take_add_one,List.getElem?_eq_getElem h]; simp [List.getD,List.getElem?_eq_getElem h]
  rw [e2,val_append]
  have:(l.take n).length = n:=by rw [List.length_take]; omega
  rw [this]; simp [val]
theorem take_val_lt (l:List Nat) (hl:∀ d ∈ l,d < B32) (n:Nat):val (l.take n) < B32 ^ n:=by
  have h1:=val_lt (l.take n) fun d hd=>hl d (List.mem_of_mem_take hd)
  have h2:B32 ^ (l.take n).length ≤ B32 ^ n:=Nat.pow_le_pow_right (by decide) (by rw [List.length_take]; omega)
  omega
theorem diffAt_val (a b:List Nat) (ha:∀ d ∈ a,d < B32) (hb:∀ d ∈ b,d < B32):∀ n,n ≤ a.length → n ≤ b.length →
    match diffAt a b n with
    | none=>val (a.take n) = val (b.take n)
    | some j=>val (a.take n) ≠ val (b.take n) ∧ (a.getD j 0 < b.getD j 0 ↔ val (a.take n) < val (b.take n))
  | 0,_,_=>by simp [diffAt]
  | n + 1,h1,h2=>by
    have ih:=diffAt_val a b ha hb n (by omega) (by omega)
    have e1:=take_succ_val a n (by omega)
    have e2:=take_succ_val b n (by omega)
    simp only [diffAt]
    by_cases hz:a.getD n 0 = b.getD n 0
    · rw [if_pos hz]
      cases hd:diffAt a b n with
      | none=>rw [hd] at ih; simp only at ih ⊢; rw [e1,e2,ih,hz]
      | some j =>
        rw [hd] at ih
        simp only at ih ⊢
        rw [e1,e2,hz]
        exact ⟨by omega,by rw [ih.2]; omega⟩
    · rw [if_neg hz]
      simp only
      have l1:=take_val_lt a ha n
      have l2:=take_val_lt b hb n
      rw [e1,e2]
      generalize val (a.take n) = x at *
      generalize val (b.take n) = y at *
      generalize a.getD n 0 = p at *
      generalize b.getD n 0 = q at *
      generalize B32 ^ n = w at *
      have key:∀ p q x y:Nat,p < q → x < w → x + w * p < y + w * q:=by
        intro p q x y h hx
        have:w * p + w ≤ w * q:=by rw [← Nat.mul_succ]; exact Nat.mul_le_mul_left _ h
        omega
      rcases Nat.lt_or_ge p q with h | h
      · have:=key p q x y h l1
        exact ⟨by omega,by omega⟩
      · have:=key q p y x (by omega) l2
        exact ⟨by omega,by omega⟩
theorem limbs_length_lt {m n:Nat} (h:(limbs m).length < (limbs n).length):m < n:=by
  have h1:=val_lt (limbs m) (limbs_lt m)
  rw [val_limbs] at h1
  have hne:limbs n ≠ []:=by intro e; rw [e] at h; simp at h
  obtain ⟨l,d,e⟩:∃ l d,limbs n = l ++ [d]:=⟨_,_,(List.dropLast_concat_getLast hne).symm⟩
  have hd:d ≠ 0:=by
    have:=limbs_last n hne
    simp only [e] at this
    simpa using this
  have h2:=val_limbs n
  rw [e,val_append] at h2
  simp only [val,Nat.mul_zero,Nat.add_zero] at h2
  have h3:l.length + 1 = (limbs n).length:=by rw [e]; simp
  have h4:B32 ^ (limbs m).length ≤ B32 ^ l.length:=Nat.pow_le_pow_right (by decide) (by omega)
  have h5:B32 ^ l.length * 1 ≤ B32 ^ l.length * d:=Nat.mul_le_mul_left _ (by omega)
  omega
variable (hE:Free E)
include hE
theorem r1_less (m n:Nat) (H:Heap) (hm:(limbs m).length < 2147483648) (hn:(limbs n).length < 2147483648) :
    call E GP 57 [.isl ((limbs m).map limbA),.isl ((limbs n).map limbA)] H = some (.bool (decide (m < n)),H,false):=by
  rw [call_fun (hE _ _ _ (by decide)) (f:=a57) rfl rfl]
  by_cases hlen:(limbs m).length = (limbs n).length
  · have hlen':((limbs m).length:Int) = ((limbs n).length:Int):=by omega
    have hw:IntKind.i64.wrap (((limbs n).length:Int) - 1) = ((limbs n).length:Int) - 1:=i64w (by omega)
    have hloop:=less_loop (E:=E) (limbs m) (limbs n) hm (limbs n).length (by omega) (Nat.le_refl _) _ rfl
    have hv:=diffAt_val (limbs m) (limbs n) (limbs_lt m) (limbs_lt n) (limbs n).length (by omega) (Nat.le_refl _)
    rw [List.take_length,← hlen,List.take_length,val_limbs,val_limbs,hlen] at hv
    cases hd:diffAt (limbs m) (limbs n) (limbs n).length with
    | none =>
      rw [hd] at hloop hv
      have:decide (m < n) = false:=by simp only at hv; simp [hv]
      simp (maxSteps:=1000000) only [si,simprocAttr,a57,a57R,hlen',hw,hloop,this,ne_eq,eq_self,not_true_eq_false]
    | some j =>
      rw [hd] at hloop hv
      simp only at hv
      simp (maxSteps:=1000000) only [si,simprocAttr,a57,a57R,hlen',hw,hloop,hv.2,ne_eq,eq_self,not_true_eq_false]
  · have hlen':((limbs m).length:Int) ≠ ((limbs n).length:Int):=by omega
    have:decide (((limbs m).length:Int) < ((limbs n).length:Int)) = decide (m < n):=by
      rcases Nat.lt_or_ge (limbs m).length (limbs n).length with h | h
      · have:=limbs_length_lt h
        simp [this,h]
      · have:=limbs_length_lt (show (limbs n).length < (limbs m).length by omega)
        rw [decide_eq_decide]; omega
    simp (maxSteps:=1000000) only [si,simprocAttr,a57,a57R,hlen',this]
theorem r1_same (m n:Int) (H:Heap) (hm:(limbs m.natAbs).length < 2147483648) (hn:(limbs n.natAbs).length < 2147483648):call E GP 37 [Z m,Z n] H = some (.bool (decide (m = n)),H,false):=by
  rw [call_fun (hE _ _ _ (by decide)) (f:=a37) rfl rfl]
  have h1:=fun H=>r1_less hE m.natAbs n.natAbs H hm hn
  have h2:=fun H=>r1_less hE n.natAbs m.natAbs H hn hm
  by_cases hs:decide (m < 0) = decide (n < 0)
  · by_cases h3:m.natAbs < n.natAbs
    · have:decide (m = n) = false:=by simp; omega
      simp (maxSteps:=1000000) only [si,simprocAttr,Z,a37,a37R,h1,h2,hs,h3,this]
    · by_cases h4:n.natAbs < m.natAbs
      · have:decide (m = n) = false:=by simp; omega
        simp (maxSteps:=1000000) only [si,simprocAttr,Z,a37,a37R,h1,h2,hs,h3,h4,this]
      · have:decide (m = n) = true:=by simp at hs ⊢; omega
        simp (maxSteps:=1000000) only [si,simprocAttr,Z,a37,a37R,h1,h2,hs,h3,h4,this]
  · have:decide (m = n) = false:=by simp; intro e; subst e; exact hs rfl
    have hs2:(decide (m < 0) == decide (n < 0)) = false:=by simpa using hs
    simp (maxSteps:=1000000) only [si,simprocAttr,Z,a37,a37R,h1,h2,hs2,this]
end Tor
namespace Tor
open Go
theorem u64n {n:Nat} (h:n < 18446744073709551616):IntKind.u64.wrap (n:Int) = (n:Int):=by rw [IntKind.wrap_u64]; omega
theorem u64a {x y:Nat} (h:x + y < 18446744073709551616):IntKind.u64.wrap ((x:Int) + (y:Int)) = ((x + y:Nat):Int):=by rw [IntKind.wrap_u64]; omega
theorem u32n (n:Nat):IntKind.u32.wrap (n:Int) = ((n % B32:Nat):Int):=by rw [IntKind.wrap_u32]; simp only [B32]; omega
theorem u64q {n:Nat} (h:n < 18446744073709551616):IntKind.u64.wrap ((n:Int).tdiv 4294967296) = ((n / B32:Nat):Int):=by
  rw [IntKind.wrap_u64,Int.tdiv_eq_ediv_of_nonneg (by omega)]; simp only [B32]; omega
theorem i64a {x:Nat} (h:x < 4294967296):IntKind.i64.wrap ((x:Int) + 1) = ((x + 1:Nat):Int):=by rw [i64w (by omega)]; omega
def dig (l:List Nat) (i:Nat):Nat:=if i < l.length then l.getD i 0 else 0
theorem dig_lt {l:List Nat} (h:∀ d ∈ l,d < B32) (i:Nat):dig l i < B32:=by
  unfold dig
  split
  · rename_i hi
    have:l.getD i 0 = l[i]:=by simp [List.getD,List.getElem?_eq_getElem hi]
    rw [this]; exact h _ (List.getElem_mem hi)
  · decide
theorem take_dig (l:List Nat) (i:Nat):val (l.take (i + 1)) = val (l.take i) + B32 ^ i * dig l i:=by
  unfold dig
  split
  · rename_i h; exact take_succ_val l i h
  · rename_i h
    rw [List.take_of_length_le (by omega),List.take_of_length_le (by omega)]; simp
def pst (a b out:List Nat) (i c:Nat):St :=
  { vars:=[.isl (a.map limbA),.isl (b.map limbA),.isl [],.sl 0 i 1 0 i,.int .u64 c,.int .i64 i,.u,.u,.u],heap:=[.arr i 1 (out.map limbA)],rs:=false }
variable {E:CallF}
theorem plus_round (a b:List Nat) (ha:∀ d ∈ a,d < B32) (hb:∀ d ∈ b,d < B32) (la:a.length < 2147483648) (lb:b.length < 2147483648) (i c:Nat) (out:List Nat) (ho:out.length = i) (hi:i < 2147483649) (hc:c ≤ 1)
    (h:i < a.length ∨ i < b.length ∨ 0 < c):run E GP a63l0 (pst a b out i c) = run E GP a63l0 (pst a b (out ++ [(c + dig a i + dig b i) % B32]) (i + 1) ((c + dig a i + dig b i) / B32)):=by
  have da:=dig_lt ha i
  have db:=dig_lt hb i
  simp only [B32] at da db
  have w1:IntKind.i64.wrap ((i:Int) + 1) = ((i + 1:Nat):Int):=i64a (by omega)
  have hm:i + 1 ≤ 4294967296:=by omega
  have wq:=u64q (n:=c + dig a i + dig b i) (by omega)
  have wr:=u32n (c + dig a i + dig b i)
  conv=>lhs; rw [a63l0_run]
  by_cases h1:i < a.length
  · have g1:=limb_get h1
    have e1:dig a i = a.getD i 0:=by unfold dig; rw [if_pos h1]
    rw [← e1] at g1
    have k1:(i:Int) < (a.length:Int):=by omega
    have wa:=u64n (n:=dig a i) (by omega)
    have wb:=u64a (x:=c) (y:=dig a i) (by omega)
    by_cases h2:i < b.length
    · have g2:=limb_get h2
      have e2:dig b i = b.getD i 0:=by unfold dig; rw [if_pos h2]
      rw [← e2] at g2
      have k2:(i:Int) < (b.length:Int):=by omega
      have wc:=u64n (n:=dig b i) (by omega)
      have wd:=u64a (x:=c + dig a i) (y:=dig b i) (by omega)
      simp (maxSteps:=1000000) only [si,simprocAttr,List.map_append,pst,a63b0,a63R,limbA,wq,wr,w1,hm,maxLenA,ho,k1,k2,g1,g2,wa,wb,wc,wd]
    · have e2:dig b i = 0:=by unfold dig; rw [if_neg h2]
      have k2:¬ (i:Int) < (b.length:Int):=by omega
      rw [e2,Nat.add_zero] at wq wr
      rw [e2,Nat.add_zero]
      simp (maxSteps:=1000000) only [si,simprocAttr,List.map_append,pst,a63b0,a63R,limbA,wq,wr,w1,hm,maxLenA,ho,k1,k2,g1,wa,wb]
  · have e1:dig a i = 0:=by unfold dig; rw [if_neg h1]
    have k1:¬ (i:Int) < (a.length:Int):=by omega
    rw [e1,Nat.add_zero] at wq wr
    rw [e1,Nat.add_zero]
    by_cases h2:i < b.length
    · have g2:=limb_get h2
      have e2:dig b i = b.getD i 0:=by unfold dig; rw [if_pos h2]
      rw [← e2] at g2
      have k2:(i:Int) < (b.length:Int):=by omega
      have wc:=u64n (n:=dig b i) (by omega)
      have wd:=u64a (x:=c) (y:=dig b i) (by omega)
      simp (maxSteps:=1000000) only [si,simprocAttr,List.map_append,pst,a63b0,a63R,limbA,wq,wr,w1,hm,maxLenA,ho,k1,k2,g2,wc,wd]
    · have e2:dig b i = 0:=by unfold dig; rw [if_neg h2]
      have k2:¬ (i:Int) < (b.length:Int):=by omega
      have k3:(c:Int) > 0:=by omega
      rw [e2,Nat.add_zero] at wq wr
      rw [e2,Nat.add_zero]
      simp (maxSteps:=1000000) only [si,simprocAttr,List.map_append,pst,a63b0,a63R,limbA,wq,wr,w1,hm,maxLenA,ho,k1,k2,k3]
theorem plus_exit (a b out:List Nat) (i:Nat) (h1:¬ i < a.length) (h2:¬ i < b.length) :
    run E GP a63l0 (pst a b out i 0) = some (.exit 0,{ vars:=[.isl (a.map limbA),.isl (b.map limbA),.isl [],.sl 0 i 1 0 i,.int .u64 0,.int .i64 i,.bool false,.u,.u],heap:=[.arr i 1 (out.map limbA)],rs:=false }):=by
  have k1:¬ (i:Int) < (a.length:Int):=by omega
  have k2:¬ (i:Int) < (b.length:Int):=by omega
  rw [a63l0_run]
  simp (maxSteps:=1000000) only [si,simprocAttr,pst,a63b0,a63R,k1,k2,Int.ofNat_zero]
theorem plus_loop (a b:List Nat) (ha:∀ d ∈ a,d < B32) (hb:∀ d ∈ b,d < B32) (la:a.length < 2147483648) (lb:b.length < 2147483648):∀ (k i c:Nat) (out:List Nat),max a.length b.length + 1 ≤ i + k → i ≤ max a.length b.length + 1 →
    out.length = i → c ≤ 1 → (i = max a.length b.length + 1 → c = 0) → (∀ d ∈ out,d < B32) → val out + B32 ^ i * c = val (a.take i) + val (b.take i) →
    ∃ r:List Nat,run E GP a63l0 (pst a b out i c) = some (.exit 0,{ vars:=[.isl (a.map limbA),.isl (b.map limbA),.isl [],.sl 0 r.length 1 0 r.length,.int .u64 0,.int .i64 r.length,.bool false,.u,.u],heap:=[.arr r.length 1 (r.map limbA)],rs:=false }) ∧
      (∀ d ∈ r,d < B32) ∧ val r = val a + val b ∧ r.length ≤ max a.length b.length + 1:=by
  intro k
  induction k with
  | zero =>
    intro i c out h1 h2 h3 h4 h5 h6 h7
    have hi:i = max a.length b.length + 1:=by omega
    have hc:=h5 hi
    subst hc
    rw [List.take_of_length_le (by omega),List.take_of_length_le (by omega),Nat.mul_zero,Nat.add_zero] at h7
    exact ⟨out,by rw [plus_exit a b out i (by omega) (by omega),h3],h6,h7,by omega⟩
  | succ k ih =>
    intro i c out h1 h2 h3 h4 h5 h6 h7
    by_cases hgo:i < a.length ∨ i < b.length ∨ 0 < c
    · have da:=dig_lt ha i
      have db:=dig_lt hb i
      have hi:i ≤ max a.length b.length:=by
        by_cases hi:i = max a.length b.length + 1
        · have:=h5 hi; omega
        · omega
      rw [plus_round a b ha hb la lb i c out h3 (by omega) h4 hgo]
      refine ih (i + 1) _ _ (by omega) (by omega) (by simp [h3]) (by simp only [B32] at da db ⊢; omega) (fun e=>?_) (fun d hd=>?_) ?_
      · have e1:dig a i = 0:=by unfold dig; rw [if_neg (by omega)]
        have e2:dig b i = 0:=by unfold dig; rw [if_neg (by omega)]
        rw [e1,e2]; simp only [B32]; omega
      · rcases List.mem_append.1 hd with hd | hd
        · exact h6 d hd
        · simp at hd; subst hd; exact Nat.mod_lt _ (by decide)
      · rw [val_append,h3,take_dig,take_dig]
        simp only [val,Nat.mul_zero,Nat.add_zero]
        have hdm:=Nat.div_add_mod (c + dig a i + dig b i) B32
        generalize (c + dig a i + dig b i) / B32 = q at *
        generalize (c + dig a i + dig b i) % B32 = m at *
        have e:B32 ^ i * m + B32 ^ (i + 1) * q = B32 ^ i * c + B32 ^ i * dig a i + B32 ^ i * dig b i:=by
          rw [Nat.pow_succ,Nat.mul_assoc,← Nat.mul_add,← Nat.mul_add,← Nat.mul_add,Nat.add_comm m,hdm]
        omega
    · have hc:c = 0:=by omega
      subst hc
      rw [List.take_of_length_le (by omega),List.take_of_length_le (by omega),Nat.mul_zero,Nat.add_zero] at h7
      exact ⟨out,by rw [plus_exit a b out i (by omega) (by omega),h3],h6,h7,by omega⟩
variable (hE:Free E)
include hE
theorem r1_plus (a b:List Nat) (ha:∀ d ∈ a,d < B32) (hb:∀ d ∈ b,d < B32) (la:a.length < 2147483648) (lb:b.length < 2147483648):∃ r:List Nat,(∀ d ∈ r,d < B32) ∧ val r = val a + val b ∧ r.length ≤ max a.length b.length + 1 ∧
    ∀ H,call E GP 63 [.isl (a.map limbA),.isl (b.map limbA)] H = some (.isl (r.map limbA),H,false):=by
  obtain ⟨r,h1,h2,h3,h4⟩:=plus_loop (E:=E) a b ha hb la lb (max a.length b.length + 1) 0 0 [] (by omega) (by omega) rfl (by omega) (fun _=>rfl) (fun d hd=>(by cases hd)) (by simp [val])
  refine ⟨r,h2,h3,h4,fun H=>?_⟩
  rw [call_fun (hE _ _ _ (by decide)) (f:=a63) rfl rfl]
  simp only [pst,List.map_nil,Int.ofNat_zero] at h1
  simp (maxSteps:=1000000) only [si,simprocAttr,a63,a63R,h1,← List.map_take]
end Tor
namespace Tor
open Go
def mst (a b out:List Nat) (i w:Nat):St :=
  { vars:=[.isl (a.map limbA),.isl (b.map limbA),.isl [],.sl 0 i 1 0 i,.int .i64 w,.int .i64 i,.u,.u,.u,.u],heap:=[.arr i 1 (out.map limbA)],rs:=false }
variable {E:CallF}
def mdig (x y w:Nat):Nat:=if x < y + w then x + B32 - (y + w) else x - (y + w)
def mbor (x y w:Nat):Nat:=if x < y + w then 1 else 0
theorem minus_round (a b:List Nat) (ha:∀ d ∈ a,d < B32) (hb:∀ d ∈ b,d < B32) (la:a.length < 2147483648) (i w:Nat) (out:List Nat) (ho:out.length = i) (hw:w ≤ 1) (h1:i < a.length) :
    run E GP a64l0 (mst a b out i w) = run E GP a64l0 (mst a b (out ++ [mdig (dig a i) (dig b i) w]) (i + 1) (mbor (dig a i) (dig b i) w)):=by
  have da:=dig_lt ha i
  have db:=dig_lt hb i
  simp only [B32] at da db
  have w1:IntKind.i64.wrap ((i:Int) + 1) = ((i + 1:Nat):Int):=i64a (by omega)
  have hm:i + 1 ≤ 4294967296:=by omega
  have g1:=limb_get h1
  have e1:dig a i = a.getD i 0:=by unfold dig; rw [if_pos h1]
  rw [← e1] at g1
  have k1:(i:Int) < (a.length:Int):=by omega
  have wa:IntKind.i64.wrap (dig a i:Int) = (dig a i:Int):=i64w (by omega)
  have wb:IntKind.i64.wrap ((dig a i:Int) - (w:Int)) = (dig a i:Int) - (w:Int):=i64w (by omega)
  conv=>lhs; rw [a64l0_run]
  by_cases h2:i < b.length
  · have g2:=limb_get h2
    have e2:dig b i = b.getD i 0:=by unfold dig; rw [if_pos h2]
    rw [← e2] at g2
    have k2:(i:Int) < (b.length:Int):=by omega
    have wc:IntKind.i64.wrap (dig b i:Int) = (dig b i:Int):=i64w (by omega)
    have wd:IntKind.i64.wrap ((dig a i:Int) - (w:Int) - (dig b i:Int)) = (dig a i:Int) - (w:Int) - (dig b i:Int):=i64w (by omega)
    by_cases h3:dig a i < dig b i + w
    · have k3:(dig a i:Int) - (w:Int) - (dig b i:Int) < 0:=by omega
      have we:IntKind.i64.wrap ((dig a i:Int) - (w:Int) - (dig b i:Int) + 4294967296) = ((mdig (dig a i) (dig b i) w:Nat):Int):=by
        rw [i64w (by omega)]; unfold mdig; rw [if_pos h3]; simp only [B32]; omega
      have wr:IntKind.u32.wrap ((mdig (dig a i) (dig b i) w:Nat):Int) = ((mdig (dig a i) (dig b i) w:Nat):Int):=by
        rw [u32n,Nat.mod_eq_of_lt]; unfold mdig; rw [if_pos h3]; simp only [B32]; omega
      have hbo:mbor (dig a i) (dig b i) w = 1:=by unfold mbor; rw [if_pos h3]
      simp (maxSteps:=1000000) only [si,simprocAttr,List.map_append,mst,a64b0,a64R,limbA,w1,hm,maxLenA,ho,g1,k1,wa,wb,g2,k2,wc,wd,k3,we,wr,hbo]
    · have k3:¬ (dig a i:Int) - (w:Int) - (dig b i:Int) < 0:=by omega
      have wr:IntKind.u32.wrap ((dig a i:Int) - (w:Int) - (dig b i:Int)) = ((mdig (dig a i) (dig b i) w:Nat):Int):=by
        rw [show (dig a i:Int) - (w:Int) - (dig b i:Int) = ((dig a i - (dig b i + w):Nat):Int) by omega,u32n,Nat.mod_eq_of_lt (by simp only [B32]; omega)]
        unfold mdig; rw [if_neg h3]
      have hbo:mbor (dig a i) (dig b i) w = 0:=by unfold mbor; rw [if_neg h3]
      simp (maxSteps:=1000000) only [si,simprocAttr,List.map_append,mst,a64b0,a64R,limbA,w1,hm,maxLenA,ho,g1,k1,wa,wb,g2,k2,wc,wd,k3,wr,hbo,Int.ofNat_zero]
  · have e2:dig b i = 0:=by unfold dig; rw [if_neg h2]
    have k2:¬ (i:Int) < (b.length:Int):=by omega
    by_cases h3:dig a i < dig b i + w
    · have k3:(dig a i:Int) - (w:Int) < 0:=by omega
      have we:IntKind.i64.wrap ((dig a i:Int) - (w:Int) + 4294967296) = ((mdig (dig a i) (dig b i) w:Nat):Int):=by
        rw [i64w (by omega)]; unfold mdig; rw [if_pos h3]; simp only [B32]; omega
      have wr:IntKind.u32.wrap ((mdig (dig a i) (dig b i) w:Nat):Int) = ((mdig (dig a i) (dig b i) w:Nat):Int):=by
        rw [u32n,Nat.mod_eq_of_lt]; unfold mdig; rw [if_pos h3]; simp only [B32]; omega
      have hbo:mbor (dig a i) (dig b i) w = 1:=by unfold mbor; rw [if_pos h3]
      simp (maxSteps:=1000000) only [si,simprocAttr,List.map_append,mst,a64b0,a64R,limbA,w1,hm,maxLenA,ho,g1,k1,wa,wb,k2,k3,we,wr,hbo]
    · have k3:¬ (dig a i:Int) - (w:Int) < 0:=by omega
      have wr:IntKind.u32.wrap ((dig a i:Int) - (w:Int)) = ((mdig (dig a i) (dig b i) w:Nat):Int):=by
        rw [show (dig a i:Int) - (w:Int) = ((dig a i - (dig b i + w):Nat):Int) by omega,u32n,Nat.mod_eq_of_lt (by simp only [B32]; omega)]
        unfold mdig; rw [if_neg h3]
      have hbo:mbor (dig a i) (dig b i) w = 0:=by unfold mbor; rw [if_neg h3]
      simp (maxSteps:=1000000) only [si,simprocAttr,List.map_append,mst,a64b0,a64R,limbA,w1,hm,maxLenA,ho,g1,k1,wa,wb,k2,k3,wr,hbo,Int.ofNat_zero]
theorem minus_exit (a b out:List Nat) (i w:Nat) (h1:¬ i < a.length) :
    run E GP a64l0 (mst a b out i w) = some (.exit 0,{ vars:=[.isl (a.map limbA),.isl (b.map limbA),.isl [],.sl 0 i 1 0 i,.int .i64 w,.int .i64 i,.u,.bool false,.u,.u],heap:=[.arr i 1 (out.map limbA)],rs:=false }):=by
  have k1:¬ (i:Int) < (a.length:Int):=by omega
  rw [a64l0_run]
  simp (maxSteps:=1000000) only [si,simprocAttr,mst,a64b0,a64R,k1]
theorem mdig_eq {x y w:Nat} (hx:x < B32) (hy:y < B32) (hw:w ≤ 1):mdig x y w < B32 ∧ mbor x y w ≤ 1 ∧ x + B32 * mbor x y w = mdig x y w + (y + w):=by
  unfold mdig mbor
  simp only [B32] at *
  split <;> omega
theorem minus_loop (a b:List Nat) (ha:∀ d ∈ a,d < B32) (hb:∀ d ∈ b,d < B32) (la:a.length < 2147483648):∀ (k i w:Nat) (out:List Nat),a.length = i + k →
    out.length = i → w ≤ 1 → (∀ d ∈ out,d < B32) → val (a.take i) + B32 ^ i * w = val out + val (b.take i) →
    ∃ (r:List Nat) (w':Nat),run E GP a64l0 (mst a b out i w) = some (.exit 0,{ vars:=[.isl (a.map limbA),.isl (b.map limbA),.isl [],.sl 0 r.length 1 0 r.length,.int .i64 w',.int .i64 r.length,.u,.bool false,.u,.u],heap:=[.arr r.length 1 (r.map limbA)],rs:=false }) ∧
      (∀ d ∈ r,d < B32) ∧ val a + B32 ^ a.length * w' = val r + val (b.take a.length) ∧ r.length = a.length:=by
  intro k
  induction k with
  | zero =>
    intro i w out h1 h3 h4 h6 h7
    have hi:i = a.length:=by omega
    subst hi
    rw [List.take_length] at h7
    exact ⟨out,w,by rw [minus_exit a b out a.length w (by omega),h3],h6,h7,h3⟩
  | succ k ih =>
    intro i w out h1 h3 h4 h6 h7
    have da:=dig_lt ha i
    have db:=dig_lt hb i
    obtain ⟨m1,m2,m3⟩:=mdig_eq da db h4
    rw [minus_round a b ha hb la i w out h3 h4 (by omega)]
    refine ih (i + 1) _ _ (by omega) (by simp [h3]) m2 (fun d hd=>?_) ?_
    · rcases List.mem_append.1 hd with hd | hd
      · exact h6 d hd
      · simp at hd; subst hd; exact m1
    · rw [val_append,h3,take_dig,take_dig]
      simp only [val,Nat.mul_zero,Nat.add_zero]
      generalize mdig (dig a i) (dig b i) w = m at *
      generalize mbor (dig a i) (dig b i) w = q at *
      have e:B32 ^ i * dig a i + B32 ^ (i + 1) * q = B32 ^ i * m + B32 ^ i * dig b i + B32 ^ i * w:=by
        rw [Nat.pow_succ,Nat.mul_assoc,← Nat.mul_add,m3,Nat.mul_add,Nat.mul_add]; omega
      omega
variable (hE:Free E)
include hE
theorem r1_minus (a b:List Nat) (ha:∀ d ∈ a,d < B32) (hb:∀ d ∈ b,d < B32) (la:a.length < 2147483648) (lb:b.length ≤ a.length) (hle:val b ≤ val a):∃ r:List Nat,(∀ d ∈ r,d < B32) ∧ val r = val a - val b ∧ r.length = a.length ∧
    ∀ H,call E GP 64 [.isl (a.map limbA),.isl (b.map limbA)] H = some (.isl (r.map limbA),H,false):=by
  obtain ⟨r,w',h1,h2,h3,h4⟩:=minus_loop (E:=E) a b ha hb la a.length 0 0 [] (by omega) rfl (by omega) (fun d hd=>(by cases hd)) (by simp [val])
  rw [List.take_of_length_le lb] at h3
  have hr:=val_lt r h2
  rw [h4] at hr
  have hw:w' = 0:=by
    rcases Nat.eq_zero_or_pos w' with h | h
    · exact h
    · have:B32 ^ a.length * 1 ≤ B32 ^ a.length * w':=Nat.mul_le_mul_left _ h
      omega
  subst hw
  refine ⟨r,h2,by omega,h4,fun H=>?_⟩
  rw [call_fun (hE _ _ _ (by decide)) (f:=a64) rfl rfl]
  simp only [mst,List.map_nil,Int.ofNat_zero] at h1
  simp (maxSteps:=1000000) only [si,simprocAttr,a64,a64R,h1,← List.map_take]
omit hE in
theorem limbs_len_le {m n:Nat} (h:m ≤ n):(limbs m).length ≤ (limbs n).length:=by
  rcases Nat.lt_or_ge (limbs n).length (limbs m).length with h' | h'
  · have:=limbs_length_lt h'; omega
  · exact h'
theorem r1_add (m n:Int) (H:Heap) (hm:(limbs m.natAbs).length < 2147483647) (hn:(limbs n.natAbs).length < 2147483647):call E GP 49 [Z m,Z n] H = some (Z (m + n),H,false):=by
  rw [call_fun (hE _ _ _ (by decide)) (f:=a49) rfl rfl]
  have Lm:=limbs_lt m.natAbs
  have Ln:=limbs_lt n.natAbs
  have Vm:=val_limbs m.natAbs
  have Vn:=val_limbs n.natAbs
  have hl:=fun H=>r1_less hE m.natAbs n.natAbs H (by omega) (by omega)
  by_cases hs:decide (m < 0) = decide (n < 0)
  · obtain ⟨r,r1,r2,r3,r4⟩:=r1_plus hE _ _ Lm Ln (by omega) (by omega)
    have hmade:=fun H=>r1_made hE r (decide (n < 0)) H r1 (by omega)
    have he:ofL (decide (n < 0)) r = m + n:=by
      unfold ofL; rw [r2,Vm,Vn]
      simp only [decide_eq_decide] at hs
      by_cases hn0:n < 0
      · rw [if_pos (by simpa using hn0)]; have:=hs.2 hn0; omega
      · rw [if_neg (by simpa using hn0)]; have:¬ m < 0:=fun h=>hn0 (hs.1 h); omega
    rw [he] at hmade
    rw [show Z m = .agg [.bool (decide (m < 0)),.isl ((limbs m.natAbs).map limbA)] from rfl,show Z n = .agg [.bool (decide (n < 0)),.isl ((limbs n.natAbs).map limbA)] from rfl]
    simp (maxSteps:=1000000) only [si,simprocAttr,a49,a49R,hs,r4,hmade]
  · have hs2:(decide (m < 0) == decide (n < 0)) = false:=by simpa using hs
    by_cases hlt:m.natAbs < n.natAbs
    · obtain ⟨r,r1,r2,r3,r4⟩:=r1_minus hE _ _ Ln Lm (by omega) (limbs_len_le (by omega)) (by omega)
      have hmade:=fun H=>r1_made hE r (decide (n < 0)) H r1 (by omega)
      have he:ofL (decide (n < 0)) r = m + n:=by
        unfold ofL; rw [r2,Vm,Vn]
        simp only [decide_eq_decide] at hs
        by_cases hn0:n < 0
        · rw [if_pos (by simpa using hn0)]; have:¬ m < 0:=fun h=>hs ⟨fun _=>hn0,fun _=>h⟩; omega
        · rw [if_neg (by simpa using hn0)]; have:m < 0:=by
            by_cases hm0:m < 0
            · exact hm0
            · exact absurd ⟨fun h=>absurd h hm0,fun h=>absurd h hn0⟩ hs
          omega
      rw [he] at hmade
      rw [show Z m = .agg [.bool (decide (m < 0)),.isl ((limbs m.natAbs).map limbA)] from rfl,show Z n = .agg [.bool (decide (n < 0)),.isl ((limbs n.natAbs).map limbA)] from rfl]
      simp (maxSteps:=1000000) only [si,simprocAttr,a49,a49R,hs2,hl,hlt,r4,hmade]
    · obtain ⟨r,r1,r2,r3,r4⟩:=r1_minus hE _ _ Lm Ln (by omega) (limbs_len_le (by omega)) (by omega)
      have hmade:=fun H=>r1_made hE r (decide (m < 0)) H r1 (by omega)
      have he:ofL (decide (m < 0)) r = m + n:=by
        unfold ofL; rw [r2,Vm,Vn]
        simp only [decide_eq_decide] at hs
        by_cases hm0:m < 0
        · rw [if_pos (by simpa using hm0)]; have:¬ n < 0:=fun h=>hs ⟨fun _=>h,fun _=>hm0⟩; omega
        · rw [if_neg (by simpa using hm0)]; have:n < 0:=by
            by_cases hn0:n < 0
            · exact hn0
            · exact absurd ⟨fun h=>absurd h hm0,fun h=>absurd h hn0⟩ hs
          omega
      rw [he] at hmade
      rw [show Z m = .agg [.bool (decide (m < 0)),.isl ((limbs m.natAbs).map limbA)] from rfl,show Z n = .agg [.bool (decide (n < 0)),.isl ((limbs n.natAbs).map limbA)] from rfl]
      simp (maxSteps:=1000000) only [si,simprocAttr,a49,a49R,hs2,hl,hlt,r4,hmade]
theorem r1_of (n:Int) (H:Heap) (h1:-9223372036854775808 ≤ n) (h2:n ≤ 9223372036854775807):call E GP 14 [.int .i64 n] H = some (Z n,H,false):=by
  rw [call_fun (hE _ _ _ (by decide)) (f:=a14) rfl rfl]
  have key:∀ m:Nat,m < 18446744073709551616 → ∀ H,call E GP 38 [.isl [.int .u32 ((m % B32:Nat):Int),.int .u32 ((m / B32:Nat):Int)],.bool (decide (n < 0))] H = some (Z (if n < 0 then -(m:Int) else m),H,false):=by
    intro m hm H
    have:=r1_made hE [m % B32,m / B32] (decide (n < 0)) H (fun d hd=>by
      simp only [B32] at hd ⊢
      simp only [List.mem_cons,List.not_mem_nil,or_false] at hd
      rcases hd with rfl | rfl <;> omega) (by simp)
    have hv:val [m % B32,m / B32] = m:=by simp only [val,B32]; omega
    unfold ofL at this
    rw [hv] at this
    simpa [limbA] using this
  have ws:∀ m:Nat,m < 18446744073709551616 → IntKind.u32.wrap (((m:Nat):Int).fdiv (2 ^ (Nat.min 32 IntKind.u64.bits))) = ((m / B32:Nat):Int):=by
    intro m hm
    have e:(2:Int) ^ (Nat.min 32 IntKind.u64.bits) = 4294967296:=by decide
    rw [e,Int.fdiv_eq_ediv_of_nonneg _ (by omega),IntKind.wrap_u32]
    simp only [B32]; omega
  by_cases hn:n < 0
  · have wu:IntKind.u64.wrap n = ((18446744073709551616 - n.natAbs:Nat):Int):=by rw [IntKind.wrap_u64]; omega
    have wn:IntKind.u64.wrap (0 - ((18446744073709551616 - n.natAbs:Nat):Int)) = ((n.natAbs:Nat):Int):=by rw [IntKind.wrap_u64]; omega
    have hk:=key n.natAbs (by omega)
    have hs:=ws n.natAbs (by omega)
    have e:(if n < 0 then -(n.natAbs:Int) else (n.natAbs:Int)) = n:=by rw [if_pos hn]; omega
    rw [e] at hk
    simp only [hn,decide_true,decide_false] at hk
    simp (maxSteps:=1000000) only [si,simprocAttr,a14,a14R,hn,wu,wn,u32n,hs,hk]
  · have wu:IntKind.u64.wrap n = ((n.natAbs:Nat):Int):=by rw [IntKind.wrap_u64]; omega
    have hk:=key n.natAbs (by omega)
    have hs:=ws n.natAbs (by omega)
    have e:(if n < 0 then -(n.natAbs:Int) else (n.natAbs:Int)) = n:=by rw [if_neg hn]; omega
    rw [e] at hk
    simp only [hn,decide_true,decide_false] at hk
    simp (maxSteps:=1000000) only [si,simprocAttr,a14,a14R,hn,wu,u32n,hs,hk]
end Tor
namespace Tor
open Go
def xst (za zb:AV) (out:List Nat) (i k c:Nat):St :=
  { vars:=[za,zb,.sl 0 0 1 0 out.length,.int .i64 i,.int .u64 c,.int .i64 k,.bool true,.u,.u,za,zb,.agg [.bool false,.isl []]],heap:=[.arr 0 1 (out.map limbA)],rs:=false }
variable {E:CallF}
theorem set_limb (out:List Nat) (j d:Nat):(out.map limbA).set j (limbA d) = (out.set j d).map limbA:=by rw [List.map_set]
theorem mul_round (sa sb:Bool) (a b:List Nat) (ha:∀ d ∈ a,d < B32) (hb:∀ d ∈ b,d < B32) (out:List Nat) (ho:∀ d ∈ out,d < B32) (la:a.length < 1073741824) (lb:b.length < 1073741824) (i k c:Nat) (hi:i < a.length) (hik:i + k < out.length) (hol:out.length < 2147483648)
    (hc:c < B32) (h:k < b.length ∨ 0 < c) :
    run E GP a41l1 (xst (.agg [.bool sa,.isl (a.map limbA)]) (.agg [.bool sb,.isl (b.map limbA)]) out i k c) =
      run E GP a41l1 (xst (.agg [.bool sa,.isl (a.map limbA)]) (.agg [.bool sb,.isl (b.map limbA)]) (out.set (i + k) ((c + out.getD (i + k) 0 + dig a i * dig b k) % B32)) i (k + 1) ((c + out.getD (i + k) 0 + dig a i * dig b k) / B32)):=by
  have da:=dig_lt ha i
  have db:=dig_lt hb k
  have dd:=dig_lt ho (i + k)
  have ed:dig out (i + k) = out.getD (i + k) 0:=by unfold dig; rw [if_pos hik]
  rw [ed] at dd
  have hmul:dig a i * dig b k ≤ 4294967295 * 4294967295:=Nat.mul_le_mul (by simp only [B32] at da; omega) (by simp only [B32] at db; omega)
  simp only [B32] at da db dd hc
  have wk:IntKind.i64.wrap ((k:Int) + 1) = ((k + 1:Nat):Int):=i64a (by omega)
  have wik:IntKind.i64.wrap ((i:Int) + (k:Int)) = ((i + k:Nat):Int):=by rw [i64w (by omega)]; omega
  have g1:=limb_get hi
  have e1:dig a i = a.getD i 0:=by unfold dig; rw [if_pos hi]
  rw [← e1] at g1
  have g3:=limb_get hik
  have wo:=u64n (n:=out.getD (i + k) 0) (by omega)
  have w1:=u64a (x:=c) (y:=out.getD (i + k) 0) (by omega)
  have hlen:((i + k:Nat):Int) < ((out.length:Nat):Int):=by omega
  have wq:=u64q (n:=c + out.getD (i + k) 0 + dig a i * dig b k) (by omega)
  have wr:=u32n (c + out.getD (i + k) 0 + dig a i * dig b k)
  conv=>lhs; rw [a41l1_run]
  by_cases h2:k < b.length
  · have g2:=limb_get h2
    have e2:dig b k = b.getD k 0:=by unfold dig; rw [if_pos h2]
    rw [← e2] at g2
    have k2:(k:Int) < (b.length:Int):=by omega
    have wa:=u64n (n:=dig a i) (by omega)
    have wb:=u64n (n:=dig b k) (by omega)
    have wm:IntKind.u64.wrap ((dig a i:Int) * (dig b k:Int)) = ((dig a i * dig b k:Nat):Int):=by
      rw [← Int.natCast_mul]; exact u64n (by omega)
    have ws:=u64a (x:=c + out.getD (i + k) 0) (y:=dig a i * dig b k) (by omega)
    simp (maxSteps:=1000000) only [si,simprocAttr,xst,a41b1,a41R,k2,wk,wik,g1,g2,g3,limbA,wo,w1,hlen,wa,wb,wm,ws,wq,wr,List.map_set,List.length_set]
  · have e2:dig b k = 0:=by unfold dig; rw [if_neg h2]
    have k2:¬ (k:Int) < (b.length:Int):=by omega
    have k3:(c:Int) > 0:=by omega
    rw [e2,Nat.mul_zero,Nat.add_zero] at wq wr
    rw [e2,Nat.mul_zero,Nat.add_zero]
    simp (maxSteps:=1000000) only [si,simprocAttr,xst,a41b1,a41R,k2,k3,wk,wik,g3,limbA,wo,w1,hlen,wq,wr,List.map_set,List.length_set]
def xend (za zb:AV) (out:List Nat) (i k:Nat):St :=
  { vars:=[za,zb,.sl 0 0 1 0 out.length,.int .i64 i,.int .u64 0,.int .i64 k,.bool true,.bool false,.u,za,zb,.agg [.bool false,.isl []]],heap:=[.arr 0 1 (out.map limbA)],rs:=false }
theorem mul_exit (sa sb:Bool) (a b out:List Nat) (i k:Nat) (h:¬ k < b.length) :
    run E GP a41l1 (xst (.agg [.bool sa,.isl (a.map limbA)]) (.agg [.bool sb,.isl (b.map limbA)]) out i k 0) = some (.exit 2,xend (.agg [.bool sa,.isl (a.map limbA)]) (.agg [.bool sb,.isl (b.map limbA)]) out i k):=by
  have k2:¬ (k:Int) < (b.length:Int):=by omega
  rw [a41l1_run]
  simp (maxSteps:=1000000) only [si,simprocAttr,xst,xend,a41b1,a41R,k2,Int.ofNat_zero]
theorem val_set:∀ (l:List Nat) (j x:Nat),j < l.length → val (l.set j x) + B32 ^ j * l.getD j 0 = val l + B32 ^ j * x
  | [],j,x,h=>by simp at h
  | d :: r,0,x,h=>by simp only [List.set_cons_zero,val,Nat.pow_zero,Nat.one_mul,List.getD_cons_zero]; omega
  | d :: r,j + 1,x,h=>by
    have ih:=val_set r j x (by simpa using h)
    simp only [List.set_cons_succ,val,List.getD_cons_succ,Nat.pow_succ]
    have e1:B32 ^ j * B32 * r.getD j 0 = B32 * (B32 ^ j * r.getD j 0):=by rw [Nat.mul_comm (B32 ^ j),Nat.mul_assoc]
    have e2:B32 ^ j * B32 * x = B32 * (B32 ^ j * x):=by rw [Nat.mul_comm (B32 ^ j),Nat.mul_assoc]
    rw [e1,e2]
    have:B32 * (val (r.set j x) + B32 ^ j * r.getD j 0) = B32 * (val r + B32 ^ j * x):=by rw [ih]
    rw [Nat.mul_add,Nat.mul_add] at this
    omega
theorem mul_row (sa sb:Bool) (a b:List Nat) (ha:∀ d ∈ a,d < B32) (hb:∀ d ∈ b,d < B32) (la:a.length < 1073741824) (lb:b.length < 1073741824) (i:Nat) (hi:i < a.length) (out0:List Nat)
    (h0:val out0 = val (a.take i) * val b):∀ (n k c:Nat) (out:List Nat),b.length + 1 ≤ k + n → k ≤ b.length + 1 → out.length = a.length + b.length + 1 → (∀ d ∈ out,d < B32) → c < B32 → (k = b.length + 1 → c = 0) →
    val out + B32 ^ (i + k) * c = val out0 + B32 ^ i * (dig a i * val (b.take k)) →
    ∃ out' k',run E GP a41l1 (xst (.agg [.bool sa,.isl (a.map limbA)]) (.agg [.bool sb,.isl (b.map limbA)]) out i k c) = some (.exit 2,xend (.agg [.bool sa,.isl (a.map limbA)]) (.agg [.bool sb,.isl (b.map limbA)]) out' i k') ∧
      out'.length = a.length + b.length + 1 ∧ (∀ d ∈ out',d < B32) ∧ val out' = val (a.take (i + 1)) * val b:=by
  have hfin:val out0 + B32 ^ i * (dig a i * val b) = val (a.take (i + 1)) * val b:=by
    rw [take_dig,h0,Nat.add_mul,Nat.mul_assoc]
  intro n
  induction n with
  | zero =>
    intro k c out h1 h2 h3 h4 h5 h6 h7
    have hk:k = b.length + 1:=by omega
    have hc:=h6 hk
    subst hc
    rw [List.take_of_length_le (by omega),Nat.mul_zero,Nat.add_zero] at h7
    exact ⟨out,k,mul_exit sa sb a b out i k (by omega),h3,h4,h7.trans hfin⟩
  | succ n ih =>
    intro k c out h1 h2 h3 h4 h5 h6 h7
    by_cases hgo:k < b.length ∨ 0 < c
    · have hk:k ≤ b.length:=by
        by_cases hk:k = b.length + 1
        · have:=h6 hk; omega
        · omega
      have hik:i + k < out.length:=by omega
      have da:=dig_lt ha i
      have db:=dig_lt hb k
      have dd:=dig_lt h4 (i + k)
      have ed:dig out (i + k) = out.getD (i + k) 0:=by unfold dig; rw [if_pos hik]
      rw [ed] at dd
      have hmul:dig a i * dig b k ≤ 4294967295 * 4294967295:=Nat.mul_le_mul (by simp only [B32] at da; omega) (by simp only [B32] at db; omega)
      rw [mul_round sa sb a b ha hb out h4 la lb i k c hi hik (by omega) h5 hgo]
      have hs:=val_set out (i + k) ((c + out.getD (i + k) 0 + dig a i * dig b k) % B32) hik
      have hdm:=Nat.div_add_mod (c + out.getD (i + k) 0 + dig a i * dig b k) B32
      have hq:(c + out.getD (i + k) 0 + dig a i * dig b k) / B32 < B32:=by simp only [B32] at *; omega
      have hm:(c + out.getD (i + k) 0 + dig a i * dig b k) % B32 < B32:=Nat.mod_lt _ (by decide)
      generalize (c + out.getD (i + k) 0 + dig a i * dig b k) / B32 = q at *
      generalize (c + out.getD (i + k) 0 + dig a i * dig b k) % B32 = m at *
      have hnew:val (out.set (i + k) m) + B32 ^ (i + (k + 1)) * q = val out0 + B32 ^ i * (dig a i * val (b.take (k + 1))):=by
        rw [take_dig,Nat.mul_add,Nat.mul_add,← Nat.add_assoc (val out0),← h7]
        have e1:B32 ^ i * (dig a i * (B32 ^ k * dig b k)) = B32 ^ (i + k) * (dig a i * dig b k):=by
          rw [Nat.pow_add,Nat.mul_left_comm (dig a i),Nat.mul_assoc]
        have e2:B32 ^ (i + (k + 1)) * q + B32 ^ (i + k) * m = B32 ^ (i + k) * c + B32 ^ (i + k) * out.getD (i + k) 0 + B32 ^ (i + k) * (dig a i * dig b k):=by
          rw [← Nat.add_assoc,Nat.pow_succ,Nat.mul_assoc,← Nat.mul_add,hdm,Nat.mul_add,Nat.mul_add]
        rw [e1]
        omega
      refine ih (k + 1) q (out.set (i + k) m) (by omega) (by omega) (by simp [h3]) (fun d hd=>?_) hq (fun e=>?_) hnew
      · rcases List.mem_or_eq_of_mem_set hd with hd | rfl
        · exact h4 d hd
        · exact hm
      · have hkb:k = b.length:=by omega
        subst hkb
        rw [List.take_of_length_le (by omega)] at hnew
        have hb1:=take_val_lt a ha (i + 1)
        have hb2:=take_val_lt b hb b.length
        rw [List.take_length] at hb2
        have hlt:val (a.take (i + 1)) * val b < B32 ^ (i + 1) * B32 ^ b.length:=by
          rcases Nat.eq_zero_or_pos (val b) with h0 | h0
          · rw [h0,Nat.mul_zero]; exact Nat.mul_pos (Nat.pow_pos (by decide)) (Nat.pow_pos (by decide))
          · calc val (a.take (i + 1)) * val b < B32 ^ (i + 1) * val b:=Nat.mul_lt_mul_of_pos_right hb1 h0
              _ ≤ B32 ^ (i + 1) * B32 ^ b.length:=Nat.mul_le_mul_left _ (by omega)
        rw [hfin] at hnew
        rw [← Nat.pow_add,show i + 1 + b.length = i + (b.length + 1) by omega] at hlt
        rcases Nat.eq_zero_or_pos q with h | h
        · exact h
        · have:B32 ^ (i + (b.length + 1)) * 1 ≤ B32 ^ (i + (b.length + 1)) * q:=Nat.mul_le_mul_left _ h
          omega
    · have hc:c = 0:=by omega
      subst hc
      rw [List.take_of_length_le (by omega),Nat.mul_zero,Nat.add_zero] at h7
      exact ⟨out,k,mul_exit sa sb a b out i k (by omega),h3,h4,h7.trans hfin⟩
def yst (za zb:AV) (out:List Nat) (i:Nat):St :=
  { vars:=[za,zb,.sl 0 0 1 0 out.length,.int .i64 i,.u,.u,.u,.u,.u,za,zb,.agg [.bool false,.isl []]],heap:=[.arr 0 1 (out.map limbA)],rs:=false }
theorem mul_rows (sa sb:Bool) (a b:List Nat) (ha:∀ d ∈ a,d < B32) (hb:∀ d ∈ b,d < B32) (la:a.length < 1073741824) (lb:b.length < 1073741824):∀ (n i:Nat) (out:List Nat),a.length = i + n → out.length = a.length + b.length + 1 → (∀ d ∈ out,d < B32) →
    val out = val (a.take i) * val b →
    ∃ out',run E GP a41l0 (yst (.agg [.bool sa,.isl (a.map limbA)]) (.agg [.bool sb,.isl (b.map limbA)]) out i) = some (.exit 0,{ vars:=[.agg [.bool sa,.isl (a.map limbA)],.agg [.bool sb,.isl (b.map limbA)],.sl 0 0 1 0 out'.length,.int .i64 a.length,.u,.u,.bool false,.u,.u,.agg [.bool sa,.isl (a.map limbA)],.agg [.bool sb,.isl (b.map limbA)],.agg [.bool false,.isl []]],heap:=[.arr 0 1 (out'.map limbA)],rs:=false }) ∧
      out'.length = a.length + b.length + 1 ∧ (∀ d ∈ out',d < B32) ∧ val out' = val a * val b:=by
  intro n
  induction n with
  | zero =>
    intro i out h1 h2 h3 h4
    have hi:i = a.length:=by omega
    subst hi
    rw [List.take_length] at h4
    refine ⟨out,?_,h2,h3,h4⟩
    have k1:¬ (a.length:Int) < (a.length:Int):=by omega
    rw [a41l0_run]
    simp (maxSteps:=1000000) only [si,simprocAttr,yst,a41b0,a41R,k1]
  | succ n ih =>
    intro i out h1 h2 h3 h4
    obtain ⟨out1,k1,e1,e2,e3,e4⟩:=mul_row (E:=E) sa sb a b ha hb la lb i (by omega) out h4 (b.length + 1) 0 0 out (by omega) (by omega) h2 h3 (by decide) (by omega) (by simp [val])
    obtain ⟨out',f1,f2,f3,f4⟩:=ih (i + 1) out1 (by omega) e2 e3 e4
    refine ⟨out',?_,f2,f3,f4⟩
    rw [← f1]
    have hlt:(i:Int) < (a.length:Int):=by omega
    have wi:IntKind.i64.wrap ((i:Int) + 1) = ((i + 1:Nat):Int):=i64a (by omega)
    conv=>lhs; rw [a41l0_run]
    simp only [xst,xend,Int.ofNat_zero] at e1
    simp (maxSteps:=1000000) only [si,simprocAttr,yst,a41b0,a41R,hlt,e1,wi]
end Tor
namespace Tor
open Go
variable {E:CallF} (hE:Free E)
include hE
theorem r1_made_sl (l:List Nat) (neg:Bool) (H:Heap) (o g sz st n:Nat) (he:elems H (.sl o g sz st n) = some (l.map limbA)) (hl:∀ d ∈ l,d < B32) (hlen:l.length < 2147483648):call E GP 38 [.sl o g sz st n,.bool neg] H = some (Z (ofL neg l),H.set o .dead,false):=by
  rw [call_fun (hE _ _ _ (by decide)) (f:=a38) rfl rfl]
  have hloop:=made_loop (E:=E) l (.bool neg) (.agg [.bool false,.isl []]) (by simp [AV.under,AV.unders]) (by simp [AV.under]) l.length (Nat.le_refl _) hlen
  have hs:=stripN_le l l.length
  rw [Z_ofL neg l hl]
  have hs2:((stripN l l.length:Nat):Int) ≤ (l.length:Int):=by omega
  have hs3:decide (((stripN l l.length:Nat):Int) > 0) = decide (0 < stripN l l.length):=by simp
  have hm:(l.take (stripN l l.length)).length ≤ 4294967296:=by simp; omega
  have hmode:a38.mode = .con:=rfl
  cases neg <;>
  simp (maxSteps:=1000000) only [he,hmode,si,simprocAttr,a38,a38R,hloop,hs2,hs3,maxLenA,List.drop_zero,← List.map_take,hm]
omit hE in
theorem val_zeros:∀ k,val (List.replicate k 0) = 0
  | 0=>rfl
  | k + 1=>by rw [List.replicate_succ,val,val_zeros k]; rfl
omit hE in
theorem ofL_mul (m n:Int) (out:List Nat) (h:val out = m.natAbs * n.natAbs):ofL (decide (m < 0) != decide (n < 0)) out = m * n:=by
  unfold ofL; rw [h]
  have hm:(m.natAbs:Int) = if m < 0 then -m else m:=by split <;> omega
  have hn:(n.natAbs:Int) = if n < 0 then -n else n:=by split <;> omega
  rw [Int.natCast_mul,hm,hn]
  by_cases hm0:m < 0 <;> by_cases hn0:n < 0 <;> simp only [hm0,hn0,if_true,if_false,decide_true,decide_false] <;> simp [Int.neg_mul,Int.mul_neg]
theorem r1_mul (m n:Int) (H:Heap) (hm:(limbs m.natAbs).length < 1073741824) (hn:(limbs n.natAbs).length < 1073741824) (hsum:(limbs m.natAbs).length + (limbs n.natAbs).length < 2147483646):call E GP 41 [Z m,Z n] H = some (Z (m * n),H,false):=by
  rw [call_fun (hE _ _ _ (by decide)) (f:=a41) rfl rfl]
  have Lm:=limbs_lt m.natAbs
  have Ln:=limbs_lt n.natAbs
  have Vm:=val_limbs m.natAbs
  have Vn:=val_limbs n.natAbs
  obtain ⟨out,f1,f2,f3,f4⟩:=mul_rows (E:=E) (decide (m < 0)) (decide (n < 0)) _ _ Lm Ln hm hn (limbs m.natAbs).length 0 (List.replicate ((limbs m.natAbs).length + (limbs n.natAbs).length + 1) 0) (by omega) (by simp) (fun d hd=>by rw [List.eq_of_mem_replicate hd]; decide) (by rw [val_zeros]; simp [val])
  have hmade:=r1_made_sl hE out (decide (m < 0) != decide (n < 0)) [.arr 0 1 (out.map limbA)] 0 0 1 0 out.length (by simp [sil,sim,List.take_of_length_le]) f3 (by omega)
  rw [ofL_mul m n out (by rw [f4,Vm,Vn])] at hmade
  have w1:IntKind.i64.wrap (((limbs m.natAbs).length:Int) + ((limbs n.natAbs).length:Int)) = (((limbs m.natAbs).length + (limbs n.natAbs).length:Nat):Int):=by rw [i64w (by omega)]; omega
  have w2:IntKind.i64.wrap ((((limbs m.natAbs).length + (limbs n.natAbs).length:Nat):Int) + 1) = (((limbs m.natAbs).length + (limbs n.natAbs).length + 1:Nat):Int):=i64a (by omega)
  have w3:(((limbs m.natAbs).length + (limbs n.natAbs).length + 1:Nat):Int) ≤ maxLenA:=by unfold maxLenA; omega
  have w4:((((limbs m.natAbs).length + (limbs n.natAbs).length + 1:Nat):Int)).toNat = (limbs m.natAbs).length + (limbs n.natAbs).length + 1:=by omega
  have w5:(0:Int) ≤ (((limbs m.natAbs).length + (limbs n.natAbs).length + 1:Nat):Int):=by omega
  rw [show Z m = .agg [.bool (decide (m < 0)),.isl ((limbs m.natAbs).map limbA)] from rfl,show Z n = .agg [.bool (decide (n < 0)),.isl ((limbs n.natAbs).map limbA)] from rfl]
  simp only [yst,List.length_replicate,Int.ofNat_zero,List.map_replicate,limbA] at f1
  generalize (limbs m.natAbs).length + (limbs n.natAbs).length + 1 = K at *
  simp (maxSteps:=1000000) only [si,simprocAttr,a41,a41R,w1,w2,w3,w4,w5]
  simp (maxSteps:=1000000) only [si,simprocAttr,f1,hmade,a41R]
end Tor
namespace Tor
open Go
variable {E:CallF} (hE:Free E)
include hE
theorem r1_neg (m:Int) (H:Heap) (hm:(limbs m.natAbs).length < 2147483647):call E GP 88 [Z m] H = some (Z (-m),H,false):=by
  rw [call_fun (hE _ _ _ (by decide)) (f:=a88) rfl rfl]
  have hmade:=fun H=>r1_made hE (limbs m.natAbs) (!decide (m < 0)) H (limbs_lt _) (by omega)
  have he:ofL (!decide (m < 0)) (limbs m.natAbs) = -m:=by
    unfold ofL; rw [val_limbs]
    by_cases h:m < 0 <;> simp only [h,decide_true,decide_false,Bool.not_true,Bool.not_false,if_true,if_false,Bool.false_eq_true] <;> omega
  rw [he] at hmade
  rw [show Z m = .agg [.bool (decide (m < 0)),.isl ((limbs m.natAbs).map limbA)] from rfl]
  simp (maxSteps:=1000000) only [si,simprocAttr,a88,a88R,hmade]
theorem r1_sub (m n:Int) (H:Heap) (hm:(limbs m.natAbs).length < 2147483647) (hn:(limbs n.natAbs).length < 2147483647):call E GP 111 [Z m,Z n] H = some (Z (m - n),H,false):=by
  rw [call_fun (hE _ _ _ (by decide)) (f:=a111) rfl rfl]
  have h1:=fun H=>r1_neg hE n H hn
  have h2:=fun H=>r1_add hE m (-n) H hm (by rw [Int.natAbs_neg]; exact hn)
  rw [← Int.sub_eq_add_neg] at h2
  simp (maxSteps:=1000000) only [si,simprocAttr,a111,a111R,h1,h2]
end Tor
namespace Tor
open Go
theorem val_top (l:List Nat) (h:0 < l.length):val l = val (l.take (l.length - 1)) + B32 ^ (l.length - 1) * l.getD (l.length - 1) 0:=by
  have:=take_succ_val l (l.length - 1) (by omega)
  rw [show l.length - 1 + 1 = l.length by omega,List.take_length] at this
  exact this
theorem top_le_val (l:List Nat) (h:0 < l.length):B32 ^ (l.length - 1) * l.getD (l.length - 1) 0 ≤ val l:=by
  rw [val_top l h]; omega
variable {E:CallF} (hE:Free E)
include hE
end Tor
namespace Tor
open Go
theorem limbs_len_lt {n k:Nat} (h:n < B32 ^ k):(limbs n).length ≤ k:=by
  rcases Nat.lt_or_ge k (limbs n).length with hk | hk
  · exfalso
    have hne:limbs n ≠ []:=by intro e; rw [e] at hk; simp at hk
    have h1:=top_le_val (limbs n) (by omega)
    rw [val_limbs] at h1
    have h2:(limbs n).getD ((limbs n).length - 1) 0 ≠ 0:=by
      have:=limbs_last n hne
      rw [List.getLast_eq_getElem] at this
      simpa [List.getD,show (limbs n).length - 1 < (limbs n).length by omega] using this
    have h3:B32 ^ k ≤ B32 ^ ((limbs n).length - 1):=Nat.pow_le_pow_right (by decide) (by omega)
    have h4:B32 ^ ((limbs n).length - 1) * 1 ≤ B32 ^ ((limbs n).length - 1) * (limbs n).getD ((limbs n).length - 1) 0:=Nat.mul_le_mul_left _ (by omega)
    omega
  · exact hk
theorem Z_plain (n:Int):(Z n).plain = true:=rfl
theorem Z_nat (n:Nat):Z (n:Int) = .agg [.bool false,.isl ((limbs n).map limbA)]:=by
  unfold Z
  rw [Int.natAbs_natCast,decide_eq_false (by omega)]
variable {E:CallF} (hE:Free E)
include hE
end Tor
namespace Tor
open Go
def rowA (r:List Int):List AV:=r.map Z
theorem refs_rowA:∀ r:List Int,AV.hasRefs (rowA r) = false
  | []=>rfl
  | x :: r=>by
    have:=refs_rowA r
    simp only [rowA,List.map_cons,AV.hasRefs,Z_ref,Bool.false_or] at this ⊢; exact this
def tops (C:Nat) (rs:List Nat):List AV:=rs.map fun r=>.sl r 0 2 0 C
structure HMat (H:Heap) (o g C:Nat) (rs:List Nat) (A:List (List Int)):Prop where
  top:H[o]? = some (.arr g 1 (tops C rs))
  row:∀ i,i < rs.length → H[rs.getD i 0]? = some (.arr 0 2 (rowA (A.getD i [])))
  len:A.length = rs.length
  wid:∀ i,i < rs.length → (A.getD i []).length = C
  nod:rs.Nodup
  off:o ∉ rs
theorem getD_mem {rs:List Nat} {i:Nat} (h:i < rs.length):rs.getD i 0 ∈ rs:=by
  simp [List.getD,h]
theorem getD_inj {rs:List Nat} (hn:rs.Nodup) {i j:Nat} (hi:i < rs.length) (hj:j < rs.length) (h:rs.getD i 0 = rs.getD j 0):i = j:=by
  simp only [List.getD,List.getElem?_eq_getElem hi,List.getElem?_eq_getElem hj,Option.getD_some] at h
  have hp:=List.pairwise_iff_getElem.1 hn
  rcases Nat.lt_trichotomy i j with h1 | h1 | h1
  · exact absurd h (hp i j hi hj h1)
  · exact h1
  · exact absurd h.symm (hp j i hj hi h1)
theorem gets_self {α:Type} (l:List α) (i:Nat) (x d:α) (h:i < l.length):(l.set i x).getD i d = x:=by
  simp [List.getD,h]
theorem gets_ne {α:Type} (l:List α) (i j:Nat) (x d:α) (h:i ≠ j):(l.set i x).getD j d = l.getD j d:=by
  simp [List.getD,List.getElem?_set_ne h]
theorem HMat.other {H o g C rs A} (h:HMat H o g C rs A) {x:Nat} {ob:AObj} (hx:x ≠ o) (hr:x ∉ rs):HMat (H.set x ob) o g C rs A :=
  ⟨by rw [List.getElem?_set_ne hx]; exact h.top,fun i hi=>by
    rw [List.getElem?_set_ne (fun e=>hr (by rw [e]; exact getD_mem hi))]; exact h.row i hi,h.len,h.wid,h.nod,h.off⟩
theorem HMat.setRow {H o g C rs A} (h:HMat H o g C rs A) {i:Nat} (hi:i < rs.length) {r:List Int} (hr:r.length = C) :
    HMat (H.set (rs.getD i 0) (.arr 0 2 (rowA r))) o g C rs (A.set i r):=by
  have hne:rs.getD i 0 ≠ o:=fun e=>h.off (by rw [← e]; exact getD_mem hi)
  refine ⟨by rw [List.getElem?_set_ne hne]; exact h.top,fun j hj=>?_,by rw [List.length_set]; exact h.len,fun j hj=>?_,h.nod,h.off⟩
  · by_cases hij:i = j
    · subst hij
      have hlt:rs.getD i 0 < H.length:=by
        have:=h.row i hi
        exact (List.getElem?_eq_some_iff.1 this).1
      rw [List.getElem?_set_self hlt,gets_self _ _ _ _ (by rw [h.len]; exact hi)]
    · rw [List.getElem?_set_ne (fun e=>hij (getD_inj h.nod hi hj e)),gets_ne _ _ _ _ _ hij]; exact h.row j hj
  · by_cases hij:i = j
    · subst hij; rw [gets_self _ _ _ _ (by rw [h.len]; exact hi)]; exact hr
    · rw [gets_ne _ _ _ _ _ hij]; exact h.wid j hj
def news (n R:Nat):List Nat:=(List.range R).map (fun i=>n + 1 + 2 * i)
variable {E:CallF} (hE:Free E)
include hE
end Tor
namespace Tor
open Go
def rowsI (A:List (List Int)):List AV:=A.map fun r=>.isl (rowA r)
def MI (R C:Nat) (A:List (List Int)):AV:=.agg [.int .i64 R,.int .i64 C,.isl (rowsI A)]
theorem rowsI_get {A:List (List Int)} {i:Nat} (h:i < A.length):(rowsI A)[i]? = some (.isl (rowA (A.getD i []))):=by
  simp [rowsI,h,List.getD]
def Fr (rs:List Nat) (H H':Heap):Prop:=H'.length = H.length ∧ ∀ y,y ∉ rs → H'[y]? = H[y]?
theorem Fr.refl (rs H):Fr rs H H:=⟨rfl,fun _ _=>rfl⟩
theorem Fr.trans {rs H H' H''} (h:Fr rs H H') (k:Fr rs H' H''):Fr rs H H'':=⟨k.1.trans h.1,fun y hy=>(k.2 y hy).trans (h.2 y hy)⟩
theorem Fr.set {rs:List Nat} {H:Heap} {x:Nat} (hx:x ∈ rs) (ob:AObj):Fr rs H (H.set x ob) :=
  ⟨by simp,fun y hy=>List.getElem?_set_ne (fun e=>hy (by rw [← e]; exact hx))⟩
theorem HMat.frame {H H' o g C rs A L} (h:HMat H o g C rs A) (hf:Fr L H H') (ho:o ∉ L) (hr:∀ r ∈ rs,r ∉ L):HMat H' o g C rs A :=
  ⟨by rw [hf.2 o ho]; exact h.top,fun i hi=>by rw [hf.2 _ (hr _ (getD_mem hi))]; exact h.row i hi,h.len,h.wid,h.nod,h.off⟩
def Fit (n:Int):Prop:=(limbs n.natAbs).length < 536870000
variable {E:CallF} (hE:Free E)
include hE
end Tor
