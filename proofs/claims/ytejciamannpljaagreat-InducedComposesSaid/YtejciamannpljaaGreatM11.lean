/-
  A part of the proof: an abstract machine for the program, its soundness, and what the functions compute (Ok2, Reg, Cell, Reg2, RegS).
  Conditions: none.
-/
import Derived.Test.YtejciamannpljaaGreatM10
import Derived.Orders
set_option linter.unusedSectionVars false
set_option linter.unusedVariables false
set_option linter.unusedSimpArgs false
set_option linter.defProp false
namespace Tor
open Go Go.RowKit
variable {P:Program} {base:Nat} {C:Cx}
theorem nilCheck_form {X v y} (hx:Rv C X v) (h:doNilCheck X = some y):Rv C y v ∧ ((∃ a,v = .pointer (some a)) ∨ ∃ f cs,v = .func (.func f) #[] cs):=by
  refine ⟨(nilCheck_ok hx h).1,?_⟩
  cases X <;> try (cases h; done)
  · obtain ⟨b,off,xs,e,_⟩:=Rv_iptr hx; exact .inl ⟨_,e⟩
  · obtain ⟨b,bs,_,e⟩:=Rv_ptr hx; exact .inl ⟨_,e⟩
  · obtain ⟨vs,e,_⟩:=Rv_fn hx; exact .inr ⟨_,_,e⟩
theorem frz_ok {H H':Heap} {x y:AV} {v:Value} {b:Bool} (hs:Sim base C H) (hx:Rv C x v) (h:doFrz H x = some (y,H',b)):∃ C',C'.w = C.w ∧ OStep base C H C' H' ∧ Rv C' y v:=by
  unfold doFrz at h
  split at h
  case h_2=>cases h
  rename_i o g sz st len
  cases hel:elems H (.sl o g sz st len) with
  | none=>rw [hel] at h; cases h
  | some l =>
    rw [hel] at h
    simp only [frzK] at h
    split at h
    · cases h
    · rename_i hnr
      cases h
      obtain ⟨a,cap,ob,rfl,hob,hcs⟩:=sl_cells hs hx hel
      let C1:Cx:={ C with F:=fun b=>C.F b ∨ blk C o ob = some b }
      have hle:Le C C1:=⟨rfl,fun _ h=>.inl h,fun _ _ _ h=>h,fun _ _=>rfl,fun _ _ h=>h⟩
      have hbl:=fun b (hb:blk C o ob = some b)=>blk_heap (hs.obj o ob hob).1 hb
      have hst:OStep base C H C1 (H.set o .dead):=by
        refine ⟨hle,hs.set hob hle (fun b hb=>?_) (Nat.le_refl _) (fun _ _ _=>rfl) (fun _ _ _=>rfl) trivial trivial (fun b hb=>by cases hb),(Grow.refl C.w).below hs.bsz,fun b hb=>?_,fun b hb hF hno=>⟨rfl,fun h=>h.elim hF (hno o ob hob),fun o1 ob1 h1 hbk=>?_⟩⟩
        · rcases hb with hb | hb
          · exact ⟨hs.fsz b hb,.inl hb⟩
          · exact ⟨(hbl b hb).2.2,.inr (.inr hb)⟩
        · rcases hb with hb | hb
          · exact .inl hb
          · exact .inr (hbl b hb).1
        · rw [List.getElem?_set] at h1
          split at h1
          · split at h1
            · cases h1; cases hbk
            · cases h1
          · have:blk C1 o1 ob1 = blk C o1 ob1:=by cases ob1 <;> rfl
            rw [this] at hbk
            exact hno o1 ob1 h1 hbk
      refine ⟨C1,rfl,hst,Rv_one ?_ rfl rfl⟩
      simp only [Rc]
      refine ⟨by simpa using hnr,_,rfl,a,cap,rfl,?_⟩
      rcases hcs with rfl | ⟨b,off,css,rfl,hb,hcap,h1,h2,h3⟩
      · exact .inl rfl
      · exact .inr ⟨b,off,css,sz,rfl,.inr hb,hcap,Rcl_le hle _ _ h1,h2,h3⟩
theorem op_ok {ι:Nat → FuncId} {O:Operand → AOpd → Bool} {L:List AV} {st:St} {a:Act} {CF:CallF} {o:Oper} {aop_:AOp} {x:AV} {st':St} (hC:SoundC P ι CF) (hι:C.ι = ι) (hs:Sim base C st.heap)
    (hO:∀ x y,O x y = true → Rv C (ev L st.vars y) (a.eval x)) (h:opOk P ι O o.op aop_ = true) (hr:aop CF L st aop_ = some (x,st')) :
    Does P (execOp a.eval o) C.w (CPost base C st.heap x st'.heap) ∧ st'.vars = st.vars:=by
  generalize hop:o.op = op at h
  unfold opOk at h
  split at h
  · -- move
    unfold aop at hr
    obtain ⟨h1,rfl⟩:=ret_inv hr
    cases h1
    refine ⟨?_,rfl⟩
    simp only [execOp,hop]
    exact does_p (cpost_refl hs (hO _ _ h))
  · -- assign
    unfold aop at hr
    obtain ⟨h1,rfl⟩:=ret_inv hr
    cases h1
    refine ⟨?_,rfl⟩
    simp only [execOp,hop]
    exact does_p (cpost_refl hs (hO _ _ h))
  · -- a row that stays
    unfold aop at hr
    obtain ⟨H',b,h1,rfl⟩:=eff_inv hr
    refine ⟨?_,rfl⟩
    simp only [execOp,hop]
    obtain ⟨C',e1,e2,e3⟩:=frz_ok hs (hO _ _ h) h1
    exact does_p ⟨C',e1,e2,e3⟩
  · unfold aop at hr
    obtain ⟨H',b,h1,rfl⟩:=eff_inv hr
    refine ⟨?_,rfl⟩
    simp only [execOp,hop]
    obtain ⟨C',e1,e2,e3⟩:=frz_ok hs (hO _ _ h) h1
    exact does_p ⟨C',e1,e2,e3⟩
  · -- nil
    rename_i sz
    unfold aop at hr
    obtain ⟨H',b,h1,rfl⟩:=eff_inv hr
    cases h1
    refine ⟨?_,rfl⟩
    simp only [execOp,hop,isNilSlice_inv h,Act.eval]
    obtain ⟨e1,e2⟩:=nils_step hs sz none
    exact does_p ⟨C.with C.w st.heap.length none,rfl,e1,e2⟩
  · rename_i sz
    unfold aop at hr
    obtain ⟨H',b,h1,rfl⟩:=eff_inv hr
    cases h1
    refine ⟨?_,rfl⟩
    simp only [execOp,hop,isNilSlice_inv h,Act.eval]
    obtain ⟨e1,e2⟩:=nils_step hs sz none
    exact does_p ⟨C.with C.w st.heap.length none,rfl,e1,e2⟩
  · -- pick
    rename_i c p q c' p' q'
    unfold aop at hr
    obtain ⟨h1,rfl⟩:=ret_inv hr
    simp only [Bool.and_eq_true] at h
    obtain ⟨⟨h2,h3⟩,h4⟩:=h
    refine ⟨?_,rfl⟩
    have k2:=hO _ _ h2; have k3:=hO _ _ h3; have k4:=hO _ _ h4
    generalize ev L st'.vars c' = X at h1 k2
    cases X <;> try (cases h1; done)
    rename_i b
    have hb:=Rv_bool k2
    simp only [execOp,hop,hb]
    cases b
    · cases h1
      simp only [Does,asBool,Sem.run_bind,Sem.run_pure,Result.andThen_ok]
      exact cpost_refl hs k4
    · cases h1
      simp only [Does,asBool,Sem.run_bind,Sem.run_pure,Result.andThen_ok]
      exact cpost_refl hs k3
  · -- box
    unfold aop at hr
    obtain ⟨H',b,h1,rfl⟩:=eff_inv hr
    obtain ⟨C',u,e1,e2,e3⟩:=box_ok (P:=P) hs (hO _ _ h) h1
    refine ⟨?_,rfl⟩
    simp only [execOp,hop]
    exact does_v e1 ⟨C',rfl,e2,e3⟩
  · -- alloc
    unfold aop at hr
    obtain ⟨H',b,h1,rfl⟩:=eff_inv hr
    obtain ⟨zv,z1,z2,z3⟩:=zeroOk_inv h
    obtain ⟨C',u,e1,e2,e3⟩:=alloc_ok (P:=P) hs z1 z2 h1
    refine ⟨?_,rfl⟩
    simp only [execOp,hop]
    exact does_v e1 ⟨C',rfl,e2,e3⟩
  · -- build
    unfold aop at hr
    obtain ⟨h1,rfl⟩:=ret_inv hr
    simp only [Bool.and_eq_true] at h
    obtain ⟨⟨⟨h2,h3⟩,h4⟩,h5⟩:=h
    obtain ⟨zv,z1,z2,z3⟩:=zeroOk_inv h3
    unfold buildOk at h4
    split at h4
    · rename_i pl hpl
      obtain ⟨u,e1,e2⟩:=build_ok (P:=P) hpl h2 z1 (z2 C) h4 (parts:=_) (by rw [Array.toList_map]; exact parts_ok hO _ _ h5) h1
      refine ⟨?_,rfl⟩
      simp only [execOp,hop]
      exact does_v e1 (cpost_refl hs e2)
    · cases h4
  · -- buildSlice
    unfold aop at hr
    obtain ⟨H',b,h1,rfl⟩:=eff_inv hr
    simp only [Bool.and_eq_true,beq_iff_eq] at h
    obtain ⟨⟨⟨rfl,h3⟩,h4⟩,h5⟩:=h
    obtain ⟨e,b1,b2,zv,z1,z2,z3⟩:=bsliceOk_inv h3
    obtain ⟨C',u,e1,e2,e3⟩:=bslice_ok (P:=P) hs b1 b2 z1 (z2 C) z3 (Nat.le_of_ble_eq_true h4) (parts:=_) (by rw [Array.toList_map]; exact parts_ok hO _ _ h5) h1
    refine ⟨?_,rfl⟩
    simp only [execOp,hop]
    exact does_v e1 ⟨C',rfl,e2,e3⟩
  · -- load
    unfold aop at hr
    obtain ⟨h1,rfl⟩:=ret_inv hr
    simp only [Bool.and_eq_true,beq_iff_eq] at h
    obtain ⟨⟨h2,h3⟩,h4⟩:=h
    obtain ⟨u,e1,e2⟩:=load_ok hs h2 h3 (hO _ _ h4) h1
    refine ⟨?_,rfl⟩
    simp only [execOp,hop]
    exact does_v e1 (cpost_refl hs e2)
  · -- store
    unfold aop at hr
    obtain ⟨H',b,h1,rfl⟩:=eff_inv hr
    simp only [Bool.and_eq_true,beq_iff_eq] at h
    obtain ⟨⟨h2,h3⟩,h4⟩:=h
    obtain ⟨C',e1,e2,rfl⟩:=store_ok hs h2 (hO _ _ h3) (hO _ _ h4) h1
    refine ⟨?_,rfl⟩
    simp only [execOp,hop]
    exact does_u e1 ⟨C',rfl,e2,nothing_ok _⟩
  · -- nilCheck
    rename_i y z
    unfold aop at hr
    obtain ⟨h1,rfl⟩:=ret_inv hr
    obtain ⟨e1,e2⟩:=nilCheck_form (hO _ _ h) h1
    refine ⟨?_,rfl⟩
    simp only [execOp,hop]
    rcases e2 with ⟨p,e2⟩ | ⟨f,cs,e2⟩
    · rw [e2] at e1 ⊢; exact does_p (cpost_refl hs e1)
    · rw [e2] at e1 ⊢; exact does_p (cpost_refl hs e1)
  · -- binOp
    rename_i op t p q t' op' p' q'
    unfold aop at hr
    obtain ⟨h1,rfl⟩:=ret_inv hr
    simp only [Bool.and_eq_true,beq_iff_eq] at h
    obtain ⟨⟨rfl,h3⟩,h4⟩:=h
    obtain ⟨u,e1,e2⟩:=bin_ok (P:=P) (t:=t) (hO _ _ h3) (hO _ _ h4) h1
    obtain ⟨⟨k,n,i1⟩,⟨k',n',i2⟩⟩:=binAV_ints h1
    have j1:=Rv_int (i1 ▸ hO _ _ h3); have j2:=Rv_int (i2 ▸ hO _ _ h4)
    refine ⟨?_,rfl⟩
    simp only [execOp,hop]
    refine does_v (w':=C.w) (v:=u) ?_ (cpost_refl hs e2)
    simp only [Sem.run_bind,j1,j2,eqGuard_int,Result.andThen_ok] at e1 ⊢
    exact e1
  · -- binOp on truth values
    rename_i op t p q t' ne p' q'
    unfold aop at hr
    obtain ⟨h1,rfl⟩:=ret_inv hr
    simp only [Bool.and_eq_true,beq_iff_eq] at h
    obtain ⟨⟨⟨rfl,h2⟩,h3⟩,h4⟩:=h
    have ht:P.underlying t = some .bool:=by
      unfold boolT at h2
      split at h2
      · assumption
      · cases h2
    obtain ⟨u,e1,e2⟩:=binb_ok ht (hO _ _ h3) (hO _ _ h4) h1
    obtain ⟨⟨n,i1⟩,⟨n',i2⟩⟩:=binB_bools h1
    have j1:=Rv_bool (i1 ▸ hO _ _ h3); have j2:=Rv_bool (i2 ▸ hO _ _ h4)
    refine ⟨?_,rfl⟩
    simp only [execOp,hop]
    refine does_v (w':=C.w) (v:=u) ?_ (cpost_refl hs e2)
    simp only [Sem.run_bind,j1,j2,eqGuard_bool,Result.andThen_ok] at e1 ⊢
    exact e1
  · -- unOp
    unfold aop at hr
    obtain ⟨h1,rfl⟩:=ret_inv hr
    simp only [Bool.and_eq_true,beq_iff_eq] at h
    obtain ⟨rfl,h3⟩:=h
    obtain ⟨u,e1,e2⟩:=un_ok (P:=P) (hO _ _ h3) h1
    refine ⟨?_,rfl⟩
    simp only [execOp,hop]
    exact does_v e1 (cpost_refl hs e2)
  · -- convert
    rename_i s d p k p'
    unfold aop at hr
    obtain ⟨h1,rfl⟩:=ret_inv hr
    simp only [Bool.and_eq_true] at h
    obtain ⟨h2,h3⟩:=h
    unfold convOk at h2
    simp only [Bool.and_eq_true] at h2
    obtain ⟨h2,h4⟩:=h2
    split at h2
    · rename_i k' hk
      simp only [beq_iff_eq] at h2
      subst h2
      obtain ⟨u,e1,e2⟩:=conv_ok hk h4 (hO _ _ h3) h1
      refine ⟨?_,rfl⟩
      simp only [execOp,hop]
      exact does_v e1 (cpost_refl hs e2)
    · cases h2
  · -- makeFunc
    unfold aop at hr
    obtain ⟨h1,rfl⟩:=ret_inv hr
    simp only [Bool.and_eq_true,beq_iff_eq] at h
    obtain ⟨⟨h2,rfl⟩,h4⟩:=h
    have hv:=ops_ok hO _ _ h4
    have hfirst:=Array.eq_empty_of_size_eq_zero h2
    subst hfirst
    have hk:=h1
    unfold doMkfn at hk
    split at hk
    · rename_i hcap
      have e2:=mkfn_ok (Rvs_known hv (fun x hx=>by
        have:=List.all_eq_true.1 hcap x hx
        simp only [capOk,Bool.and_eq_true] at this
        exact this.1.1)) h1
      refine ⟨?_,rfl⟩
      simp only [execOp,hop,Instr.makeFunc]
      refine does_v (w':=C.w) (by simp only [Sem.run_pure]; rfl) (cpost_refl hs ?_)
      rw [hι,← Array.toList_map,Array.toArray_toList] at e2
      rw [Array.map_empty]
      exact e2
    · cases hk
  · -- makeMap
    unfold aop at hr
    obtain ⟨H',b,h1,rfl⟩:=eff_inv hr
    cases h1
    rename_i t
    obtain ⟨C',u,e1,e2,e3⟩:=mkmap_ok (P:=P) hs (t:=t)
    refine ⟨?_,rfl⟩
    simp only [execOp,hop]
    exact does_v e1 ⟨C',rfl,e2,e3⟩
  · -- makeSlice
    unfold aop at hr
    obtain ⟨H',b,h1,rfl⟩:=eff_inv hr
    simp only [Bool.and_eq_true] at h
    obtain ⟨⟨h2,h3⟩,h4⟩:=h
    obtain ⟨e,i,zv,b1,b2,b3,b4,b5,b6,b7⟩:=mksliceOk_inv h2
    obtain ⟨C',u,e1,e2,e3⟩:=mkslice_ok hs b1 b2 b3 b4 b5 (b6 C) b7 (hO _ _ h3) (hO _ _ h4) h1
    refine ⟨?_,rfl⟩
    simp only [execOp,hop]
    exact does_v e1 ⟨C',rfl,e2,e3⟩
  · -- slice
    rename_i t p lo hi mx sz p' lo' hi' mx'
    unfold aop at hr
    obtain ⟨h1,rfl⟩:=ret_inv hr
    simp only [Bool.and_eq_true] at h
    obtain ⟨⟨⟨⟨⟨h2,h3⟩,h4⟩,h5⟩,h6⟩,h7⟩:=h
    obtain ⟨e,b1,b2⟩:=sliceOk_inv h2
    obtain ⟨u,e1,e2⟩:=slice_ok b1 b2 (opt_ok hO h4) (opt_ok hO h5) (opt_ok hO h6) (by cases mx <;> cases hi <;> simp_all) (hO _ _ h3) h1
    refine ⟨?_,rfl⟩
    simp only [execOp,hop]
    exact does_v e1 (cpost_refl hs e2)
  · -- an empty slice
    rename_i t p hi mx sz p'
    unfold aop at hr
    obtain ⟨H',b,h1,rfl⟩:=eff_inv hr
    simp only [Bool.and_eq_true] at h
    obtain ⟨⟨⟨h2,h3⟩,h4⟩,h5⟩:=h
    obtain ⟨e,b1,b2⟩:=sliceOk_inv h2
    obtain ⟨C',u,e1,e2,e3⟩:=slice0_ok hs b1 (by rw [b2]; rfl) rfl rfl (hO _ _ h3) h1
    refine ⟨?_,rfl⟩
    simp only [execOp,hop,isZero64_inv h4,isZero64_inv h5]
    exact does_v e1 ⟨C',rfl,e2,e3⟩
  · -- fieldAddr
    unfold aop at hr
    obtain ⟨h1,rfl⟩:=ret_inv hr
    simp only [Bool.and_eq_true,beq_iff_eq] at h
    obtain ⟨⟨rfl,h2⟩,h3⟩:=h
    unfold fieldAddrOk at h2
    split at h2
    · rename_i f hf
      simp only [Bool.and_eq_true,beq_iff_eq] at h2
      obtain ⟨h4,h5⟩:=h2
      split at h5
      · rename_i n hn
        obtain ⟨u,e1,e2⟩:=fieldAddr_ok hf h4 ⟨n,hn,by simpa using h5⟩ (hO _ _ h3) h1
        refine ⟨?_,rfl⟩
        simp only [execOp,hop]
        exact does_v e1 (cpost_refl hs e2)
      · cases h5
    · cases h2
  · -- field
    unfold aop at hr
    obtain ⟨h1,rfl⟩:=ret_inv hr
    simp only [Bool.and_eq_true,beq_iff_eq] at h
    obtain ⟨⟨rfl,h2⟩,h3⟩:=h
    unfold fieldOk at h2
    split at h2
    · rename_i f hf
      simp only [Bool.and_eq_true,beq_iff_eq] at h2
      obtain ⟨⟨h4,h5⟩,h6⟩:=h2
      obtain ⟨u,e1,e2⟩:=field_ok hf h4 h5 h6 (hO _ _ h3) h1
      refine ⟨?_,rfl⟩
      simp only [execOp,hop]
      exact does_v e1 (cpost_refl hs e2)
    · cases h2
  · -- indexAddr
    unfold aop at hr
    obtain ⟨h1,rfl⟩:=ret_inv hr
    simp only [Bool.and_eq_true] at h
    obtain ⟨⟨h2,h3⟩,h4⟩:=h
    obtain ⟨e,b1,b2⟩:=sliceOk_inv h2
    obtain ⟨u,e1,e2⟩:=indexAddr_ok b1 b2 (hO _ _ h3) (hO _ _ h4) h1
    refine ⟨?_,rfl⟩
    simp only [execOp,hop]
    exact does_v e1 (cpost_refl hs e2)
  · -- indexAddr of an array
    unfold aop at hr
    obtain ⟨h1,rfl⟩:=ret_inv hr
    simp only [Bool.and_eq_true] at h
    obtain ⟨⟨h2,h3⟩,h4⟩:=h
    unfold arrOk at h2
    split at h2
    · rename_i m e he
      simp only [Bool.and_eq_true,beq_iff_eq] at h2
      obtain ⟨rfl,h5⟩:=h2
      obtain ⟨u,e1,e2⟩:=indexArr_ok he h5 (hO _ _ h3) (hO _ _ h4) h1
      refine ⟨?_,rfl⟩
      simp only [execOp,hop]
      exact does_v e1 (cpost_refl hs e2)
    · cases h2
  · -- index
    unfold aop at hr
    obtain ⟨h1,rfl⟩:=ret_inv hr
    simp only [Bool.and_eq_true] at h
    obtain ⟨⟨h2,h3⟩,h4⟩:=h
    unfold strT at h2
    split at h2
    · rename_i he
      obtain ⟨u,e1,e2⟩:=indexStr_ok he (hO _ _ h3) (hO _ _ h4) h1
      refine ⟨?_,rfl⟩
      simp only [execOp,hop]
      exact does_v e1 (cpost_refl hs e2)
    · cases h2
  · -- lookup
    unfold aop at hr
    obtain ⟨h1,rfl⟩:=ret_inv hr
    simp only [Bool.and_eq_true,beq_iff_eq] at h
    obtain ⟨⟨⟨rfl,h2⟩,h3⟩,h4⟩:=h
    unfold lookOk at h2
    simp only [Bool.and_eq_true] at h2
    obtain ⟨h2,h5⟩:=h2
    obtain ⟨kt,et,kd,b1,b2,b3⟩:=mapOk_inv h2
    rw [b1] at h5
    obtain ⟨zv,z1,z2,z3⟩:=zeroOk_inv h5
    obtain ⟨u,e1,e2⟩:=lookup_ok hs b1 b2 b3 z1 (known_Rv1 z3 (z2 C)) (hO _ _ h3) (hO _ _ h4) h1
    refine ⟨?_,rfl⟩
    simp only [execOp,hop]
    exact does_v e1 (cpost_refl hs e2)
  · -- mapUpdate
    unfold aop at hr
    obtain ⟨H',b,h1,rfl⟩:=eff_inv hr
    simp only [Bool.and_eq_true] at h
    obtain ⟨⟨⟨h2,h3⟩,h4⟩,h5⟩:=h
    obtain ⟨kt,et,kd,b1,b2,b3⟩:=mapOk_inv h2
    obtain ⟨C',e1,e2,rfl⟩:=mupd_ok hs b1 b2 b3 (hO _ _ h3) (hO _ _ h4) (hO _ _ h5) h1
    refine ⟨?_,rfl⟩
    simp only [execOp,hop]
    exact does_u e1 ⟨C',rfl,e2,nothing_ok _⟩
  · -- extract
    unfold aop at hr
    obtain ⟨h1,rfl⟩:=ret_inv hr
    simp only [Bool.and_eq_true,beq_iff_eq] at h
    obtain ⟨rfl,h3⟩:=h
    obtain ⟨u,e1,e2⟩:=extract_ok (P:=P) (hO _ _ h3) h1
    refine ⟨?_,rfl⟩
    simp only [execOp,hop]
    exact does_v e1 (cpost_refl hs e2)
  · -- a call
    exact call_op_ok hC hι hs hO hop h hr
  · cases h
end Tor
namespace Tor
open Go Go.RowKit
def stepAt (CF:CallF) (o:AOper) (Lp:List AV) (s:St) (x:AV) (s':St):Prop :=
  (wants Lp o.guard = some true ∧ ∃ s1,aop CF Lp s o.op = some (x,s1) ∧ s' = setVar s1 o.dst x) ∨
  (wants Lp o.guard = some false ∧ x = nothing ∧ s' = setVar s o.dst nothing)
theorem evalOps_trace (CF:CallF):∀ (ops:List AOper) (L:List AV) (st st':St),evalOps CF ops L st = some st' →
    ∃ (Lf:List AV) (hs:Nat → St),hs 0 = st ∧ hs ops.length = st' ∧ Lf.length = L.length + ops.length ∧ Lf.take L.length = L ∧
      ∀ i o,ops[i]? = some o → stepAt CF o (Lf.take (L.length + i)) (hs i) (Lf.getD (L.length + i) .u) (hs (i + 1))
  | [],L,st,st',h=>by
    rw [evalOps_nil] at h; cases h
    exact ⟨L,fun _=>st,rfl,rfl,rfl,by simp,fun i o h=>by simp at h⟩
  | o :: r,L,st,st',h=>by
    rw [evalOps_cons] at h
    have key:∀ x s1,evalOps CF r (L ++ [x]) s1 = some st' → stepAt CF o L st x s1 →
        ∃ (Lf:List AV) (hs:Nat → St),hs 0 = st ∧ hs (o :: r).length = st' ∧ Lf.length = L.length + (o :: r).length ∧ Lf.take L.length = L ∧
          ∀ i o',(o :: r)[i]? = some o' → stepAt CF o' (Lf.take (L.length + i)) (hs i) (Lf.getD (L.length + i) .u) (hs (i + 1)):=by
      intro x s1 he hst
      obtain ⟨Lf,hs,h1,h2,h3,h4,h5⟩:=evalOps_trace CF r (L ++ [x]) s1 st' he
      have hl:(L ++ [x]).length = L.length + 1:=by simp
      rw [hl] at h3 h4 h5
      have hx:Lf.getD L.length .u = x:=by
        have:(Lf.take (L.length + 1))[L.length]? = some x:=by rw [h4]; simp
        rw [List.getElem?_take] at this
        simp at this
        simp [List.getD,this]
      have hL:Lf.take L.length = L:=by
        have:=congrArg (List.take L.length) h4
        rw [List.take_take,Nat.min_eq_left (by omega)] at this
        simpa using this
      refine ⟨Lf,fun i=>if i = 0 then st else hs (i - 1),rfl,by simp [h2],by rw [h3]; simp; omega,hL,fun i o' ho'=>?_⟩
      cases i with
      | zero =>
        simp at ho'; subst ho'
        simp only [Nat.add_zero,hL,hx]
        simpa [h1] using hst
      | succ i =>
        have:=h5 i o' (by simpa using ho')
        simpa [Nat.add_assoc,Nat.add_comm 1 i] using this
    cases hw:wants L o.guard with
    | none=>rw [hw] at h; simp [gK,evalG] at h
    | some b =>
      rw [hw] at h
      cases b with
      | false =>
        rw [gK_f] at h
        exact key nothing _ h (.inr ⟨hw,rfl,rfl⟩)
      | true =>
        rw [gK_t] at h
        cases ha:aop CF L st o.op with
        | none=>rw [ha] at h; simp [kK,evalK] at h
        | some p =>
          obtain ⟨x,s1⟩:=p
          rw [ha,kK_s] at h
          exact key x _ h (.inl ⟨hw,s1,ha,rfl⟩)
theorem aop_vars {CF:CallF} {L st op x st'} (h:aop CF L st op = some (x,st')):st'.vars = st.vars:=by
  cases op <;> unfold aop at h <;> first
    | (obtain ⟨_,rfl⟩:=ret_inv h; rfl)
    | (obtain ⟨_,_,_,rfl⟩:=eff_inv h; rfl)
inductive Cls where
  | p | r | a | w
  deriving DecidableEq
def Cls.wr:Cls → Bool
  | .a=>true
  | .w=>true
  | _=>false
def clsOf (pureF:Nat → Bool):AOp → Cls
  | .move _ | .pick _ _ _ | .build _ _ | .nilCheck _ | .bin _ _ _ | .binb _ _ _ | .un _ _ | .conv _ _ | .mkfn _ _ | .slice _ _ _ _ _ | .fieldAddr _ _ _ | .field _ _ _ _ _
  | .indexAddr _ _ _ | .indexArr _ _ _ _ | .indexStr _ _ | .extract _ _ | .max _ _ | .min _ _ | .cn _ | .cb _ | .cs _ _ _ | .cl _ _ _ | .ca _ | .box true _ | .bslice false _ _ _ _=>.p
  | .load _ _ _ | .lookup _ _ _ _ | .len _ _=>.r
  | .call g _=>if pureF g then .p else .w
  | .callp gs _ _=>if gs.all pureF then .p else .w
  | .alloc _ | .nils _ | .box false _ | .bslice true _ _ _ _ | .mkmap | .mkslice _ _ _ _ _ | .slice0 _ _=>.a
  | _=>.w
def PureC (pureF:Nat → Bool) (CF:CallF):Prop :=
  ∀ g,pureF g = true → ∀ args H r H' b,CF g args H = some (r,H',b) → H' = H ∧ b = false ∧ ∀ H2,CF g args H2 = some (r,H2,false)
theorem memN_all {g:Nat} {p:Nat → Bool}:∀ {gs:List Nat},memN g gs = true → gs.all p = true → p g = true
  | [],h,_=>by cases h
  | x :: r,h,ha=>by
    simp only [List.all_cons,Bool.and_eq_true] at ha
    simp only [memN] at h
    split at h
    · rename_i e; rw [e]; exact ha.1
    · exact memN_all h ha.2
theorem aop_p {pureF CF} (hp:PureC pureF CF) {L st op x st'} (h:aop CF L st op = some (x,st')) (hc:clsOf pureF op = .p) :
    st'.heap = st.heap ∧ ∀ H,aop CF L { st with heap:=H } op = some (x,{ st' with heap:=H }):=by
  cases op <;> try (simp [clsOf] at hc; done)
  case box im y =>
    cases im
    · simp [clsOf] at hc
    · unfold aop at h ⊢
      simp only [doBox,if_true] at h ⊢
      split at h
      · rename_i hk
        obtain ⟨H',b,e,rfl⟩:=eff_inv h
        cases e
        refine ⟨rfl,fun H=>?_⟩
        simp [hk,eff]
      · cases h
  case bslice mt sz z n ps =>
    cases mt
    · unfold aop at h ⊢
      simp only at h ⊢
      generalize (if z.size = sz ∧ z.hasRef = false then setAll (List.replicate n z) (ps.map fun p=>(p.1,ev L st.vars p.2)) else none) = q at h ⊢
      cases q with
      | none=>cases h
      | some l =>
        simp only [doBslice,Bool.false_eq_true,if_false] at h ⊢
        split at h
        · cases h
        · rename_i hk
          obtain ⟨H',b,e,rfl⟩:=eff_inv h
          cases e
          refine ⟨rfl,fun H=>?_⟩
          simp [hk,eff]
    · simp [clsOf] at hc
  case call g args =>
    simp only [clsOf] at hc
    split at hc
    · rename_i hg
      unfold aop at h ⊢
      obtain ⟨H',b,e,rfl⟩:=eff_inv h
      obtain ⟨rfl,rfl,h2⟩:=hp g hg _ _ _ _ _ e
      refine ⟨rfl,fun H=>?_⟩
      simp [h2,eff]
    · cases hc
  case callp gs f args =>
    simp only [clsOf] at hc
    split at hc
    · rename_i hg
      unfold aop at h ⊢
      obtain ⟨H',b,e,rfl⟩:=eff_inv h
      simp only at e ⊢
      generalize ev L st.vars f = F at e ⊢
      cases F <;> try (cases e; done)
      rename_i g caps
      simp only [doCallp] at e ⊢
      split at e
      · rename_i hm
        obtain ⟨rfl,rfl,h2⟩:=hp g (memN_all hm hg) _ _ _ _ _ e
        refine ⟨rfl,fun H=>?_⟩
        simp [hm,h2,eff]
      · cases e
    · cases hc
  all_goals
    unfold aop at h ⊢
    obtain ⟨e,rfl⟩:=ret_inv h
    refine ⟨rfl,fun H=>?_⟩
    simp only at e ⊢
    rw [e]; rfl
theorem aop_r {pureF CF} {L st op x st'} (h:aop CF L st op = some (x,st')) (hc:clsOf pureF op = .r):st'.heap = st.heap:=by
  cases op <;> try (simp [clsOf] at hc; done)
  all_goals first
    | (unfold aop at h; obtain ⟨e,rfl⟩:=ret_inv h; rfl)
    | (rename_i b _; cases b <;> simp [clsOf] at hc; done)
    | (rename_i b _ _ _ _; cases b <;> simp [clsOf] at hc; done)
    | (simp only [clsOf] at hc; split at hc <;> cases hc)
def ropd:AOp → Option AOpd
  | .load _ _ x=>some x
  | .lookup _ _ m _=>some m
  | .len _ x=>some x
  | _=>none
theorem getIn_ag {H H2:Heap} {o:Nat} (hag:∀ o,o < H2.length → o < H.length → H2[o]? = H[o]?) (ho:o < H2.length) {α:Type} {f:Option AObj → Option α} (hf:f none = none) {y:α} (h:f H[o]? = some y):f H2[o]? = some y:=by
  by_cases hl:o < H.length
  · rw [hag o ho hl]; exact h
  · rw [List.getElem?_eq_none (by omega),hf] at h; cases h
theorem aop_r2 {pureF CF} {L st op x st'} {H2:Heap} (h:aop CF L st op = some (x,st')) (hc:clsOf pureF op = .r) (hag:∀ o,o < H2.length → o < st.heap.length → H2[o]? = st.heap[o]?)
    (hun:∀ y,ropd op = some y → (ev L st.vars y).under H2.length = true):aop CF L { st with heap:=H2 } op = some (x,{ st' with heap:=H2 }):=by
  cases op <;> try (simp [clsOf] at hc; done)
  case load ag sz y =>
    have hu:=hun y rfl
    unfold aop at h ⊢
    obtain ⟨e,rfl⟩:=ret_inv h
    simp only at e ⊢
    generalize ev L st'.vars y = X at e hu
    have:doLoad ag sz H2 X = some x:=by
      cases X <;> try (cases e; done)
      · exact e
      · rename_i o g p
        simp only [AV.under,decide_eq_true_eq] at hu
        simp only [doLoad] at e ⊢
        exact getIn_ag (f:=fun q=>fits ag sz (getIn g p q)) hag hu rfl e
    rw [this]; rfl
  case lookup z ok m k =>
    have hu:=hun m rfl
    unfold aop at h ⊢
    obtain ⟨e,rfl⟩:=ret_inv h
    simp only at e ⊢
    generalize ev L st'.vars m = X at e hu
    generalize ev L st'.vars k = Y at e
    have:doLookup z ok H2 X Y = some x:=by
      cases X <;> try (cases e; done)
      cases Y <;> try (cases e; done)
      rename_i o k n
      cases k <;> try (cases e; done)
      simp only [AV.under,decide_eq_true_eq] at hu
      simp only [doLookup] at e ⊢
      exact getIn_ag (f:=fun q=>lookIn z ok n q) hag hu rfl e
    rw [this]; rfl
  case len kd y =>
    have hu:=hun y rfl
    unfold aop at h ⊢
    obtain ⟨e,rfl⟩:=ret_inv h
    simp only at e ⊢
    generalize ev L st'.vars y = X at e hu
    have:doLen H2 kd X = some x:=by
      match kd with
      | 0 => have : doLen H2 0 X = doLen st'.heap 0 X := by cases X <;> rfl
             rw [this]; exact e
      | 1 =>
        cases X <;> try (cases e; done)
        rename_i o
        simp only [AV.under,decide_eq_true_eq] at hu
        simp only [doLen] at e ⊢
        exact getIn_ag (f:=fun q=>mlen q) hag hu rfl e
      | 2 => have : doLen H2 2 X = doLen st'.heap 2 X := by
               cases X <;> try rfl
               rename_i v; cases v <;> rfl
             rw [this]; exact e
      | n + 3 => have : doLen st'.heap (n + 3) X = none := by cases X <;> rfl
                 rw [this] at e; cases e
    rw [this]; rfl
  all_goals first
    | (rename_i b _; cases b <;> simp [clsOf] at hc; done)
    | (rename_i b _ _ _ _; cases b <;> simp [clsOf] at hc; done)
    | (simp only [clsOf] at hc; split at hc <;> cases hc)
theorem aop_a {pureF CF} {L st op x st'} (h:aop CF L st op = some (x,st')) (hc:clsOf pureF op = .a):∃ ob,st'.heap = st.heap ++ [ob]:=by
  cases op <;> try (simp [clsOf] at hc; done)
  case box im y =>
    cases im
    · unfold aop at h
      obtain ⟨H',b,e,rfl⟩:=eff_inv h
      simp only [doBox] at e
      split at e
      · cases e; exact ⟨_,rfl⟩
      · cases e
    · simp [clsOf] at hc
  case bslice mt sz z n ps =>
    cases mt
    · simp [clsOf] at hc
    · unfold aop at h
      obtain ⟨H',b,e,rfl⟩:=eff_inv h
      generalize (if z.size = sz ∧ z.hasRef = false then setAll (List.replicate n z) (ps.map fun p=>(p.1,ev L st.vars p.2)) else none) = q at e
      cases q with
      | none=>cases e
      | some l=>simp only [doBslice,if_true] at e; cases e; exact ⟨_,rfl⟩
  case alloc z =>
    unfold aop at h
    obtain ⟨H',b,e,rfl⟩:=eff_inv h
    split at e
    · cases e; exact ⟨_,rfl⟩
    · cases e
  case nils sz =>
    unfold aop at h
    obtain ⟨H',b,e,rfl⟩:=eff_inv h
    cases e; exact ⟨_,rfl⟩
  case mkmap =>
    unfold aop at h
    obtain ⟨H',b,e,rfl⟩:=eff_inv h
    cases e; exact ⟨_,rfl⟩
  case mkslice sz bytes z n c =>
    unfold aop at h
    obtain ⟨H',b,e,rfl⟩:=eff_inv h
    unfold doMkslice at e
    split at e
    · split at e
      · cases e; exact ⟨_,rfl⟩
      · cases e
    · cases e
  case slice0 sz y =>
    unfold aop at h
    obtain ⟨H',b,e,rfl⟩:=eff_inv h
    unfold doSlice0 at e
    split at e <;> first | (cases e; exact ⟨_,rfl⟩) | cases e
  case call g args =>
    simp only [clsOf] at hc; split at hc <;> cases hc
  case callp gs f args =>
    simp only [clsOf] at hc; split at hc <;> cases hc
theorem setVar_vars (st:St) (d:Option Nat) (x:AV):(setVar st d x).vars = match d with | some k=>st.vars.set k x | none=>st.vars:=by cases d <;> rfl
theorem trace_vars {CF:CallF} {ops:List AOper} {Lf:List AV} {hs:Nat → St} (h:∀ i o,ops[i]? = some o → stepAt CF o (Lf.take i) (hs i) (Lf.getD i .u) (hs (i + 1))) (k:Nat) :
    ∀ i,i ≤ ops.length → (hs i).vars.length = (hs 0).vars.length ∧ ((∀ j o,j < i → ops[j]? = some o → o.dst ≠ some k) → (hs i).vars.getD k .u = (hs 0).vars.getD k .u) ∧
      ∀ j o,j < i → ops[j]? = some o → o.dst = some k → k < (hs 0).vars.length → (∀ j' o',j < j' → j' < i → ops[j']? = some o' → o'.dst ≠ some k) → (hs i).vars.getD k .u = Lf.getD j .u:=by
  intro i
  induction i with
  | zero=>intro _; exact ⟨rfl,fun _=>rfl,fun j o hj=>by omega⟩
  | succ i ih =>
    intro hi
    obtain ⟨h1,h2,h3⟩:=ih (by omega)
    have ho:ops[i]? = some ops[i]:=List.getElem?_eq_getElem (by omega)
    generalize ops[i] = o at ho
    have hv:(hs (i + 1)).vars = match o.dst with | some k=>(hs i).vars.set k (Lf.getD i .u) | none=>(hs i).vars:=by
      rcases h i o ho with ⟨_,s1,a1,a2⟩ | ⟨_,a1,a2⟩
      · rw [a2,setVar_vars,aop_vars a1]
      · rw [a2,setVar_vars,a1]
    refine ⟨?_,fun hn=>?_,fun j o' hj ho' hd hk hlast=>?_⟩
    · rw [hv,← h1]; cases o.dst <;> simp
    · have hne:=hn i o (by omega) ho
      have:(hs (i + 1)).vars.getD k .u = (hs i).vars.getD k .u:=by
        rw [hv]
        cases hd:o.dst with
        | none=>rfl
        | some k' =>
          have:k' ≠ k:=fun e=>hne (by rw [hd,e])
          simp [List.getD,this]
      rw [this]
      exact h2 fun j o' hj=>hn j o' (by omega)
    · by_cases hji:j = i
      · subst hji
        rw [ho] at ho'; cases ho'
        rw [hv,hd]
        simp [List.getD,h1,hk]
      · have hne:=hlast i o (by omega) (by omega) ho
        have:(hs (i + 1)).vars.getD k .u = (hs i).vars.getD k .u:=by
          rw [hv]
          cases hd':o.dst with
          | none=>rfl
          | some k' =>
            have:k' ≠ k:=fun e=>hne (by rw [hd',e])
            simp [List.getD,this]
        rw [this]
        exact h3 j o' (by omega) ho' hd hk fun j' o'' hj' hlt=>hlast j' o'' hj' (by omega)
def edgesOf (o:Oper):List Nat:=(o.after.toList.filter (Region.binds .any)).map (·.on)
def orAll (ms:List Nat) (l:List Nat):Nat:=l.foldl (fun a e=>a ||| (2 ^ e ||| ms.getD e 0)) 0
def masks:List Oper → List Nat → List Nat
  | [],acc=>acc
  | o :: r,acc=>masks r (acc ++ [orAll acc (edgesOf o)])
def masksOk (ms:List Nat):Nat → List Oper → Bool
  | _,[]=>true
  | i,o :: r=>ms.getD i 0 == orAll ms (edgesOf o) && (edgesOf o).all (fun e=>Nat.blt e i) && masksOk ms (i + 1) r
theorem foldl_or (ms:List Nat) (i:Nat):∀ (l:List Nat) (a:Nat),(l.foldl (fun a e=>a ||| (2 ^ e ||| ms.getD e 0)) a).testBit i = true → a.testBit i = true ∨ ∃ e ∈ l,e = i ∨ (ms.getD e 0).testBit i = true
  | [],a,h=>.inl h
  | e :: l,a,h=>by
    simp only [List.foldl_cons] at h
    rcases foldl_or ms i l _ h with h | ⟨e',h1,h2⟩
    · simp only [Nat.testBit_or,Bool.or_eq_true,Nat.testBit_two_pow,decide_eq_true_eq] at h
      rcases h with h | h | h
      · exact .inl h
      · exact .inr ⟨e,.head _,.inl h⟩
      · exact .inr ⟨e,.head _,.inr h⟩
    · exact .inr ⟨e',.tail _ h1,h2⟩
theorem masksOk_get {ms:List Nat}:∀ {ops:List Oper} {i:Nat},masksOk ms i ops = true → ∀ j o,ops[j]? = some o → ms.getD (i + j) 0 = orAll ms (edgesOf o) ∧ ∀ e ∈ edgesOf o,e < i + j
  | [],_,_,j,o,h=>by simp at h
  | o' :: r,i,h,j,o,ho=>by
    simp only [masksOk,Bool.and_eq_true,beq_iff_eq,List.all_eq_true] at h
    obtain ⟨⟨h1,h2⟩,h3⟩:=h
    cases j with
    | zero=>simp at ho; subst ho; exact ⟨h1,fun e he=>by have:=h2 e he; rw [Nat.blt_eq] at this; omega⟩
    | succ j =>
      have:=masksOk_get h3 j o (by simpa using ho)
      rw [show i + (j + 1) = i + 1 + j by omega]; exact this
structure Prec where
  draw:Bool
  ms:List Nat
def Prec.lt (p:Prec) (i j:Nat):Bool:=if p.draw then (p.ms.getD j 0).testBit i else Nat.blt i j
def Closed (ops:List Oper) (S:Nat → Bool):Prop:=∀ i o,S i = true → ops[i]? = some o → ∀ e ∈ edgesOf o,S e = true
theorem mask_in {ops:List Oper} {ms:List Nat} (hm:masksOk ms 0 ops = true) {S:Nat → Bool} (hS:Closed ops S):∀ (n j:Nat) (o:Oper),j ≤ n → ops[j]? = some o → (∀ e ∈ edgesOf o,S e = true) →
    ∀ i,(ms.getD j 0).testBit i = true → S i = true ∧ i < j:=by
  intro n
  induction n with
  | zero =>
    intro j o hj ho he i hi
    have h:=masksOk_get hm j o ho
    rw [Nat.zero_add] at h
    rw [h.1] at hi
    rcases foldl_or ms i _ 0 hi with hi | ⟨e,h1,_⟩
    · simp at hi
    · have:=h.2 e h1; omega
  | succ n ih =>
    intro j o hj ho he i hi
    have h:=masksOk_get hm j o ho
    rw [Nat.zero_add] at h
    rw [h.1] at hi
    rcases foldl_or ms i _ 0 hi with hi | ⟨e,h1,h2⟩
    · simp at hi
    · have hlt:=h.2 e h1
      rcases h2 with rfl | h2
      · exact ⟨he _ h1,hlt⟩
      · have hlen:e < ops.length:=by
          have:=(List.getElem?_eq_some_iff.1 ho).1
          omega
        have hoe:ops[e]? = some ops[e]:=List.getElem?_eq_getElem hlen
        have:=ih e _ (by omega) hoe (fun e' he'=>hS e _ (he e h1) hoe e' he') i h2
        exact ⟨this.1,by omega⟩
end Tor
namespace Tor
open Go Go.RowKit
variable {P:Program} {base ent:Nat} {C:Cx} {H:Heap}
structure Own (base ent:Nat) (C:Cx) (H:Heap) (b:Nat):Prop where
  base:base ≤ b
  ent:ent ≤ b
  F:¬ C.F b
  no:∀ o ob,H[o]? = some ob → blk C o ob ≠ some b
def CellV (base ent:Nat) (C:Cx) (H:Heap) (x:AV) (v:Value):Prop :=
  x.known = false ∨ ∃ b c e,v = .pointer (some ⟨b,0,none⟩) ∧ C.w.heap[b]? = some (.cells c e (0,0)) ∧ Rc C x c.toList ∧ Own base ent C H b
theorem CellV.step {C':Cx} {H':Heap} {x:AV} {v:Value} (h:CellV base ent C H x v) (hst:OStep base C H C' H'):CellV base ent C' H' x v:=by
  rcases h with h | ⟨b,c,e,h1,h2,h3,h4⟩
  · exact .inl h
  · obtain ⟨p1,p2,p3⟩:=hst.priv b (lt_of_heap h2) h4.F h4.no
    exact .inr ⟨b,c,e,h1,p1.trans h2,Rc_le hst.le _ _ h3,h4.base,h4.ent,p2,p3⟩
theorem Step.ent_le {ent':Nat} {C':Cx} {H':Heap} (h:Step base ent C H C' H') (he:ent' ≤ ent):Step base ent' C H C' H' :=
  ⟨h.le,h.sim,h.below,h.fgr,fun b hb=>h.priv b (by omega)⟩
theorem Step.trans {A B D:Cx} {H0 H1 H2:Heap} (h:Step base ent A H0 B H1) (k:Step base ent B H1 D H2):Step base ent A H0 D H2 :=
  ⟨h.le.trans k.le,k.sim,⟨k.below.1.trans h.below.1,k.below.2.trans h.below.2,k.below.3.trans h.below.3,Nat.le_trans h.below.4 k.below.4,fun b hb=>(k.below.5 b hb).trans (h.below.5 b hb)⟩,
   fun b hb=>by rcases k.fgr b hb with hh | hh; exact h.fgr b hh; exact .inr hh,
   fun b hb hF hno=>by
    obtain ⟨a1,a2,a3⟩:=h.priv b hb hF hno
    obtain ⟨b1,b2,b3⟩:=k.priv b hb a2 a3
    exact ⟨b1.trans a1,b2,b3⟩⟩
theorem grow_step (hs:Sim base C H) {w'} (hg:Grow C.w w') (hent:ent ≤ C.w.heap.size):Step base ent C H { C with w:=w' } H:=by
  have hle:Le C { C with w:=w' }:=⟨rfl,fun _ h=>h,fun _ _ _ h=>h,fun b hb=>hg.old b (hs.fsz b hb),fun b s h=>hg.shape h⟩
  exact ⟨hle,hs.world hle (fun b hb=>⟨Nat.lt_of_lt_of_le (hs.fsz b hb) hg.size,.inl hb⟩) (fun _ _=>rfl) hg.size (fun b hb _ _=>hg.old b hb),hg.below hs.bsz,fun _ h=>.inl h,fun b hb hF hno=>⟨hg.old b (by omega),hF,hno⟩⟩
theorem cn_ok (hs:Sim base C H) (hbe:base ≤ ent) (hent:ent ≤ C.w.heap.size) {t z zv} (hz:zeroB P t = some zv) (hzr:∀ C,Rv C z zv) (hzk:z.known = true) :
    ∃ C',(Instr.alloc t true (.tuple #[])).run P C.w = .ok (.pointer (some ⟨C.w.heap.size,0,none⟩)) C'.w ∧ Step base ent C H C' H ∧ OStep base C H C' H ∧ CellV base ent C' H z (.pointer (some ⟨C.w.heap.size,0,none⟩)):=by
  have hg:=Grow.alloc C.w (.cells zv.cells t)
  refine ⟨{ C with w:=C.w.alloc (.cells zv.cells t) },?_,grow_step hs hg hent,grow_step hs hg (Nat.le_refl _),?_⟩
  · simp [Instr.alloc,run_zeroValue hz,newVar,newRow]
  · refine .inr ⟨C.w.heap.size,zv.cells,t,rfl,heap_new _ _,(Rv_known hzk (hzr _)).1,by omega,hent,fun h=>Nat.lt_irrefl _ (hs.fsz _ h),fun o ob ho hb=>?_⟩
    have:=(blk_heap (hs.obj o ob ho).1 hb).2.2
    omega
theorem cb_ok (hs:Sim base C H) (hbe:base ≤ ent) (hent:ent ≤ C.w.heap.size) {e x y v} (hx:Rv C x v) (h:doCb x = some y) :
    ∃ C',(Instr.box e v).run P C.w = .ok (.pointer (some ⟨C.w.heap.size,0,none⟩)) C'.w ∧ Step base ent C H C' H ∧ OStep base C H C' H ∧ CellV base ent C' H y (.pointer (some ⟨C.w.heap.size,0,none⟩)):=by
  unfold doCb at h
  split at h
  · rename_i hk
    cases h
    have hg:=Grow.alloc C.w (.cells v.cells e)
    have hst:=grow_step hs hg (Nat.le_refl _)
    refine ⟨{ C with w:=C.w.alloc (.cells v.cells e) },?_,grow_step hs hg hent,hst,?_⟩
    · simp [Instr.box,newVar,newRow]
    · refine .inr ⟨C.w.heap.size,v.cells,e,rfl,heap_new _ _,Rc_le hst.le _ _ (Rv_known hk hx).1,by omega,hent,fun h=>Nat.lt_irrefl _ (hs.fsz _ h),fun o ob ho hb=>?_⟩
      have:=(blk_heap (hs.obj o ob ho).1 hb).2.2
      omega
  · cases h
theorem cs_ok (hs:Sim base C H) {t sz c x v u y} (hz:sizeB P t = some sz) (hc:CellV base ent C H c v) (hx:Rv C x u) (h:doCs sz c x = some y) :
    ∃ C',(Instr.storeAt t v u).run P C.w = .ok () C'.w ∧ Step base ent C H C' H ∧ CellV base ent C' H y v ∧ ∀ x' v',CellV base ent C H x' v' → v' ≠ v → CellV base ent C' H x' v':=by
  unfold doCs at h
  split at h
  · rename_i hh
    obtain ⟨hk,hcs,hxk,hxs⟩:=hh
    cases h
    rcases hc with hc | ⟨b,cc,e,rfl,h2,h3,h4⟩
    · rw [hk] at hc; cases hc
    · obtain ⟨hr,hva⟩:=Rv_known hxk hx
      have hul:u.cells.toList.length = sz:=by rw [Rc_len _ _ hr]; exact hxs
      have hcl:cc.toList.length = sz:=by rw [Rc_len _ _ h3]; exact hcs
      have hst:=run_storeCells_at P b 0 e u.cells.toList 0 cc C.w h2 (by simp at hul hcl ⊢; omega) (Rc_one _ _ hr)
      simp only [Nat.add_zero,List.take_zero,List.nil_append,Nat.zero_add] at hst
      have hd:cc.toList.drop u.cells.toList.length = []:=List.drop_eq_nil_of_le (by omega)
      rw [hd,List.append_nil,Array.toArray_toList] at hst
      have hnew:=setRow_heap C.w b cc u.cells e (0,0) h2
      have hsize:u.cells.size = cc.size:=by simp at hul hcl; omega
      have hle:Le C { C with w:=C.w.setRow b u.cells }:=by
        refine ⟨rfl,fun _ h=>h,fun _ _ _ h=>h,fun b1 hb1=>setRow_other _ _ _ _ (fun e=>h4.F (e ▸ hb1)),fun b1 s hs1=>?_⟩
        by_cases hbb:b1 = b
        · subst hbb
          simp only [World.shape?,h2] at hs1
          simp only [World.shape?,hnew,hsize]
          exact hs1
        · simp only [World.shape?] at hs1 ⊢
          rw [setRow_other _ _ _ _ hbb]; exact hs1
      have hblk:∀ o ob,H[o]? = some ob → blk { C with w:=C.w.setRow b u.cells } o ob = blk C o ob:=fun o ob ho=>blk_le hle (hs.obj o ob ho).1
      have hsim:Sim base { C with w:=C.w.setRow b u.cells } H:=by
        refine ⟨fun b1 hb1=>by simpa using hs.fsz b1 hb1,hs.dom,fun o ob ho=>?_,fun o o' ob ob' b1 ho ho' h5 h6=>?_,by simpa using hs.bsz⟩
        · obtain ⟨g1,g2⟩:=hs.obj o ob ho
          refine ⟨ObjOk_keep hle g1 (fun b1 hb1=>.inl hb1) fun b1 hb1=>setRow_other _ _ _ _ (fun e=>h4.no o ob ho (by rw [hb1,e])),?_⟩
          cases ob <;> exact g2
        · rw [hblk o ob ho] at h5
          rw [hblk o' ob' ho'] at h6
          exact hs.sep o o' ob ob' b1 ho ho' h5 h6
      refine ⟨{ C with w:=C.w.setRow b u.cells },?_,⟨hle,hsim,⟨rfl,rfl,rfl,by simp,fun k hk=>setRow_other _ _ _ _ (by have:=h4.base; omega)⟩,fun _ h=>.inl h,fun b1 hb1 hF hno=>⟨setRow_other _ _ _ _ (by have:=h4.ent; omega),hF,fun o ob ho=>by rw [hblk o ob ho]; exact hno o ob ho⟩⟩,?_,?_⟩
      · simp only [Instr.storeAt,Instr.sureAddr,Sem.run_bind,Sem.run_pure,Result.andThen_ok,storeVar,run_sizeOf hz]
        rw [if_neg (by simp at hul ⊢; omega)]
        exact hst
      · exact .inr ⟨b,u.cells,e,rfl,hnew,Rc_le hle _ _ hr,h4.base,h4.ent,h4.F,fun o ob ho=>by rw [hblk o ob ho]; exact h4.no o ob ho⟩
      · intro x' v' h' hne
        rcases h' with h' | ⟨b',c',e',rfl,q2,q3,q4⟩
        · exact .inl h'
        · have hbb:b' ≠ b:=fun e=>hne (by rw [e])
          exact .inr ⟨b',c',e',rfl,(setRow_other _ _ _ _ hbb).trans q2,Rc_le hle _ _ q3,q4.base,q4.ent,q4.F,fun o ob ho=>by rw [hblk o ob ho]; exact q4.no o ob ho⟩
  · cases h
theorem cl_ok {t ag sz c v y} (ha:aggB P t = some ag) (hz:sizeB P t = some sz) (hc:CellV base ent C H c v) (h:doCl ag sz c = some y) :
    ∃ u,(Instr.loadAt t v).run P C.w = .ok u C.w ∧ Rv C y u:=by
  unfold doCl at h
  split at h
  · rename_i hk
    obtain ⟨e,h1,h2⟩:=fits_inv h
    cases e
    rcases hc with hc | ⟨b,cc,e,rfl,q2,q3,q4⟩
    · rw [hk] at hc; cases hc
    · have hcell:=cellsAt_of (pre:=[]) (ys:=cc.toList) (post:=[]) q2 (by simp)
      simp only [List.length_nil] at hcell
      simp only [Instr.loadAt,Instr.sureAddr,Sem.run_bind,Sem.run_pure,Result.andThen_ok]
      exact run_loadVar ha (h1 ▸ hz) h2 q3 hcell
  · cases h
theorem ca_ok {t i f} (hf:fieldB P t i = some f) (hz:∃ n,sizeB P f.type = some n ∧ n ≠ 0) (b o:Nat) (w:World) :
    (Instr.fieldAt t (.pointer (some ⟨b,o,none⟩)) i).run P w = .ok (.pointer (some ⟨b,o + f.offset,none⟩)) w:=by
  obtain ⟨n,hn,hn0⟩:=hz
  unfold fieldB at hf
  cases hu:P.underlying t with
  | none=>rw [hu] at hf; cases hf
  | some d =>
    rw [hu] at hf
    cases d <;> try (cases hf; done)
    simp [Instr.fieldAt,run_underlying hu,hf,Instr.sureAddr,fieldPlace,run_sizeOf hn,hn0,addr_add]
theorem cf_ok {t i off ag sz c v y} {b:Nat} (ha:aggB P t = some ag) (hz:sizeB P t = some sz) (hc:CellV base ent C H c v) (hv:v = .pointer (some ⟨b,0,none⟩)) (h:doField i off ag sz c = some y) :
    ∃ u,(Instr.loadAt t (.pointer (some ⟨b,off,none⟩))).run P C.w = .ok u C.w ∧ Rv C y u:=by
  cases c <;> try (cases h; done)
  rename_i l
  simp only [doField] at h
  split at h
  · rename_i hs
    obtain ⟨e,h1,h2⟩:=fits_inv h
    rcases hc with hc | ⟨b',cc,e',q1,q2,q3,q4⟩
    · cases hc
    · rw [hv] at q1
      cases q1
      simp only [Rc] at q3
      obtain ⟨css,hcl,hcc⟩:=q3
      obtain ⟨z,e1,e2,e3⟩:=sizes_take_get hcl e
      have hcell:=cellsAt_of (pre:=(css.take i).flatten) (ys:=z) (post:=(css.drop (i + 1)).flatten) q2 (by rw [hcc,e1])
      rw [e2,hs] at hcell
      simp only [Instr.loadAt,Instr.sureAddr,Sem.run_bind,Sem.run_pure,Result.andThen_ok]
      exact run_loadVar ha (h1 ▸ hz) h2 e3 hcell
  · cases h
end Tor
namespace Tor
open Go Go.RowKit
def slotIs (slots:List Tmp) (k:Nat) (t:Tmp):Bool :=
  match slots[k]? with
  | some t'=>t' == t
  | none=>false
def dstIs (ops:List Oper) (j:Nat) (t:Tmp):Bool :=
  match ops[j]? with
  | some o=>(match o.dst with | some t'=>t' == t | none=>false)
  | none=>false
def laterOk (p:Prec) (i:Nat) (t:Tmp):Nat → List Oper → Bool
  | _,[]=>true
  | j,o :: r=>(match o.dst with | some t'=>t' != t || j == i || p.lt i j | none=>true) && laterOk p i t (j + 1) r
def opdIn (ι:Nat → FuncId) (slots cells:List Tmp) (ops:List Oper) (p:Prec) (i:Nat):Operand → AOpd → Bool
  | .tmp t,.l j=>dstIs ops j t && p.lt j i && !cells.contains t
  | .tmp t,.v k=>slotIs slots k t && laterOk p i t 0 ops
  | .const v,.c x=>constOk x v
  | .func f,.f g=>ι g == f
  | _,_=>false
def dstOk (slots cells:List Tmp) (ntmps:Nat):Option Tmp → Option Nat → Bool
  | none,none=>true
  | some t,some k=>slotIs slots k t && Nat.blt t ntmps
  | some t,none=>!slots.contains t && !cells.contains t && Nat.blt t ntmps
  | none,some _=>false
def guardOk (cells:List Tmp) (ops:List Oper) (p:Prec) (i:Nat):Option (Nat × Bool) → Option (Nat × Bool) → Bool
  | none,none=>true
  | some (j,b),some (j',b')=>j == j' && b == b' && p.lt j i && (match ops[j]? with | some o=>(match o.dst with | some t=>!cells.contains t && !(match o.op with | .fieldAddr _ _ _=>true | _=>false) | none=>false) | none=>false)
  | _,_=>false
def pairsOk (pureF:Nat → Bool) (p:Prec) (a:AOper) (i:Nat):Nat → List AOper → Bool
  | _,[]=>true
  | j,b :: r=>(!Nat.blt j i || p.lt j i || (match clsOf pureF a.op,clsOf pureF b.op with
      | .p,_=>true
      | _,.p=>true
      | .r,.r=>true
      | .r,.a=>true
      | .a,.r=>true
      | _,_=>false)) && pairsOk pureF p a i (j + 1) r
def dstsNodup:List Oper → Bool
  | []=>true
  | o :: r=>(match o.dst with | some t=>r.all (fun o'=>o'.dst != some t) | none=>true) && dstsNodup r
structure Ck where
  P:Program
  ι:Nat → FuncId
  slots:List Tmp
  cells:List Tmp
  ntmps:Nat
  pureF:Nat → Bool
def Ck.cellIs (k:Ck) (q:Nat) (t:Tmp):Bool:=Nat.ble k.slots.length q && slotIs k.cells (q - k.slots.length) t
def writersOk (p:Prec) (i q:Nat) (m:Option Nat):Nat → List AOper → Bool
  | _,[]=>true
  | j,a :: r=>(a.dst != some q || j == i || p.lt i j || (match m with | some m=>j == m || p.lt j m | none=>false)) && writersOk p i q m (j + 1) r
def curOk (aops:List AOper) (p:Prec) (i q:Nat):AOpd → Bool
  | .v q'=>q' == q && writersOk p i q none 0 aops
  | .l m=>(match aops[m]? with | some a=>a.dst == some q | none=>false) && p.lt m i && writersOk p i q (some m) 0 aops
  | _=>false
def writerOk (p:Prec) (i q:Nat):Nat → List AOper → Bool
  | _,[]=>true
  | j,a :: r=>(a.dst != some q || j == i || p.lt i j || p.lt j i) && writerOk p i q (j + 1) r
def noVia (p:Prec) (i:Nat) (t:Tmp):Nat → List Oper → Bool
  | _,[]=>true
  | j,o :: r=>(match o.op with | .fieldAddr _ (.tmp t') _=>t' != t || p.lt i j | _=>true) && noVia p i t (j + 1) r
def idxOf (t:Tmp):Nat → List Tmp → Option Nat
  | _,[]=>none
  | i,t' :: r=>if t' == t then some i else idxOf t (i + 1) r
def plainDst (k:Ck) (o:Oper) (a:AOper):Bool:=dstOk k.slots k.cells k.ntmps o.dst a.dst
def cellFits (k:Ck) (ops:List Oper) (aops:List AOper) (p:Prec) (i:Nat) (o:Oper) (a:AOper):Bool :=
  match o.op,a.op with
  | .alloc ty,.cn z=>(match o.dst,a.dst with
    | some t,some q=>k.cellIs q t && Nat.blt t k.ntmps && zeroOk k.P ty z && writerOk p i q 0 aops && noVia p i t 0 ops
    | _,_=>false)
  | .box _ x,.cb y=>(match o.dst,a.dst with
    | some t,some q=>k.cellIs q t && Nat.blt t k.ntmps && opdIn k.ι k.slots k.cells ops p i x y && writerOk p i q 0 aops && noVia p i t 0 ops
    | _,_=>false)
  | .store ty (.tmp t) x,.cs sz c y=>(match o.dst,a.dst with
    | none,some q=>k.cellIs q t && sizeB k.P ty == some sz && opdIn k.ι k.slots k.cells ops p i x y && curOk aops p i q c && writerOk p i q 0 aops
    | _,_=>false)
  | .load ty (.tmp t),.cl ag sz y=>(match idxOf t k.slots.length k.cells with
    | some q=>k.cellIs q t && aggB k.P ty == some ag && sizeB k.P ty == some sz && curOk aops p i q y && plainDst k o a
    | none=>false)
  | .fieldAddr sty (.tmp t) f,.ca y=>(match idxOf t k.slots.length k.cells with
    | some q=>k.cellIs q t && curOk aops p i q y && plainDst k o a && (match fieldB k.P sty f with | some fl=>(match sizeB k.P fl.type with | some n=>n != 0 | none=>false) | none=>false)
    | none=>false)
  | .load ty (.tmp d),.field f off ag sz y=>(match a.guard with
    | g=>viaFits k ops aops p i g d f off ag sz ty y 0 ops && plainDst k o a)
  | _,_=>false
where
  viaFits (k:Ck) (ops:List Oper) (aops:List AOper) (p:Prec) (i:Nat) (g:Option (Nat × Bool)) (d:Tmp) (f off:Nat) (ag:Bool) (sz:Nat) (ty:TypeId) (y:AOpd):Nat → List Oper → Bool
    | _,[]=>false
    | j,o :: r=>if o.dst == some d then
        (match o.op with
        | .fieldAddr sty (.tmp t) f'=>(match idxOf t k.slots.length k.cells with
          | some q=>k.cellIs q t && p.lt j i && f == f' && fieldOk k.P sty f off ag sz && aggB k.P ty == some ag && sizeB k.P ty == some sz && curOk aops p i q y &&
              (match aops[j]? with | some b=>b.guard == none || b.guard == g | none=>false)
          | none=>false)
        | _=>false)
      else viaFits k ops aops p i g d f off ag sz ty y (j + 1) r
def opFits (k:Ck) (ops:List Oper) (aops:List AOper) (p:Prec) (i:Nat) (o:Oper) (a:AOper):Bool :=
  (opOk k.P k.ι (opdIn k.ι k.slots k.cells ops p i) o.op a.op && plainDst k o a) || cellFits k ops aops p i o a
def opsIn (k:Ck) (ops:List Oper) (aops:List AOper) (p:Prec):Nat → List Oper → List AOper → Bool
  | _,[],[]=>true
  | i,o :: r,a :: s=>opFits k ops aops p i o a && guardOk k.cells ops p i o.guard a.guard && pairsOk k.pureF p a i 0 aops && opsIn k ops aops p (i + 1) r s
  | _,_,_=>false
def regionOk (k:Ck) (ops:List Oper) (draw:Bool) (aops:List AOper):Bool :=
  let ms:=if draw then masks ops [] else []
  (!draw || (masksOk ms 0 ops && k.P.follows .mixedOrders && Region.noSelect ops.toArray)) && dstsNodup ops && opsIn k ops aops ⟨draw,ms⟩ 0 ops aops
structure OpIn (k:Ck) (ops:List Oper) (aops:List AOper) (p:Prec) (i:Nat) (o:Oper) (a:AOper):Prop where
  op:opFits k ops aops p i o a = true
  guard:guardOk k.cells ops p i o.guard a.guard = true
  pairs:pairsOk k.pureF p a i 0 aops = true
theorem opsIn_get {k:Ck} {ops aops p}:∀ {r:List Oper} {s:List AOper} {i:Nat},opsIn k ops aops p i r s = true → r.length = s.length ∧ ∀ j o a,r[j]? = some o → s[j]? = some a → OpIn k ops aops p (i + j) o a
  | [],[],_,_=>⟨rfl,fun j o a h=>by simp at h⟩
  | [],_ :: _,_,h=>by simp [opsIn] at h
  | _ :: _,[],_,h=>by simp [opsIn] at h
  | o' :: r,a' :: s,i,h=>by
    simp only [opsIn,Bool.and_eq_true] at h
    obtain ⟨⟨⟨h1,h3⟩,h4⟩,h5⟩:=h
    obtain ⟨e1,e2⟩:=opsIn_get h5
    refine ⟨by simp [e1],fun j o a ho ha=>?_⟩
    cases j with
    | zero=>simp at ho ha; subst ho; subst ha; exact ⟨h1,h3,h4⟩
    | succ j =>
      have:=e2 j o a (by simpa using ho) (by simpa using ha)
      rw [show i + (j + 1) = i + 1 + j by omega]; exact this
theorem laterOk_get {p:Prec} {i t}:∀ {r:List Oper} {j:Nat},laterOk p i t j r = true → ∀ m o,r[m]? = some o → o.dst = some t → j + m = i ∨ p.lt i (j + m) = true
  | [],_,_,m,o,h,_=>by simp at h
  | o' :: r,j,h,m,o,ho,hd=>by
    simp only [laterOk,Bool.and_eq_true] at h
    cases m with
    | zero =>
      simp at ho; subst ho
      rw [hd] at h
      simpa using h.1
    | succ m =>
      have:=laterOk_get h.2 m o (by simpa using ho) hd
      rw [show j + (m + 1) = j + 1 + m by omega]; exact this
theorem pairsOk_get {pureF} {p:Prec} {a:AOper} {i}:∀ {r:List AOper} {j:Nat},pairsOk pureF p a i j r = true → ∀ m b,r[m]? = some b → j + m < i → p.lt (j + m) i = true ∨ clsOf pureF a.op = .p ∨ clsOf pureF b.op = .p ∨ (clsOf pureF a.op = .r ∧ clsOf pureF b.op ≠ .w) ∨ (clsOf pureF b.op = .r ∧ clsOf pureF a.op ≠ .w)
  | [],_,_,m,b,h,_=>by simp at h
  | b' :: r,j,h,m,b,hb,hlt=>by
    simp only [pairsOk,Bool.and_eq_true,Bool.or_eq_true,Bool.not_eq_true'] at h
    cases m with
    | zero =>
      simp at hb; subst hb
      rcases h.1 with (h1 | h1) | h1
      · have:Nat.blt j i = true:=by rw [Nat.blt_eq]; omega
        rw [this] at h1; cases h1
      · exact .inl h1
      · right
        cases ha:clsOf pureF a.op <;> cases hb:clsOf pureF b'.op <;> simp_all
    | succ m =>
      have:=pairsOk_get h.2 m b (by simpa using hb) (by omega)
      rw [show j + (m + 1) = j + 1 + m by omega]; exact this
theorem dstsNodup_get:∀ {ops:List Oper},dstsNodup ops = true → ∀ (i j:Nat) (oi oj:Oper) (t:Tmp),ops[i]? = some oi → ops[j]? = some oj → oi.dst = some t → oj.dst = some t → i = j
  | [],_,i,j,oi,oj,t,h,_,_,_=>by simp at h
  | o :: r,h,i,j,oi,oj,t,hi,hj,di,dj=>by
    simp only [dstsNodup,Bool.and_eq_true] at h
    have key:∀ (m:Nat) (o':Oper),r[m]? = some o' → o.dst = some t → o'.dst = some t → False:=by
      intro m o' hm hd hd'
      rw [hd] at h
      have:=List.all_eq_true.1 h.1 o' (List.mem_of_getElem? hm)
      simp [hd'] at this
    cases i with
    | zero =>
      simp at hi; subst hi
      cases j with
      | zero=>rfl
      | succ j=>exact (key j oj (by simpa using hj) di dj).elim
    | succ i =>
      cases j with
      | zero=>simp at hj; subst hj; exact (key i oi (by simpa using hi) dj di).elim
      | succ j=>rw [dstsNodup_get h.2 i j oi oj t (by simpa using hi) (by simpa using hj) di dj]
theorem slotIs_iff {slots k t} (h:slotIs slots k t = true):slots[k]? = some t:=by
  unfold slotIs at h
  split at h
  · rename_i t' ht; simp at h; subst h; exact ht
  · cases h
theorem dstIs_iff {ops j t} (h:dstIs ops j t = true):∃ o,ops[j]? = some o ∧ o.dst = some t:=by
  unfold dstIs at h
  split at h
  · rename_i o ho
    split at h
    · rename_i t' ht; simp at h; subst h; exact ⟨o,ho,ht⟩
    · cases h
  · cases h
theorem writersOk_get {p:Prec} {i q:Nat} {m:Option Nat}:∀ {r:List AOper} {j:Nat},writersOk p i q m j r = true → ∀ (n:Nat) (a:AOper),r[n]? = some a → a.dst = some q →
    j + n = i ∨ p.lt i (j + n) = true ∨ ∃ m',m = some m' ∧ (j + n = m' ∨ p.lt (j + n) m' = true)
  | [],_,_,n,a,h,_=>by simp at h
  | a' :: r,j,h,n,a,ha,hd=>by
    simp only [writersOk,Bool.and_eq_true] at h
    cases n with
    | zero =>
      simp at ha; subst ha
      have h1:=h.1
      rw [hd] at h1
      simp only [bne_self_eq_false,Bool.false_or,Bool.or_eq_true,beq_iff_eq] at h1
      rcases h1 with (h1 | h1) | h1
      · exact .inl h1
      · exact .inr (.inl h1)
      · cases m with
        | none=>cases h1
        | some m=>simp only [Bool.or_eq_true,beq_iff_eq] at h1; exact .inr (.inr ⟨m,rfl,h1⟩)
    | succ n =>
      have:=writersOk_get h.2 n a (by simpa using ha) hd
      rw [show j + (n + 1) = j + 1 + n by omega]; exact this
theorem writerOk_get {p:Prec} {i q:Nat}:∀ {r:List AOper} {j:Nat},writerOk p i q j r = true → ∀ (n:Nat) (a:AOper),r[n]? = some a → a.dst = some q →
    j + n = i ∨ p.lt i (j + n) = true ∨ p.lt (j + n) i = true
  | [],_,_,n,a,h,_=>by simp at h
  | a' :: r,j,h,n,a,ha,hd=>by
    simp only [writerOk,Bool.and_eq_true] at h
    cases n with
    | zero =>
      simp at ha; subst ha
      have h1:=h.1
      rw [hd] at h1
      simp only [bne_self_eq_false,Bool.false_or,Bool.or_eq_true,beq_iff_eq] at h1
      rcases h1 with (h1 | h1) | h1
      · exact .inl h1
      · exact .inr (.inl h1)
      · exact .inr (.inr h1)
    | succ n =>
      have:=writerOk_get h.2 n a (by simpa using ha) hd
      rw [show j + (n + 1) = j + 1 + n by omega]; exact this
theorem noVia_get {p:Prec} {i t}:∀ {r:List Oper} {j:Nat},noVia p i t j r = true → ∀ (n:Nat) (o:Oper) sty f,r[n]? = some o → o.op = .fieldAddr sty (.tmp t) f → p.lt i (j + n) = true
  | [],_,_,n,o,_,_,h,_=>by simp at h
  | o' :: r,j,h,n,o,sty,f,ho,hop=>by
    simp only [noVia,Bool.and_eq_true] at h
    cases n with
    | zero =>
      simp at ho; subst ho
      have h1:=h.1
      rw [hop] at h1
      simpa using h1
    | succ n =>
      have:=noVia_get h.2 n o sty f (by simpa using ho) hop
      rw [show j + (n + 1) = j + 1 + n by omega]; exact this
theorem cellIs_iff {k:Ck} {q t} (h:k.cellIs q t = true):k.slots.length ≤ q ∧ k.cells[q - k.slots.length]? = some t:=by
  unfold Ck.cellIs at h
  simp only [Bool.and_eq_true] at h
  exact ⟨Nat.le_of_ble_eq_true h.1,slotIs_iff h.2⟩
theorem viaFits_get {k:Ck} {ops:List Oper} {aops:List AOper} {p:Prec} {i:Nat} {g d f off ag sz ty y}:∀ {r:List Oper} {j:Nat},cellFits.viaFits k ops aops p i g d f off ag sz ty y j r = true →
    ∃ (n:Nat) (o:Oper) (sty:TypeId) (t:Tmp) (q:Nat) (b:AOper),r[n]? = some o ∧ o.dst = some d ∧ o.op = .fieldAddr sty (.tmp t) f ∧ k.cellIs q t = true ∧ p.lt (j + n) i = true ∧ fieldOk k.P sty f off ag sz = true ∧
      aggB k.P ty = some ag ∧ sizeB k.P ty = some sz ∧ curOk aops p i q y = true ∧ aops[j + n]? = some b ∧ (b.guard = none ∨ b.guard = g)
  | [],_,h=>by simp [cellFits.viaFits] at h
  | o :: r,j,h=>by
    simp only [cellFits.viaFits] at h
    split at h
    · rename_i hd
      split at h
      · rename_i sty t f' hop
        split at h
        · rename_i q hq
          simp only [Bool.and_eq_true,beq_iff_eq] at h
          obtain ⟨⟨⟨⟨⟨⟨⟨h1,h2⟩,h3⟩,h4⟩,h5⟩,h6⟩,h7⟩,h8⟩:=h
          subst h3
          split at h8
          · rename_i b hb
            simp only [Bool.or_eq_true,beq_iff_eq] at h8
            exact ⟨0,o,sty,t,q,b,rfl,by simpa using hd,hop,h1,h2,h4,h5,h6,h7,hb,h8⟩
          · cases h8
        · cases h
      · cases h
    · obtain ⟨n,o',sty,t,q,b,h1,h2,h3,h4,h5,h6⟩:=viaFits_get h
      refine ⟨n + 1,o',sty,t,q,b,by simpa using h1,h2,h3,h4,?_,?_⟩
      · rw [show j + (n + 1) = j + 1 + n by omega]; exact h5
      · rw [show j + (n + 1) = j + 1 + n by omega]; exact h6
structure VOk (k:Ck) (base ent:Nat) (C:Cx) (H:Heap) (vars:List AV) (a:Act):Prop where
  rel:∀ j t,k.slots[j]? = some t → Rv C (vars.getD j .u) (a.tmps.getD t undef)
  size:a.tmps.size = k.ntmps
  defers:a.defers = []
  len:vars.length = k.slots.length + k.cells.length
  cell:∀ q t,k.cellIs q t = true → CellV base ent C H (vars.getD q .u) (a.tmps.getD t undef)
  dist:∀ q q' t t',k.cellIs q t = true → k.cellIs q' t' = true → q ≠ q' → (vars.getD q .u).known = true → (vars.getD q' .u).known = true → a.tmps.getD t undef ≠ a.tmps.getD t' undef
  be:base ≤ ent
  es:ent ≤ C.w.heap.size
def cur (aops:List AOper) (Lf v0:List AV) (S:Nat → Bool) (q:Nat):Nat → AV
  | 0=>v0.getD q .u
  | i + 1=>if S i = true ∧ (match aops[i]? with | some a=>a.dst == some q | none=>false) = true then Lf.getD i .u else cur aops Lf v0 S q i
theorem cur_none {aops:List AOper} {Lf v0 S q}:∀ n,(∀ j a,j < n → aops[j]? = some a → a.dst = some q → S j = false) → cur aops Lf v0 S q n = v0.getD q .u
  | 0,_=>rfl
  | n + 1,h=>by
    simp only [cur]
    rw [if_neg]
    · exact cur_none n fun j a hj=>h j a (by omega)
    · rintro ⟨h1,h2⟩
      split at h2
      · rename_i a ha
        rw [h n a (by omega) ha (by simpa using h2)] at h1; cases h1
      · cases h2
theorem cur_last {aops:List AOper} {Lf v0 S q m a} (hm:aops[m]? = some a) (hd:a.dst = some q) (hS:S m = true):∀ n,m < n → (∀ j b,m < j → j < n → aops[j]? = some b → b.dst = some q → S j = false) → cur aops Lf v0 S q n = Lf.getD m .u
  | 0,h,_=>by omega
  | n + 1,hmn,h=>by
    simp only [cur]
    by_cases hmn':m = n
    · subst hmn'
      rw [if_pos]
      exact ⟨hS,by rw [hm]; simp [hd]⟩
    · rw [if_neg]
      · exact cur_last hm hd hS n (by omega) fun j b h1 h2=>h j b h1 (by omega)
      · rintro ⟨h1,h2⟩
        split at h2
        · rename_i b hb
          rw [h n b (by omega) (by omega) hb (by simpa using h2)] at h1; cases h1
        · cases h2
theorem cur_other {aops:List AOper} {Lf v0 S q i} (hi:∀ a,aops[i]? = some a → a.dst ≠ some q):∀ n,cur aops Lf v0 (fun j=>j == i || S j) q n = cur aops Lf v0 S q n
  | 0=>rfl
  | n + 1=>by
    simp only [cur]
    rw [cur_other hi n]
    by_cases hn:n = i
    · subst hn
      have:(match aops[n]? with | some a=>a.dst == some q | none=>false) = false:=by
        split
        · rename_i a ha; simpa using hi a ha
        · rfl
      simp [this]
    · have:(n == i) = false:=by simpa using hn
      simp [this]
structure RInv (k:Ck) (base ent:Nat) (C0:Cx) (H0:Heap) (C:Cx) (ops:List Oper) (aops:List AOper) (Lf:List AV) (hs:Nat → St) (S:Nat → Bool) (H:Heap) (a:Act):Prop where
  stp:Step base ent C0 H0 C H
  hinv:∃ m,m ≤ aops.length ∧ H = (hs m).heap ∧ ∀ j b,aops[j]? = some b → (clsOf k.pureF b.op).wr = true → (S j = true ↔ j < m)
  tmp:∀ j o t,S j = true → ops[j]? = some o → o.dst = some t → k.cells.contains t = false → Rv C (Lf.getD j .u) (a.tmps.getD t undef)
  slot:∀ q t,k.slots[q]? = some t → (∀ j o,S j = true → ops[j]? = some o → o.dst ≠ some t) → Rv C ((hs 0).vars.getD q .u) (a.tmps.getD t undef)
  size:a.tmps.size = k.ntmps
  defers:a.defers = []
  cell:∀ q t,k.cellIs q t = true → CellV base ent C H (cur aops Lf (hs 0).vars S q aops.length) (a.tmps.getD t undef)
  dist:∀ q q' t t',k.cellIs q t = true → k.cellIs q' t' = true → q ≠ q' → (cur aops Lf (hs 0).vars S q aops.length).known = true → (cur aops Lf (hs 0).vars S q' aops.length).known = true →
    a.tmps.getD t undef ≠ a.tmps.getD t' undef
  via:∀ j o b sty t f d q,S j = true → ops[j]? = some o → aops[j]? = some b → o.op = .fieldAddr sty (.tmp t) f → o.dst = some d → k.cellIs q t = true → wants (Lf.take j) b.guard = some true →
    ∃ bl fl,a.tmps.getD t undef = .pointer (some ⟨bl,0,none⟩) ∧ fieldB k.P sty f = some fl ∧ a.tmps.getD d undef = .pointer (some ⟨bl,fl.offset,none⟩)
  be:base ≤ ent
  es:ent ≤ C0.w.heap.size
theorem heap_const {k:Ck} {CF:CallF} {aops:List AOper} {Lf:List AV} {hs:Nat → St} (hp:PureC k.pureF CF)
    (tr:∀ i o,aops[i]? = some o → stepAt CF o (Lf.take i) (hs i) (Lf.getD i .u) (hs (i + 1))) (m:Nat) :
    ∀ d,m + d ≤ aops.length → (∀ j b,m ≤ j → j < m + d → aops[j]? = some b → (clsOf k.pureF b.op).wr = false) → (hs (m + d)).heap = (hs m).heap:=by
  intro d
  induction d with
  | zero=>intro _ _; rfl
  | succ d ih =>
    intro hd hw
    have ho:aops[m + d]? = some aops[m + d]:=List.getElem?_eq_getElem (by omega)
    have hne:=hw (m + d) _ (by omega) (by omega) ho
    have hst:=tr (m + d) _ ho
    generalize aops[m + d] = b at hne hst
    rw [← ih (by omega) fun j b h1 h2=>hw j b h1 (by omega)]
    have hsv:∀ s d x,(setVar s d x).heap = s.heap:=fun s d x=>by cases d <;> rfl
    rw [show m + (d + 1) = m + d + 1 by omega]
    rcases hst with ⟨_,s1,a1,a2⟩ | ⟨_,_,a2⟩
    · rw [a2,hsv]
      cases hc:clsOf k.pureF b.op with
      | p=>exact (aop_p hp a1 hc).1
      | r=>exact aop_r a1 hc
      | a=>rw [hc] at hne; cases hne
      | w=>rw [hc] at hne; cases hne
    · rw [a2,hsv]
theorem heap_grow {k:Ck} {CF:CallF} {aops:List AOper} {Lf:List AV} {hs:Nat → St} (hp:PureC k.pureF CF)
    (tr:∀ i o,aops[i]? = some o → stepAt CF o (Lf.take i) (hs i) (Lf.getD i .u) (hs (i + 1))) (m:Nat) :
    ∀ d,m + d ≤ aops.length → (∀ j b,m ≤ j → j < m + d → aops[j]? = some b → clsOf k.pureF b.op ≠ .w) → ∃ obs,(hs (m + d)).heap = (hs m).heap ++ obs:=by
  intro d
  induction d with
  | zero=>intro _ _; exact ⟨[],by simp⟩
  | succ d ih =>
    intro hd hw
    have ho:aops[m + d]? = some aops[m + d]:=List.getElem?_eq_getElem (by omega)
    have hne:=hw (m + d) _ (by omega) (by omega) ho
    have hst:=tr (m + d) _ ho
    generalize aops[m + d] = b at hne hst
    obtain ⟨obs,hobs⟩:=ih (by omega) fun j b h1 h2=>hw j b h1 (by omega)
    have hsv:∀ s d x,(setVar s d x).heap = s.heap:=fun s d x=>by cases d <;> rfl
    rw [show m + (d + 1) = m + d + 1 by omega]
    rcases hst with ⟨_,s1,a1,a2⟩ | ⟨_,_,a2⟩
    · rw [a2,hsv]
      cases hc:clsOf k.pureF b.op with
      | p=>exact ⟨obs,by rw [(aop_p hp a1 hc).1,hobs]⟩
      | r=>exact ⟨obs,by rw [aop_r a1 hc,hobs]⟩
      | a=>obtain ⟨ob,h⟩:=aop_a a1 hc; exact ⟨obs ++ [ob],by rw [h,hobs,List.append_assoc]⟩
      | w=>exact absurd hc hne
    · rw [a2,hsv]; exact ⟨obs,hobs⟩
theorem Rv_under {C:Cx} {n:Nat} (hd:∀ o,n ≤ o → ∀ g,C.β o g = none) {x v} (h:Rv C x v):x.under n = true:=by
  have one:∀ x v,Rv1 C x v → x.under n = true:=by
    rintro x v (rfl | ⟨h,_⟩)
    · rfl
    · exact Rc_under hd _ _ h
  rcases h with h | ⟨l,vs,rfl,_,h⟩
  · exact one x v h
  · simp only [AV.under]
    generalize vs.toList = vl at h
    induction h with
    | nil=>rfl
    | cons a _ ih=>simp only [AV.unders,Bool.and_eq_true]; exact ⟨one _ _ a,ih⟩
theorem opOk_ropd {P ι O op a y} (h:opOk P ι O op a = true) (hy:ropd a = some y):∃ x,O x y = true:=by
  cases a <;> try (cases hy; done)
  case load ag sz z =>
    cases hy
    unfold opOk at h
    split at h <;> first
      | (rename_i e; cases e; simp only [Bool.and_eq_true] at h; exact ⟨_,h.2⟩)
      | (rename_i e; cases e; done)
      | (unfold callOk at h; split at h <;> first | (rename_i e; cases e; done) | cases h)
      | cases h
  case lookup z ok m k =>
    cases hy
    unfold opOk at h
    split at h <;> first
      | (rename_i e; cases e; simp only [Bool.and_eq_true] at h; exact ⟨_,h.1.2⟩)
      | (rename_i e; cases e; done)
      | (unfold callOk at h; split at h <;> first | (rename_i e; cases e; done) | cases h)
      | cases h
  case len kd z =>
    cases hy
    unfold opOk at h
    split at h <;> first
      | (rename_i e; cases e; done)
      | (unfold callOk at h
         split at h <;> first
          | (rename_i e; cases e
             split at h
             · simp only [Bool.and_eq_true] at h; exact ⟨_,h.2⟩
             · cases h)
          | (rename_i e; cases e; done)
          | cases h)
      | cases h
theorem does_wp {P:Program} {o:Oper} {a:Act} {w:World} {R:Value → World → Prop} {next:Act → World → Prop} {Q:Exit → Act → World → Prop} (h:Does P (execOp a.eval o) w R)
    (hn:∀ v w',R v w' → next (a.put o.dst v) w'):o.wp P a w next Q:=by
  unfold Oper.wp
  unfold Does at h
  split at h
  · rename_i e; rw [e]; exact hn _ _ h
  · rename_i e; rw [e]; exact hn _ _ h
  · rename_i e
    rw [e]
    refine Calls.mono h fun e' w' he=>?_
    cases e' with
    | returned v=>exact hn _ _ he
    | panicked _=>exact he.elim
    | outgrown=>exact he.elim
  · exact h.elim
theorem put_getD (a:Act) (d:Option Tmp) (v:Value) (t:Tmp):(a.put d v).tmps.getD t undef = if d = some t ∧ t < a.tmps.size then v else a.tmps.getD t undef:=by
  cases d with
  | none=>simp [Act.put]
  | some d =>
    simp only [Act.put,Option.some.injEq]
    by_cases h:d = t
    · subst h
      by_cases hlt:d < a.tmps.size
      · simp [Array.getD,hlt]
      · simp [Array.getD,hlt]
    · simp [Array.getD_eq_getD_getElem?,h]
theorem put_size (a:Act) (d:Option Tmp) (v:Value):(a.put d v).tmps.size = a.tmps.size:=by cases d <;> simp [Act.put]
theorem put_defers' (a:Act) (d:Option Tmp) (v:Value):(a.put d v).defers = a.defers:=by cases d <;> rfl
def nodupB:List Tmp → Bool
  | []=>true
  | t :: r=>!r.contains t && nodupB r
theorem nodupB_get:∀ {l:List Tmp},nodupB l = true → ∀ (i j:Nat) (t:Tmp),l[i]? = some t → l[j]? = some t → i = j
  | [],_,i,j,t,h,_=>by simp at h
  | x :: r,h,i,j,t,hi,hj=>by
    simp only [nodupB,Bool.and_eq_true,Bool.not_eq_true'] at h
    have key:∀ (m:Nat),r[m]? = some x → False:=fun m hm=>by
      have:=List.mem_of_getElem? hm
      simp [this] at h
    cases i with
    | zero =>
      simp at hi; subst hi
      cases j with
      | zero=>rfl
      | succ j=>exact (key j (by simpa using hj)).elim
    | succ i =>
      cases j with
      | zero=>simp at hj; subst hj; exact (key i (by simpa using hi)).elim
      | succ j=>rw [nodupB_get h.2 i j t (by simpa using hi) (by simpa using hj)]
section
variable {k:Ck} (hnds:nodupB (k.slots ++ k.cells) = true)
include hnds
theorem slot_notCell {q:Nat} {t:Tmp} (h:k.slots[q]? = some t):k.cells.contains t = false:=by
  cases hc:k.cells.contains t with
  | false=>rfl
  | true =>
    obtain ⟨j,hj⟩:=List.getElem?_of_mem (by simpa using hc:t ∈ k.cells)
    have h1:(k.slots ++ k.cells)[q]? = some t:=by rw [List.getElem?_append_left (List.getElem?_eq_some_iff.1 h).1]; exact h
    have h2:(k.slots ++ k.cells)[k.slots.length + j]? = some t:=by rw [List.getElem?_append_right (by omega),Nat.add_sub_cancel_left]; exact hj
    have:=nodupB_get hnds _ _ t h1 h2
    have:=(List.getElem?_eq_some_iff.1 h).1
    omega
theorem slot_inj {q q':Nat} {t:Tmp} (h:k.slots[q]? = some t) (h':k.slots[q']? = some t):q = q':=by
  have h1:(k.slots ++ k.cells)[q]? = some t:=by rw [List.getElem?_append_left (List.getElem?_eq_some_iff.1 h).1]; exact h
  have h2:(k.slots ++ k.cells)[q']? = some t:=by rw [List.getElem?_append_left (List.getElem?_eq_some_iff.1 h').1]; exact h'
  exact nodupB_get hnds _ _ t h1 h2
theorem cell_inj {q q' t} (h:k.cellIs q t = true) (h':k.cellIs q' t = true):q = q':=by
  obtain ⟨a1,a2⟩:=cellIs_iff h
  obtain ⟨b1,b2⟩:=cellIs_iff h'
  have h1:(k.slots ++ k.cells)[q]? = some t:=by rw [List.getElem?_append_right a1]; exact a2
  have h2:(k.slots ++ k.cells)[q']? = some t:=by rw [List.getElem?_append_right b1]; exact b2
  exact nodupB_get hnds _ _ t h1 h2
end
theorem cell_mem {k:Ck} {q t} (h:k.cellIs q t = true):k.cells.contains t = true:=by
  have:=List.mem_of_getElem? (cellIs_iff h).2
  simpa using this
structure PD (k:Ck) (o:Oper) (a:AOper):Prop where
  dst:∀ t,o.dst = some t → k.cells.contains t = false ∧ t < k.ntmps
  adst:∀ q,a.dst = some q → ∃ t,o.dst = some t ∧ k.slots[q]? = some t
  none:∀ t,o.dst = some t → a.dst = none → k.slots.contains t = false
theorem plainDst_pd {k:Ck} (hnds:nodupB (k.slots ++ k.cells) = true) {o a} (h:plainDst k o a = true):PD k o a:=by
  unfold plainDst dstOk at h
  split at h
  · rename_i e1 e2
    exact ⟨fun t ht=>(by rw [e1] at ht; cases ht),fun q hq=>(by rw [e2] at hq; cases hq),fun t ht=>(by rw [e1] at ht; cases ht)⟩
  · rename_i t q e1 e2
    simp only [Bool.and_eq_true,Nat.blt_eq] at h
    have hs:=slotIs_iff h.1
    exact ⟨fun t' ht=>(by rw [e1] at ht; cases ht; exact ⟨slot_notCell hnds hs,h.2⟩),fun q' hq=>(by rw [e2] at hq; cases hq; exact ⟨t,e1,hs⟩),fun t' ht hn=>(by rw [e2] at hn; cases hn)⟩
  · rename_i t e1 e2
    simp only [Bool.and_eq_true,Nat.blt_eq,Bool.not_eq_true'] at h
    exact ⟨fun t' ht=>(by rw [e1] at ht; cases ht; exact ⟨h.1.2,h.2⟩),fun q' hq=>(by rw [e2] at hq; cases hq),fun t' ht _=>(by rw [e1] at ht; cases ht; exact h.1.1)⟩
  · cases h
section
variable {k:Ck} {base ent:Nat} {C0 C C':Cx} {H0 H H':Heap} {ops:List Oper} {aops:List AOper} {Lf:List AV} {hs:Nat → St} {S:Nat → Bool} {a:Act} {i:Nat} {o:Oper} {ao:AOper} {v:Value}
theorem RInv.plain (inv:RInv k base ent C0 H0 C ops aops Lf hs S H a) (ho:ops[i]? = some o) (hao:aops[i]? = some ao) (pd:PD k o ao) (hnd:dstsNodup ops = true)
    (hst:OStep base C H C' H') (hv:Rv C' (Lf.getD i .u) v)
    (hvia:∀ sty t f d q,o.op = .fieldAddr sty (.tmp t) f → o.dst = some d → k.cellIs q t = true → wants (Lf.take i) ao.guard = some true →
      ∃ bl fl,a.tmps.getD t undef = .pointer (some ⟨bl,0,none⟩) ∧ fieldB k.P sty f = some fl ∧ v = .pointer (some ⟨bl,fl.offset,none⟩))
    (hh:∃ m,m ≤ aops.length ∧ H' = (hs m).heap ∧ ∀ j b,aops[j]? = some b → (clsOf k.pureF b.op).wr = true → ((j == i || S j) = true ↔ j < m)) :
    RInv k base ent C0 H0 C' ops aops Lf hs (fun j=>j == i || S j) H' (a.put o.dst v):=by
  have hent:ent ≤ C.w.heap.size:=Nat.le_trans inv.es inv.stp.below.4
  have hcellt:∀ q t,k.cellIs q t = true → (a.put o.dst v).tmps.getD t undef = a.tmps.getD t undef:=by
    intro q t hq
    rw [put_getD,if_neg]
    rintro ⟨e,_⟩
    have:=(pd.dst t e).1
    rw [cell_mem hq] at this; cases this
  have hcur:∀ q t,k.cellIs q t = true → cur aops Lf (hs 0).vars (fun j=>j == i || S j) q aops.length = cur aops Lf (hs 0).vars S q aops.length:=by
    intro q t hq
    refine cur_other (fun a' ha' e=>?_) _
    rw [hao] at ha'; cases ha'
    obtain ⟨t',_,ht'⟩:=pd.adst q e
    have:=(List.getElem?_eq_some_iff.1 ht').1
    have:=(cellIs_iff hq).1
    omega
  refine ⟨inv.stp.trans (hst.ent_le hent),hh,fun j o' t hj ho' hd hnc=>?_,fun q t hq hno=>?_,by rw [put_size]; exact inv.size,by rw [put_defers']; exact inv.defers,fun q t hq=>?_,fun q q' t t' hq hq' hne h1 h2=>?_,fun j o' b sty t f d q hj ho' hb hop hd hq hw=>?_,inv.be,inv.es⟩
  · rw [put_getD]
    by_cases hji:j = i
    · subst hji
      rw [ho] at ho'; cases ho'
      rw [if_pos ⟨hd,by rw [inv.size]; exact (pd.dst t hd).2⟩]; exact hv
    · have hSj:S j = true:=by simpa [hji] using hj
      have hne:o.dst ≠ some t:=fun e=>hji (dstsNodup_get hnd j i o' o t ho' ho hd e)
      rw [if_neg (fun e=>hne e.1)]
      exact Rv_le hst.le (inv.tmp j o' t hSj ho' hd hnc)
  · rw [put_getD]
    have hne:o.dst ≠ some t:=hno i o (by simp) ho
    rw [if_neg (fun e=>hne e.1)]
    exact Rv_le hst.le (inv.slot q t hq fun j o' hj=>hno j o' (by simp [hj]))
  · rw [hcellt q t hq,hcur q t hq]
    exact (inv.cell q t hq).step hst
  · rw [hcellt q t hq,hcellt q' t' hq']
    rw [hcur q t hq] at h1
    rw [hcur q' t' hq'] at h2
    exact inv.dist q q' t t' hq hq' hne h1 h2
  · rw [hcellt q t hq]
    by_cases hji:j = i
    · subst hji
      rw [ho] at ho'; cases ho'
      rw [hao] at hb; cases hb
      rw [put_getD,if_pos ⟨hd,by rw [inv.size]; exact (pd.dst d hd).2⟩]
      exact hvia sty t f d q hop hd hq hw
    · have hSj:S j = true:=by simpa [hji] using hj
      have hne:o.dst ≠ some d:=fun e=>hji (dstsNodup_get hnd j i o' o d ho' ho hd e)
      rw [put_getD,if_neg (fun e=>hne e.1)]
      exact inv.via j o' b sty t f d q hSj ho' hb hop hd hq hw
theorem RInv.wrote (inv:RInv k base ent C0 H0 C ops aops Lf hs S H a) (hnds:nodupB (k.slots ++ k.cells) = true) (ho:ops[i]? = some o) (hao:aops[i]? = some ao) {q:Nat} {t:Tmp} (hq:k.cellIs q t = true) (hadst:ao.dst = some q)
    (hodst:o.dst = some t ∨ o.dst = none) (hlt:o.dst = some t → t < k.ntmps) (hnd:dstsNodup ops = true) (hnf:∀ sty x f,o.op ≠ .fieldAddr sty x f)
    (hlater:∀ j b,j < aops.length → i < j → aops[j]? = some b → b.dst = some q → S j = false)
    (hst:Step base ent C H C' H) (hv:CellV base ent C' H (Lf.getD i .u) ((a.put o.dst v).tmps.getD t undef))
    (hoth:∀ q' t',k.cellIs q' t' = true → q' ≠ q → CellV base ent C' H (cur aops Lf (hs 0).vars S q' aops.length) (a.tmps.getD t' undef))
    (hdist:(Lf.getD i .u).known = true → ∀ q' t',k.cellIs q' t' = true → q' ≠ q → (cur aops Lf (hs 0).vars S q' aops.length).known = true → a.tmps.getD t' undef ≠ (a.put o.dst v).tmps.getD t undef)
    (hnovia:o.dst = some t → ∀ j o' sty f,ops[j]? = some o' → o'.op = .fieldAddr sty (.tmp t) f → S j = false)
    (hh:∃ m,m ≤ aops.length ∧ H = (hs m).heap ∧ ∀ j b,aops[j]? = some b → (clsOf k.pureF b.op).wr = true → ((j == i || S j) = true ↔ j < m)) :
    RInv k base ent C0 H0 C' ops aops Lf hs (fun j=>j == i || S j) H (a.put o.dst v):=by
  have hil:i < aops.length:=(List.getElem?_eq_some_iff.1 hao).1
  have hput:∀ t',t' ≠ t → (a.put o.dst v).tmps.getD t' undef = a.tmps.getD t' undef:=by
    intro t' hne
    rw [put_getD,if_neg]
    rintro ⟨e,_⟩
    rcases hodst with h | h
    · rw [h] at e; cases e; exact hne rfl
    · rw [h] at e; cases e
  have htne:∀ t',k.cells.contains t' = false → t' ≠ t:=fun t' h e=>by rw [e,cell_mem hq] at h; cases h
  have hcq:cur aops Lf (hs 0).vars (fun j=>j == i || S j) q aops.length = Lf.getD i .u:=by
    refine cur_last hao hadst (by simp) _ hil fun j b h1 h2 hb hd=>?_
    have h3:=hlater j b h2 h1 hb hd
    have:(j == i) = false:=by simp; omega
    simp only [this,Bool.false_or]; exact h3
  have hcur:∀ q',q' ≠ q → cur aops Lf (hs 0).vars (fun j=>j == i || S j) q' aops.length = cur aops Lf (hs 0).vars S q' aops.length:=by
    intro q' hne
    refine cur_other (fun a' ha' e=>?_) _
    rw [hao] at ha'; cases ha'
    rw [hadst] at e; cases e; exact hne rfl
  have hqt:∀ q' t',k.cellIs q' t' = true → q' ≠ q → t' ≠ t:=fun q' t' h hne e=>hne (cell_inj hnds (e ▸ h) hq)
  refine ⟨inv.stp.trans hst,hh,fun j o' t' hj ho' hd hnc=>?_,fun q' t' hq' hno=>?_,by rw [put_size]; exact inv.size,by rw [put_defers']; exact inv.defers,fun q' t' hq'=>?_,fun q1 q2 t1 t2 h1 h2 hne k1 k2=>?_,fun j o' b sty t' f d q' hj ho' hb hop hd hq' hw=>?_,inv.be,inv.es⟩
  · rw [hput t' (htne t' hnc)]
    by_cases hji:j = i
    · subst hji
      rw [ho] at ho'; cases ho'
      rcases hodst with h | h
      · rw [h] at hd; cases hd; exact absurd rfl (htne t hnc)
      · rw [h] at hd; cases hd
    · have hSj:S j = true:=by simpa [hji] using hj
      exact Rv_le hst.le (inv.tmp j o' t' hSj ho' hd hnc)
  · rw [hput t' (htne t' (slot_notCell hnds hq'))]
    exact Rv_le hst.le (inv.slot q' t' hq' fun j o' hj=>hno j o' (by simp [hj]))
  · by_cases hqq:q' = q
    · subst hqq
      have:t' = t:=by
        have:=(cellIs_iff hq').2.symm.trans (cellIs_iff hq).2
        cases this; rfl
      subst this
      rw [hcq]; exact hv
    · rw [hput t' (hqt q' t' hq' hqq),hcur q' hqq]
      exact hoth q' t' hq' hqq
  · have tq:∀ q' t',k.cellIs q' t' = true → q' = q → t' = t:=fun q' t' h e=>by
      subst e
      have:=(cellIs_iff h).2.symm.trans (cellIs_iff hq).2
      cases this; rfl
    by_cases e1:q1 = q
    · have e2:q2 ≠ q:=fun e=>hne (e1.trans e.symm)
      rw [tq q1 t1 h1 e1,hput t2 (hqt q2 t2 h2 e2)]
      rw [hcur q2 e2] at k2
      rw [e1,hcq] at k1
      exact fun e=>hdist k1 q2 t2 h2 e2 k2 e.symm
    · by_cases e2:q2 = q
      · rw [tq q2 t2 h2 e2,hput t1 (hqt q1 t1 h1 e1)]
        rw [hcur q1 e1] at k1
        rw [e2,hcq] at k2
        exact hdist k2 q1 t1 h1 e1 k1
      · rw [hput t1 (hqt q1 t1 h1 e1),hput t2 (hqt q2 t2 h2 e2)]
        rw [hcur q1 e1] at k1
        rw [hcur q2 e2] at k2
        exact inv.dist q1 q2 t1 t2 h1 h2 hne k1 k2
  · by_cases hji:j = i
    · subst hji
      rw [ho] at ho'; cases ho'
      exact absurd hop (hnf _ _ _)
    · have hSj:S j = true:=by simpa [hji] using hj
      obtain ⟨bl,fl,g1,g2,g3⟩:=inv.via j o' b sty t' f d q' hSj ho' hb hop hd hq' hw
      have hdn:o.dst ≠ some d:=fun e=>hji (dstsNodup_get hnd j i o' o d ho' ho hd e)
      refine ⟨bl,fl,?_,g2,?_⟩
      · rw [put_getD,if_neg]
        · exact g1
        · rintro ⟨e,_⟩
          rcases hodst with h | h
          · rw [h] at e; cases e
            rw [hnovia h j o' sty f ho' hop] at hSj; cases hSj
          · rw [h] at e; cases e
      · rw [put_getD,if_neg (fun e=>hdn e.1)]; exact g3
end
end Tor
namespace Tor
open Go Go.RowKit
theorem opFits_cases {k:Ck} {ops aops p i o a} (h:opFits k ops aops p i o a = true):(opOk k.P k.ι (opdIn k.ι k.slots k.cells ops p i) o.op a.op = true ∧ plainDst k o a = true) ∨ cellFits k ops aops p i o a = true:=by
  unfold opFits at h
  simp only [Bool.or_eq_true,Bool.and_eq_true] at h
  exact h
theorem slotDst {k:Ck} (hnds:nodupB (k.slots ++ k.cells) = true) {ops aops p i o a} (h:opFits k ops aops p i o a = true) {q:Nat} (hd:a.dst = some q) (hq:q < k.slots.length):∃ t,o.dst = some t ∧ k.slots[q]? = some t:=by
  rcases opFits_cases h with ⟨_,h⟩ | h
  · exact (plainDst_pd hnds h).adst q hd
  · unfold cellFits at h
    split at h
    · split at h
      · rename_i q' _ e
        rw [hd] at e; cases e
        simp only [Bool.and_eq_true] at h
        have:=(cellIs_iff h.1.1.1.1).1
        omega
      · cases h
    · split at h
      · rename_i q' _ e
        rw [hd] at e; cases e
        simp only [Bool.and_eq_true] at h
        have:=(cellIs_iff h.1.1.1.1).1
        omega
      · cases h
    · split at h
      · rename_i q' _ e
        rw [hd] at e; cases e
        simp only [Bool.and_eq_true] at h
        have:=(cellIs_iff h.1.1.1.1).1
        omega
      · cases h
    · split at h
      · simp only [Bool.and_eq_true] at h; exact (plainDst_pd hnds h.2).adst q hd
      · cases h
    · split at h
      · simp only [Bool.and_eq_true] at h; exact (plainDst_pd hnds h.1.2).adst q hd
      · cases h
    · simp only [Bool.and_eq_true] at h; exact (plainDst_pd hnds h.2).adst q hd
    · cases h
theorem dstLt {k:Ck} (hnds:nodupB (k.slots ++ k.cells) = true) {ops aops p i o a} (h:opFits k ops aops p i o a = true) {t:Tmp} (hd:o.dst = some t):t < k.ntmps:=by
  rcases opFits_cases h with ⟨_,h⟩ | h
  · exact ((plainDst_pd hnds h).dst t hd).2
  · unfold cellFits at h
    split at h
    · split at h
      · rename_i t' q' e1 e2
        rw [hd] at e1; cases e1
        simp only [Bool.and_eq_true,Nat.blt_eq] at h
        exact h.1.1.1.2
      · cases h
    · split at h
      · rename_i t' q' e1 e2
        rw [hd] at e1; cases e1
        simp only [Bool.and_eq_true,Nat.blt_eq] at h
        exact h.1.1.1.2
      · cases h
    · split at h
      · rename_i e1 _
        rw [hd] at e1; cases e1
      · cases h
    · split at h
      · simp only [Bool.and_eq_true] at h; exact ((plainDst_pd hnds h.2).dst t hd).2
      · cases h
    · split at h
      · simp only [Bool.and_eq_true] at h; exact ((plainDst_pd hnds h.1.2).dst t hd).2
      · cases h
    · simp only [Bool.and_eq_true] at h; exact ((plainDst_pd hnds h.2).dst t hd).2
    · cases h
theorem opOk_notCell {k:Ck} (hnds:nodupB (k.slots ++ k.cells) = true) {ops p i sty t f a q} (h:opOk k.P k.ι (opdIn k.ι k.slots k.cells ops p i) (.fieldAddr sty (.tmp t) f) a = true) (hq:k.cellIs q t = true):False:=by
  have hO:∀ y,opdIn k.ι k.slots k.cells ops p i (.tmp t) y = true → False:=by
    intro y hy
    unfold opdIn at hy
    split at hy
    · rename_i t' j e
      cases e
      simp only [Bool.and_eq_true,Bool.not_eq_true'] at hy
      rw [cell_mem hq] at hy; cases hy.2
    · rename_i t' j e
      cases e
      simp only [Bool.and_eq_true] at hy
      have:=slot_notCell hnds (slotIs_iff hy.1)
      rw [cell_mem hq] at this; cases this
    · rename_i e; cases e
    · rename_i e; cases e
    · cases hy
  cases a <;> simp only [opOk,Bool.and_eq_true] at h <;> first | exact hO _ h.2 | (cases h; done) | skip
theorem region_step {k:Ck} {CF:CallF} {base ent:Nat} {C0 C:Cx} {H0:Heap} {ops:List Oper} {aops:List AOper} {Lf:List AV} {hs:Nat → St} {S:Nat → Bool} {H:Heap} {a:Act} {p:Prec} {i:Nat}
    {K:Act → World → Prop} {Q:Exit → Act → World → Prop}
    (hC:SoundC k.P k.ι CF) (hp:PureC k.pureF CF) (hι:C0.ι = k.ι) (hlen:ops.length = aops.length)
    (tr:∀ i o,aops[i]? = some o → stepAt CF o (Lf.take i) (hs i) (Lf.getD i .u) (hs (i + 1)))
    (hin:∀ i o a,ops[i]? = some o → aops[i]? = some a → OpIn k ops aops p i o a) (hnd:dstsNodup ops = true) (hnds:nodupB (k.slots ++ k.cells) = true)
    (inv:RInv k base ent C0 H0 C ops aops Lf hs S H a) (hi:i < ops.length) (hSi:S i = false)
    (hpre:∀ j,p.lt j i = true → S j = true ∧ j < i) (hpost:∀ j,S j = true → j < ops.length → ∀ j',p.lt j' j = true → S j' = true ∧ j' < j) (hltp:∀ j,j < ops.length → ∀ j',p.lt j' j = true → j' < j)
    (hK:∀ a' C' H',RInv k base ent C0 H0 C' ops aops Lf hs (fun j=>j == i || S j) H' a' → K a' C'.w):wpOp k.P ops.toArray Q i K a C.w:=by
  have ho:ops[i]? = some ops[i]:=List.getElem?_eq_getElem hi
  have hao:aops[i]? = some aops[i]:=List.getElem?_eq_getElem (by omega)
  generalize ops[i] = o at ho
  generalize aops[i] = ao at hao
  have hop:=hin i o ao ho hao
  have htr:=tr i ao hao
  have hιC:C.ι = k.ι:=inv.stp.le.ι.trans hι
  -- the heap
  obtain ⟨m,hm1,hm2,hm3⟩:=inv.hinv
  have hbefore:∀ (j:Nat) (b:AOper),aops[j]? = some b → (clsOf k.pureF b.op = .w ∧ clsOf k.pureF ao.op ≠ .p) ∨ ((clsOf k.pureF b.op).wr = true ∧ (clsOf k.pureF ao.op).wr = true) → j < i → S j = true:=by
    intro j b hb hw hji
    have hlt:p.lt j i = true:=by
      have:=pairsOk_get hop.pairs j b hb (by omega)
      rw [Nat.zero_add] at this
      rcases this with h | h
      · exact h
      · exfalso
        cases hcb:clsOf k.pureF b.op <;> cases hca:clsOf k.pureF ao.op <;> rw [hcb,hca] at hw h <;> simp [Cls.wr] at hw h
    exact (hpre j hlt).1
  have hafter:∀ (j:Nat) (b:AOper),aops[j]? = some b → (clsOf k.pureF b.op = .w ∧ clsOf k.pureF ao.op ≠ .p) ∨ ((clsOf k.pureF b.op).wr = true ∧ (clsOf k.pureF ao.op).wr = true) → i ≤ j → S j = false:=by
    intro j b hb hw hij
    have hjl:j < ops.length:=by rw [hlen]; exact (List.getElem?_eq_some_iff.1 hb).1
    cases hS:S j with
    | false=>rfl
    | true =>
      by_cases hji:j = i
      · subst hji; rw [hSi] at hS; cases hS
      · have hoj:ops[j]? = some ops[j]:=List.getElem?_eq_getElem hjl
        have hlt:p.lt i j = true:=by
          have:=pairsOk_get (hin j _ b hoj hb).pairs i ao hao (by omega)
          rw [Nat.zero_add] at this
          rcases this with h | h
          · exact h
          · exfalso
            cases hcb:clsOf k.pureF b.op <;> cases hca:clsOf k.pureF ao.op <;> rw [hcb,hca] at hw h <;> simp [Cls.wr] at hw h
        have:=(hpost j hS hjl i hlt).1
        rw [hSi] at this; cases this
  have hheap:(clsOf k.pureF ao.op).wr = true → H = (hs i).heap:=by
    intro hna
    rw [hm2]
    rcases Nat.le_total m i with h | h
    · have:=heap_const hp tr m (i - m) (by omega) fun j b h1 h2 hb=>by
        cases hw:(clsOf k.pureF b.op).wr with
        | false=>rfl
        | true =>
          have h3:=(hm3 j b hb hw).1 (hbefore j b hb (.inr ⟨hw,hna⟩) (by omega))
          omega
      rw [show m + (i - m) = i by omega] at this
      exact this.symm
    · have:=heap_const hp tr i (m - i) (by omega) fun j b h1 h2 hb=>by
        cases hw:(clsOf k.pureF b.op).wr with
        | false=>rfl
        | true =>
          have h3:=(hm3 j b hb hw).2 (by omega)
          rw [hafter j b hb (.inr ⟨hw,hna⟩) h1] at h3; cases h3
      rw [show i + (m - i) = m by omega] at this
      exact this
  have hagree:clsOf k.pureF ao.op ≠ .p → ∀ o,o < H.length → o < (hs i).heap.length → H[o]? = (hs i).heap[o]?:=by
    intro hna o' h1 h2
    have hww:∀ c:Cls,c = .w → c.wr = true:=fun c h=>by rw [h]; rfl
    rcases Nat.le_total m i with h | h
    · obtain ⟨obs,this⟩:=heap_grow hp tr m (i - m) (by omega) fun j b h1 h2 hb hw=>by
        have h3:=(hm3 j b hb (hww _ hw)).1 (hbefore j b hb (.inl ⟨hw,hna⟩) (by omega))
        omega
      rw [show m + (i - m) = i by omega] at this
      rw [this,← hm2,List.getElem?_append_left h1]
    · obtain ⟨obs,this⟩:=heap_grow hp tr i (m - i) (by omega) fun j b h1 h2 hb hw=>by
        have h3:=(hm3 j b hb (hww _ hw)).2 (by omega)
        rw [hafter j b hb (.inl ⟨hw,hna⟩) h1] at h3; cases h3
      rw [show i + (m - i) = m by omega] at this
      rw [hm2,this,List.getElem?_append_left h2]
  -- operands
  have hO:∀ x y,opdIn k.ι k.slots k.cells ops p i x y = true → Rv C (ev (Lf.take i) (hs i).vars y) (a.eval x):=by
    intro x y h
    unfold opdIn at h
    split at h
    · rename_i t j
      simp only [Bool.and_eq_true,Bool.not_eq_true'] at h
      obtain ⟨⟨h1,h2⟩,h3⟩:=h
      obtain ⟨oj,hoj,hdj⟩:=dstIs_iff h1
      obtain ⟨hSj,hji⟩:=hpre j h2
      simp only [ev,Act.eval]
      have:(Lf.take i).getD j .u = Lf.getD j .u:=by simp [List.getD,hji]
      rw [this]
      exact inv.tmp j oj t hSj hoj hdj h3
    · rename_i t q
      simp only [Bool.and_eq_true] at h
      have hq:=slotIs_iff h.1
      have hl:=laterOk_get h.2
      simp only [ev,Act.eval]
      -- no operation before this one gives the slot
      have hnone:∀ j o',j < ops.length → ops[j]? = some o' → o'.dst = some t → j = i ∨ p.lt i j = true:=fun j o' _ h1 h2=>by
        have:=hl j o' h1 h2; rwa [Nat.zero_add] at this
      have hv:=(trace_vars tr q i (by omega)).2.1 fun j ao' hji hao' hd=>by
        have hjl:j < ops.length:=by omega
        have hoj:ops[j]? = some ops[j]:=List.getElem?_eq_getElem hjl
        obtain ⟨t',hdo,hqt⟩:=slotDst hnds (hin j _ ao' hoj hao').op hd (List.getElem?_eq_some_iff.1 hq).1
        rw [hq] at hqt; cases hqt
        rcases hnone j _ hjl hoj hdo with h | h
        · omega
        · have:=hltp j hjl i h; omega
      rw [hv]
      refine inv.slot q t hq fun j o' hSj ho' hd=>?_
      have hjl:j < ops.length:=(List.getElem?_eq_some_iff.1 ho').1
      rcases hnone j o' hjl ho' hd with h | h
      · subst h; rw [hSi] at hSj; cases hSj
      · have:=(hpost j hSj hjl i h).1
        rw [hSi] at this; cases this
    · exact constOk_ok h C
    · rename_i f g
      simp only [beq_iff_eq] at h
      subst h
      simp only [ev,Act.eval]
      refine Rv_one ?_ rfl rfl
      simp only [Rc]
      exact ⟨fun x hx=>(by cases hx),#[],by rw [hιC],rfl⟩
    · cases h
  have hHsame:∀ (S':Nat → Bool),S' = (fun j=>j == i || S j) → (clsOf k.pureF ao.op).wr = false → ∃ m,m ≤ aops.length ∧ H = (hs m).heap ∧ ∀ j b,aops[j]? = some b → (clsOf k.pureF b.op).wr = true → (S' j = true ↔ j < m):=by
    rintro _ rfl hnw
    refine ⟨m,hm1,hm2,fun j b hb hw=>?_⟩
    have:j ≠ i:=by rintro rfl; rw [hao] at hb; cases hb; rw [hnw] at hw; cases hw
    simp only [Bool.or_eq_true,beq_iff_eq,this,false_or]
    exact hm3 j b hb hw
  have ho':ops.toArray[i]? = some o:=by simpa using ho
  have hguard:wants (Lf.take i) ao.guard = some (Region.wanted o (yielded ops.toArray a.tmps)) ∨ wants (Lf.take i) ao.guard = none:=by
    have hg:=hop.guard
    cases hgo:o.guard with
    | none =>
      rw [hgo] at hg
      cases hga:ao.guard with
      | none=>left; simp [wants,Region.wanted,hgo]
      | some q=>rw [hga] at hg; simp [guardOk] at hg
    | some q =>
      obtain ⟨j,b⟩:=q
      rw [hgo] at hg
      cases hga:ao.guard with
      | none=>rw [hga] at hg; simp [guardOk] at hg
      | some q' =>
        obtain ⟨j',b'⟩:=q'
        rw [hga] at hg
        simp only [guardOk,Bool.and_eq_true,beq_iff_eq] at hg
        obtain ⟨⟨⟨rfl,rfl⟩,h3⟩,h4⟩:=hg
        obtain ⟨hSj,hji⟩:=hpre j h3
        split at h4
        · rename_i oj hoj
          split at h4
          case h_2=>cases h4
          rename_i t ht
          simp only [Bool.and_eq_true,Bool.not_eq_true'] at h4
          have hnc:=h4.1
          have hr:=inv.tmp j oj t hSj hoj ht hnc
          have hget:(Lf.take i).getD j .u = Lf.getD j .u:=by simp [List.getD,hji]
          simp only [wants,hget]
          have hjl:j < ops.length:=by omega
          have haj:aops[j]? = some aops[j]:=List.getElem?_eq_getElem (by omega)
          have htl:t < a.tmps.size:=by
            rw [inv.size]; exact dstLt hnds (hin j oj _ hoj haj).op ht
          have hy:∀ v,a.tmps.getD t undef = v → (ops.toArray[j]?.bind (·.dst)).bind (a.tmps[·]?) = some v:=by
            intro v hv
            have:ops.toArray[j]? = some oj:=by simpa using hoj
            rw [this]
            simp only [Option.bind_some,ht]
            rw [← hv]
            simp [Array.getD,htl]
          generalize Lf.getD j .u = X at hr
          cases X with
          | bool c =>
            left
            have:=hy _ (Rv_bool hr)
            simp only [wantsK,Region.wanted,hgo,yielded,this]
            congr 1
          | tup l =>
            cases l with
            | nil =>
              left
              obtain ⟨vs,e1,e2⟩:=Rv_tup hr
              have:=hy _ e1
              simp only [wantsK,Region.wanted,hgo,yielded,this]
              rfl
            | cons _ _=>right; rfl
          | _=>right; rfl
        · cases h4
  have hent:ent ≤ C.w.heap.size:=Nat.le_trans inv.es inv.stp.below.4
  have hnot:∀ j,j < aops.length → p.lt i j = true → S j = false:=by
    intro j hj hlt
    cases hSj:S j with
    | false=>rfl
    | true =>
      have:=(hpost j hSj (by omega) i hlt).1
      rw [hSi] at this; cases this
  have hgt:∀ j,j < aops.length → p.lt i j = true → i < j:=fun j hj hlt=>hltp j (by omega) i hlt
  -- what a cell holds
  have hcur:∀ q y,curOk aops p i q y = true → ev (Lf.take i) (hs i).vars y = cur aops Lf (hs 0).vars S q aops.length:=by
    intro q y h
    unfold curOk at h
    split at h
    · rename_i q'
      simp only [Bool.and_eq_true,beq_iff_eq] at h
      obtain ⟨rfl,h⟩:=h
      have hw:=writersOk_get h
      simp only [ev]
      rw [(trace_vars tr q' i (by omega)).2.1,cur_none]
      · intro j b hj hb hd
        rcases hw j b hb hd with h | h | ⟨m',h,_⟩
        · have:j = i:=by omega
          subst this; exact hSi
        · rw [Nat.zero_add] at h; exact hnot j hj h
        · cases h
      · intro j b hj hb hd
        rcases hw j b hb hd with h | h | ⟨m',h,_⟩
        · omega
        · rw [Nat.zero_add] at h; have:=hgt j (by omega) h; omega
        · cases h
    · rename_i m
      simp only [Bool.and_eq_true] at h
      obtain ⟨⟨h1,h2⟩,h3⟩:=h
      have hw:=writersOk_get h3
      obtain ⟨hSm,hmi⟩:=hpre m h2
      split at h1
      · rename_i b hb
        simp only [beq_iff_eq] at h1
        simp only [ev]
        have:(Lf.take i).getD m .u = Lf.getD m .u:=by simp [List.getD,hmi]
        rw [this,cur_last hb h1 hSm _ (by omega)]
        intro j c hmj hj hc hd
        rcases hw j c hc hd with h | h | ⟨m',h,h'⟩
        · have:j = i:=by omega
          subst this; exact hSi
        · rw [Nat.zero_add] at h; exact hnot j hj h
        · cases h
          rw [Nat.zero_add] at h'
          rcases h' with h' | h'
          · omega
          · have:=hltp m (by omega) j h'; omega
      · cases h1
    · cases h
  have hwriter:∀ q,writerOk p i q 0 aops = true → ∀ j b,j < aops.length → i < j → aops[j]? = some b → b.dst = some q → S j = false:=by
    intro q h j b hj hij hb hd
    rcases writerOk_get h j b hb hd with h | h | h
    · omega
    · rw [Nat.zero_add] at h; exact hnot j hj h
    · rw [Nat.zero_add] at h; have:=(hpre j h).2; omega
  have hviaNo:∀ t,noVia p i t 0 ops = true → ∀ j o' sty f,ops[j]? = some o' → o'.op = .fieldAddr sty (.tmp t) f → S j = false:=by
    intro t h j o' sty f ho' hop'
    have:=noVia_get h j o' sty f ho' hop'
    rw [Nat.zero_add] at this
    exact hnot j (by have:=(List.getElem?_eq_some_iff.1 ho').1; omega) this
  unfold wpOp
  rw [ho']
  simp only
  rcases opFits_cases hop.op with ⟨hfit,hpd⟩ | hfit
  · -- an ordinary operation
    have pd:=plainDst_pd hnds hpd
    have hvia:∀ v sty t f d q,o.op = .fieldAddr sty (.tmp t) f → o.dst = some d → k.cellIs q t = true → wants (Lf.take i) ao.guard = some true →
        ∃ bl fl,a.tmps.getD t undef = .pointer (some ⟨bl,0,none⟩) ∧ fieldB k.P sty f = some fl ∧ v = Value.pointer (some ⟨bl,fl.offset,none⟩):=by
      intro v sty t f d q h1 _ h3 _
      rw [h1] at hfit
      exact (opOk_notCell hnds hfit h3).elim
    rcases htr with ⟨hw,s1,h1,h2⟩ | ⟨hw,hx,h2⟩
    · have hwt:Region.wanted o (yielded ops.toArray a.tmps) = true:=by
        rcases hguard with h | h
        · rw [hw] at h; exact (Option.some.inj h).symm
        · rw [hw] at h; cases h
      rw [if_pos hwt]
      left
      have hsv:(hs (i + 1)).heap = s1.heap:=by rw [h2]; cases ao.dst <;> rfl
      have hset:(clsOf k.pureF ao.op).wr = true → ∀ j b,aops[j]? = some b → (clsOf k.pureF b.op).wr = true → ((j == i || S j) = true ↔ j < i + 1):=by
        intro hna j b hb hwj
        constructor
        · intro h
          by_cases hji:j = i
          · omega
          · have hSj:S j = true:=by simpa [hji] using h
            by_cases hlt:i ≤ j
            · rw [hafter j b hb (.inr ⟨hwj,hna⟩) hlt] at hSj; cases hSj
            · omega
        · intro h
          by_cases hji:j = i
          · simp [hji]
          · simp [hbefore j b hb (.inr ⟨hwj,hna⟩) (by omega)]
      cases hwr:(clsOf k.pureF ao.op).wr with
      | false =>
        have hat:aop CF (Lf.take i) { hs i with heap:=H } ao.op = some (Lf.getD i .u,{ s1 with heap:=H }):=by
          cases hc:clsOf k.pureF ao.op with
          | p=>exact (aop_p hp h1 hc).2 H
          | r =>
            refine aop_r2 h1 hc (hagree (by rw [hc]; exact fun e=>by cases e)) fun y hy=>?_
            obtain ⟨x,hx⟩:=opOk_ropd hfit hy
            exact Rv_under inv.stp.sim.dom (hO x y hx)
          | a=>rw [hc] at hwr; cases hwr
          | w=>rw [hc] at hwr; cases hwr
        have hd:=(op_ok (st:={ hs i with heap:=H }) hC hιC inv.stp.sim hO hfit hat).1
        refine does_wp hd fun v w' ⟨C',hw',hst,hv⟩=>?_
        subst hw'
        exact hK _ _ _ (inv.plain ho hao pd hnd hst hv (hvia v) (hHsame _ rfl hwr))
      | true =>
        have hH:=hheap hwr
        have hd:=(op_ok hC hιC (hH ▸ inv.stp.sim) hO hfit h1).1
        rw [← hsv,← hH] at hd
        refine does_wp hd fun v w' ⟨C',hw',hst,hv⟩=>?_
        subst hw'
        exact hK _ _ _ (inv.plain ho hao pd hnd hst hv (hvia v) ⟨i + 1,by omega,rfl,hset hwr⟩)
    · have hwf:Region.wanted o (yielded ops.toArray a.tmps) = false:=by
        rcases hguard with h | h
        · rw [hw] at h; exact (Option.some.inj h).symm
        · rw [hw] at h; cases h
      rw [hwf]
      simp only [Bool.false_eq_true,if_false]
      have hsv:(hs (i + 1)).heap = (hs i).heap:=by rw [h2]; cases ao.dst <;> rfl
      refine hK _ _ _ (inv.plain ho hao pd hnd (Step.refl inv.stp.sim) (by rw [hx]; exact nothing_ok C) (hvia _) ?_)
      cases hwr:(clsOf k.pureF ao.op).wr with
      | true =>
        refine ⟨i + 1,by omega,by rw [hsv]; exact hheap hwr,fun j b hb hwj=>?_⟩
        constructor
        · intro h
          by_cases hji:j = i
          · omega
          · have hSj:S j = true:=by simpa [hji] using h
            by_cases hlt:i ≤ j
            · rw [hafter j b hb (.inr ⟨hwj,hwr⟩) hlt] at hSj; cases hSj
            · omega
        · intro h
          by_cases hji:j = i
          · simp [hji]
          · simp [hbefore j b hb (.inr ⟨hwj,hwr⟩) (by omega)]
      | false=>exact hHsame _ rfl hwr
  · -- an operation on a cell
    have hwr:(clsOf k.pureF ao.op).wr = false:=by
      unfold cellFits at hfit
      split at hfit <;> first | (rename_i e1 e2; rw [e2]; rfl) | cases hfit
    have hhs:=hHsame _ rfl hwr
    have hunw:∀ (pd:PD k o ao),wants (Lf.take i) ao.guard = some false → Lf.getD i .u = nothing → Region.wanted o (yielded ops.toArray a.tmps) = false → K (a.put o.dst undef) C.w:=by
      intro pd hw hx hwf
      exact hK _ _ _ (inv.plain ho hao pd hnd (Step.refl inv.stp.sim) (by rw [hx]; exact nothing_ok C) (fun _ _ _ _ _ _ _ _ h=>by rw [hw] at h; cases h) hhs)
    have hwant:∀ b,wants (Lf.take i) ao.guard = some b → Region.wanted o (yielded ops.toArray a.tmps) = b:=by
      intro b hw
      rcases hguard with h | h
      · rw [hw] at h; exact (Option.some.inj h).symm
      · rw [hw] at h; cases h
    unfold cellFits at hfit
    split at hfit
    · -- a new variable
      rename_i ty z eo ea
      split at hfit
      · rename_i t q ed eq
        simp only [Bool.and_eq_true,Nat.blt_eq] at hfit
        obtain ⟨⟨⟨⟨h1,h2⟩,h3⟩,h4⟩,h5⟩:=hfit
        have htl:t < a.tmps.size:=by rw [inv.size]; exact h2
        have hnf:∀ sty x f,o.op ≠ .fieldAddr sty x f:=fun _ _ _ e=>by rw [eo] at e; cases e
        rcases htr with ⟨hw,s1,g1,g2⟩ | ⟨hw,hx,g2⟩
        · rw [if_pos (hwant true hw)]
          left
          rw [ea] at g1
          unfold aop at g1
          obtain ⟨g1,_⟩:=ret_inv g1
          unfold doCn at g1
          split at g1
          · cases g1
            obtain ⟨zv,z1,z2,z3⟩:=zeroOk_inv h3
            obtain ⟨C',r1,r2,r3,r4⟩:=cn_ok (P:=k.P) inv.stp.sim inv.be hent z1 z2 z3
            have hd:Does k.P (execOp a.eval o) C.w (fun v w'=>v = .pointer (some ⟨C.w.heap.size,0,none⟩) ∧ w' = C'.w):=by
              simp only [execOp,eo]
              exact does_v r1 ⟨rfl,rfl⟩
            refine does_wp hd fun v w' ⟨hv,hw'⟩=>?_
            subst hv; subst hw'
            refine hK _ C' H (inv.wrote hnds ho hao h1 eq (.inl ed) (fun _=>h2) hnd hnf (hwriter q h4) r2 ?_ (fun q' t' hq' _=>(inv.cell q' t' hq').step r3) (fun _ q' t' hq' _ hk'=>?_) (fun _=>hviaNo t h5) hhs)
            · rw [put_getD,if_pos ⟨ed,htl⟩]; exact r4
            · rw [put_getD,if_pos ⟨ed,htl⟩]
              rcases inv.cell q' t' hq' with h | ⟨b',c',e',q1,q2,_⟩
              · rw [hk'] at h; cases h
              · rw [q1]
                intro e
                cases e
                exact Nat.lt_irrefl _ (lt_of_heap q2)
          · cases g1
        · rw [hwant false hw]
          simp only [Bool.false_eq_true,if_false]
          refine hK _ C H (inv.wrote hnds ho hao h1 eq (.inl ed) (fun _=>h2) hnd hnf (hwriter q h4) (Step.refl inv.stp.sim) (by rw [hx]; exact .inl rfl) (fun q' t' hq' _=>inv.cell q' t' hq') (fun hk=>by rw [hx] at hk; cases hk) (fun _=>hviaNo t h5) hhs)
      · cases hfit
    · -- a new variable with a value
      rename_i ty x y eo ea
      split at hfit
      · rename_i t q ed eq
        simp only [Bool.and_eq_true,Nat.blt_eq] at hfit
        obtain ⟨⟨⟨⟨h1,h2⟩,h3⟩,h4⟩,h5⟩:=hfit
        have htl:t < a.tmps.size:=by rw [inv.size]; exact h2
        have hnf:∀ sty x f,o.op ≠ .fieldAddr sty x f:=fun _ _ _ e=>by rw [eo] at e; cases e
        rcases htr with ⟨hw,s1,g1,g2⟩ | ⟨hw,hx,g2⟩
        · rw [if_pos (hwant true hw)]
          left
          rw [ea] at g1
          unfold aop at g1
          obtain ⟨g1,_⟩:=ret_inv g1
          · obtain ⟨C',r1,r2,r3,r4⟩:=cb_ok (P:=k.P) (e:=ty) inv.stp.sim inv.be hent (hO x y h3) g1
            have hd:Does k.P (execOp a.eval o) C.w (fun v w'=>v = .pointer (some ⟨C.w.heap.size,0,none⟩) ∧ w' = C'.w):=by
              simp only [execOp,eo]
              exact does_v r1 ⟨rfl,rfl⟩
            refine does_wp hd fun v w' ⟨hv,hw'⟩=>?_
            subst hv; subst hw'
            refine hK _ C' H (inv.wrote hnds ho hao h1 eq (.inl ed) (fun _=>h2) hnd hnf (hwriter q h4) r2 ?_ (fun q' t' hq' _=>(inv.cell q' t' hq').step r3) (fun _ q' t' hq' _ hk'=>?_) (fun _=>hviaNo t h5) hhs)
            · rw [put_getD,if_pos ⟨ed,htl⟩]; exact r4
            · rw [put_getD,if_pos ⟨ed,htl⟩]
              rcases inv.cell q' t' hq' with h | ⟨b',c',e',q1,q2,_⟩
              · rw [hk'] at h; cases h
              · rw [q1]
                intro e
                cases e
                exact Nat.lt_irrefl _ (lt_of_heap q2)
        · rw [hwant false hw]
          simp only [Bool.false_eq_true,if_false]
          refine hK _ C H (inv.wrote hnds ho hao h1 eq (.inl ed) (fun _=>h2) hnd hnf (hwriter q h4) (Step.refl inv.stp.sim) (by rw [hx]; exact .inl rfl) (fun q' t' hq' _=>inv.cell q' t' hq') (fun hk=>by rw [hx] at hk; cases hk) (fun _=>hviaNo t h5) hhs)
      · cases hfit
    · -- a store
      rename_i ty t x sz c y eo ea
      split at hfit
      · rename_i q ed eq
        simp only [Bool.and_eq_true,beq_iff_eq] at hfit
        obtain ⟨⟨⟨⟨h1,h2⟩,h3⟩,h4⟩,h5⟩:=hfit
        have hnf:∀ sty x f,o.op ≠ .fieldAddr sty x f:=fun _ _ _ e=>by rw [eo] at e; cases e
        have hput:∀ v,a.put o.dst v = a:=fun v=>by rw [ed]; rfl
        rcases htr with ⟨hw,s1,g1,g2⟩ | ⟨hw,hx,g2⟩
        · rw [if_pos (hwant true hw)]
          left
          rw [ea] at g1
          unfold aop at g1
          obtain ⟨g1,_⟩:=ret_inv g1
          rw [hcur q c h4] at g1
          have hck:(cur aops Lf (hs 0).vars S q aops.length).known = true:=by
            unfold doCs at g1
            split at g1
            · rename_i hh; exact hh.1
            · cases g1
          obtain ⟨C',r1,r2,r3,r4⟩:=cs_ok (P:=k.P) inv.stp.sim h2 (inv.cell q t h1) (hO x y h3) g1
          have hd:Does k.P (execOp a.eval o) C.w (fun v w'=>w' = C'.w):=by
            simp only [execOp,eo]
            exact does_u r1 rfl
          refine does_wp hd fun v w' hw'=>?_
          subst hw'
          refine hK _ C' H (inv.wrote hnds ho hao h1 eq (.inr ed) (fun e=>by rw [ed] at e; cases e) hnd hnf (hwriter q h5) r2 (by rw [hput]; exact r3) (fun q' t' hq' hne=>?_) (fun _ q' t' hq' hne hk'=>?_) (fun e=>by rw [ed] at e; cases e) hhs)
          · cases hk':(cur aops Lf (hs 0).vars S q' aops.length).known with
            | false=>exact .inl hk'
            | true=>exact r4 _ _ (inv.cell q' t' hq') (inv.dist q' q t' t hq' h1 hne hk' hck)
          · rw [hput]; exact inv.dist q' q t' t hq' h1 hne hk' hck
        · rw [hwant false hw]
          simp only [Bool.false_eq_true,if_false]
          refine hK _ C H (inv.wrote hnds ho hao h1 eq (.inr ed) (fun e=>by rw [ed] at e; cases e) hnd hnf (hwriter q h5) (Step.refl inv.stp.sim) (by rw [hx]; exact .inl rfl) (fun q' t' hq' _=>inv.cell q' t' hq') (fun hk=>by rw [hx] at hk; cases hk) (fun e=>by rw [ed] at e; cases e) hhs)
      · cases hfit
    · -- a load
      rename_i ty t ag sz y eo ea
      split at hfit
      · rename_i q hq
        simp only [Bool.and_eq_true,beq_iff_eq] at hfit
        obtain ⟨⟨⟨⟨h1,h2⟩,h3⟩,h4⟩,h5⟩:=hfit
        have pd:=plainDst_pd hnds h5
        rcases htr with ⟨hw,s1,g1,g2⟩ | ⟨hw,hx,g2⟩
        · rw [if_pos (hwant true hw)]
          left
          rw [ea] at g1
          unfold aop at g1
          obtain ⟨g1,_⟩:=ret_inv g1
          rw [hcur q y h4] at g1
          obtain ⟨u,r1,r2⟩:=cl_ok (P:=k.P) h2 h3 (inv.cell q t h1) g1
          have hd:Does k.P (execOp a.eval o) C.w (fun v w'=>v = u ∧ w' = C.w):=by
            simp only [execOp,eo]
            exact does_v r1 ⟨rfl,rfl⟩
          refine does_wp hd fun v w' ⟨hv,hw'⟩=>?_
          subst hv; subst hw'
          exact hK _ C H (inv.plain ho hao pd hnd (Step.refl inv.stp.sim) r2 (fun _ _ _ _ _ e=>by rw [eo] at e; cases e) hhs)
        · rw [hwant false hw]
          simp only [Bool.false_eq_true,if_false]
          exact hunw pd hw hx (hwant false hw)
      · cases hfit
    · -- a field's address
      rename_i sty t f y eo ea
      split at hfit
      · rename_i q hq
        simp only [Bool.and_eq_true] at hfit
        obtain ⟨⟨⟨h1,h2⟩,h3⟩,h4⟩:=hfit
        have pd:=plainDst_pd hnds h3
        rcases htr with ⟨hw,s1,g1,g2⟩ | ⟨hw,hx,g2⟩
        · rw [if_pos (hwant true hw)]
          left
          rw [ea] at g1
          unfold aop at g1
          obtain ⟨g1,_⟩:=ret_inv g1
          rw [hcur q y h2] at g1
          unfold doCa at g1
          split at g1
          · rename_i hk
            have hxu:=Option.some.inj g1
            split at h4
            · rename_i fl hfl
              have hz:∃ n,sizeB k.P fl.type = some n ∧ n ≠ 0:=by
                split at h4
                · rename_i n hn; exact ⟨n,hn,by simpa using h4⟩
                · cases h4
              rcases inv.cell q t h1 with h | ⟨b',c',e',q1,q2,_⟩
              · rw [hk] at h; cases h
              · have r1:=ca_ok hfl hz b' 0 C.w
                rw [Nat.zero_add] at r1
                have hd:Does k.P (execOp a.eval o) C.w (fun v w'=>v = .pointer (some ⟨b',fl.offset,none⟩) ∧ w' = C.w):=by
                  simp only [execOp,eo,Act.eval,q1]
                  exact does_v r1 ⟨rfl,rfl⟩
                refine does_wp hd fun v w' ⟨hv,hw'⟩=>?_
                subst hv; subst hw'
                refine hK _ C H (inv.plain ho hao pd hnd (Step.refl inv.stp.sim) (by rw [← hxu]; exact .inl (.inl rfl)) (fun sty' t' f' d q' e1 _ e3 _=>?_) hhs)
                rw [eo] at e1
                cases e1
                exact ⟨b',fl,q1,hfl,rfl⟩
            · cases h4
          · cases g1
        · rw [hwant false hw]
          simp only [Bool.false_eq_true,if_false]
          exact hunw pd hw hx (hwant false hw)
      · cases hfit
    · -- a load of a field
      rename_i ty d f off ag sz y eo ea
      simp only [Bool.and_eq_true] at hfit
      obtain ⟨h1,h2⟩:=hfit
      have pd:=plainDst_pd hnds h2
      obtain ⟨n,o2,sty,t,q,b,v1,v2,v3,v4,v5,v6,v7,v8,v9,v10,v11⟩:=viaFits_get h1
      rw [Nat.zero_add] at v5 v10
      rcases htr with ⟨hw,s1,g1,g2⟩ | ⟨hw,hx,g2⟩
      · rw [if_pos (hwant true hw)]
        left
        rw [ea] at g1
        unfold aop at g1
        obtain ⟨g1,_⟩:=ret_inv g1
        rw [hcur q y v9] at g1
        obtain ⟨hSn,hni⟩:=hpre n v5
        have hwn:wants (Lf.take n) b.guard = some true:=by
          rcases v11 with v11 | v11
          · rw [v11]; rfl
          · have hgn:=(hin n o2 b v1 v10).guard
            rw [v11] at hgn ⊢
            cases hg:ao.guard with
            | none=>rfl
            | some gb =>
              obtain ⟨j0,b0⟩:=gb
              rw [hg] at hgn hw
              have hj0:j0 < n:=by
                unfold guardOk at hgn
                split at hgn
                · rename_i e; cases e
                · rename_i e1 e2
                  cases e2
                  simp only [Bool.and_eq_true,beq_iff_eq] at hgn
                  obtain ⟨⟨⟨rfl,_⟩,hlt⟩,_⟩:=hgn
                  exact hltp n (by have:=(List.getElem?_eq_some_iff.1 v1).1; omega) _ hlt
                · cases hgn
              simp only [wants] at hw ⊢
              have e1:(Lf.take n).getD j0 .u = Lf.getD j0 .u:=by simp [List.getD,hj0]
              have hj0i:j0 < i:=by omega
              have e2:(Lf.take i).getD j0 .u = Lf.getD j0 .u:=by simp [List.getD,hj0i]
              rw [e1]; rw [e2] at hw; exact hw
        obtain ⟨bl,fl,q1,q2,q3⟩:=inv.via n o2 b sty t f d q hSn v1 v10 v3 v2 v4 hwn
        unfold fieldOk at v6
        rw [q2] at v6
        simp only [Bool.and_eq_true,beq_iff_eq] at v6
        obtain ⟨u,r1,r2⟩:=cf_ok (P:=k.P) v7 v8 (inv.cell q t v4) q1 g1
        have hd:Does k.P (execOp a.eval o) C.w (fun v w'=>v = u ∧ w' = C.w):=by
          simp only [execOp,eo,Act.eval,q3,v6.1.1]
          exact does_v r1 ⟨rfl,rfl⟩
        refine does_wp hd fun v w' ⟨hv,hw'⟩=>?_
        subst hv; subst hw'
        exact hK _ C H (inv.plain ho hao pd hnd (Step.refl inv.stp.sim) r2 (fun _ _ _ _ _ e=>by rw [eo] at e; cases e) hhs)
      · rw [hwant false hw]
        simp only [Bool.false_eq_true,if_false]
        exact hunw pd hw hx (hwant false hw)
    · cases hfit
end Tor
