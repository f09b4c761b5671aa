/-
  A part of the proof: an abstract machine for the program, its soundness, and what the functions compute (Once, In9, In10, In11, In12, In13, In14, In15, In16, In17, In18, In19, In26).
  Conditions: none.
-/
import Derived.Test.YtejciamannpljaaGreatM03
import Derived.Test.YtejciamannpljaaGreatM08
import Derived.Test.YtejciamannpljaaGreatM12
set_option linter.unusedSectionVars false
set_option linter.unusedVariables false
set_option linter.unusedSimpArgs false
set_option linter.defProp false
namespace Tor
open Go Go.RowKit
structure OnceS (P:Program) (f:FuncId):Prop where
  ty:∃ t,sizeB P t = some 1
  enters:∀ args w,(callFunc f args).run P w = .ok (.enter f args) w
  done:∀ (a:Addr) (d:Int) (fv:Value) (w:World),¬ d = 0 → w.cell? a = some (.int .u32 d) → Calls P f #[.pointer (some a),fv] w fun e w'=>e = .returned (.tuple #[]) ∧ w' = w
  first:∀ (b off:Nat) (c:FuncId) (caps:Array Value) (R:World → Prop) (w:World),(∀ w,(callFunc c caps).run P w = .ok (.enter c caps) w) →
    w.cell? ⟨b,off,none⟩ = some (.int .u32 0) → w.cell? ⟨b,off + 1,none⟩ = some (.int .i32 0) → w.frozen? ⟨b,off,none⟩ = false → w.frozen? ⟨b,off + 1,none⟩ = false →
    (Calls P c caps (w.setCell ⟨b,off + 1,none⟩ (.int .i32 1)) fun e w2=>e = .returned (.tuple #[]) ∧ w2.cell? ⟨b,off,none⟩ = some (.int .u32 0) ∧ w2.cell? ⟨b,off + 1,none⟩ = some (.int .i32 1) ∧
      w2.frozen? ⟨b,off,none⟩ = false ∧ w2.frozen? ⟨b,off + 1,none⟩ = false ∧ R w2) →
    Calls P f #[.pointer (some ⟨b,off,none⟩),.func (.func c) #[] caps] w fun e w'=>e = .returned (.tuple #[]) ∧
      ∃ w2,R w2 ∧ w' = (w2.drew.setCell ⟨b,off,none⟩ (.int .u32 1)).setCell ⟨b,off + 1,none⟩ (.int .i32 0)
def dnA (o:Nat) (p:List (Nat × Nat)):AV:=.ptr o 0 (p ++ [(1,0),(1,0)])
def stA (o:Nat) (p:List (Nat × Nat)):AV:=.ptr o 0 (p ++ [(2,1),(1,0),(0,0)])
def onceH (b:Bool):Option (AV × Heap × Bool) → Option (AV × Heap × Bool)
  | some (_,H,_)=>some (.tup [],H,b)
  | none=>none
def onceG2 (o:Nat) (p:List (Nat × Nat)) (b:Bool) (H:Heap):Option AV → Option (AV × Heap × Bool)
  | some (.int .i32 _)=>onceH b (doStore 1 H (stA o p) (.int .i32 0))
  | _=>none
def onceG (o:Nat) (p:List (Nat × Nat)) (b:Bool):Option (AV × Heap × Bool) → Option (AV × Heap × Bool)
  | some (_,H,_)=>onceG2 o p b H (doLoad false 1 H (stA o p))
  | none=>none
def onceF (o:Nat) (p:List (Nat × Nat)) (b:Bool) (H:Heap):Option AV → Option (AV × Heap × Bool)
  | some (.int .i32 m)=>if m = 1 then onceG o p b (doStore 1 H (dnA o p) (.int .u32 1)) else none
  | _=>none
def onceE (o:Nat) (p:List (Nat × Nat)) (b:Bool) (H:Heap):Option AV → Option (AV × Heap × Bool)
  | some (.int .u32 d)=>if d = 0 then onceF o p b H (doLoad false 1 H (stA o p)) else none
  | _=>none
def onceD (o:Nat) (p:List (Nat × Nat)):Option (AV × Heap × Bool) → Option (AV × Heap × Bool)
  | some (.tup [],H,b)=>onceE o p b H (doLoad false 1 H (dnA o p))
  | _=>none
def onceC (K:CallF) (o:Nat) (p:List (Nat × Nat)) (c:Nat) (caps:List AV):Option (AV × Heap × Bool) → Option (AV × Heap × Bool)
  | some (_,H,_)=>if (GP c).isSome = true then onceD o p (K c caps H) else none
  | none=>none
def onceB (K:CallF) (o:Nat) (p:List (Nat × Nat)) (c:Nat) (caps:List AV) (H:Heap):Option AV → Option (AV × Heap × Bool)
  | some (.int .i32 m)=>if m = 0 then onceC K o p c caps (doStore 1 H (stA o p) (.int .i32 1)) else none
  | _=>none
def onceA (K:CallF) (o:Nat) (p:List (Nat × Nat)) (c:Nat) (caps:List AV) (H:Heap):Option AV → Option (AV × Heap × Bool)
  | some (.int .u32 d)=>if d = 0 then onceB K o p c caps H (doLoad false 1 H (stA o p)) else some (.tup [],H,false)
  | _=>none
def onceCall (K:CallF) (H:Heap):List AV → Option (AV × Heap × Bool)
  | [.ptr o 0 p,.fn c caps]=>onceA K o p c caps H (doLoad false 1 H (dnA o p))
  | _=>none
noncomputable def E2:CallF:=fun g args H=>if g = 253 then onceCall (call E1 GP) H args else E1 g args H
section
variable {P:Program} {base:Nat} {C:Cx} {H:Heap}
theorem offs_app (p q:List (Nat × Nat)):offs (p ++ q) = offs p + offs q:=by simp [offs]
theorem cell_of (hs:Sim base C H) {o q k n b bs} (hβ:C.β o 0 = some (some (b,bs))) (h:doLoad false 1 H (.ptr o 0 q) = some (.int k n)) :
    C.w.cell? ⟨b,bs + offs q,none⟩ = some (.int k n) ∧ C.w.frozen? ⟨b,bs + offs q,none⟩ = false:=by
  simp only [doLoad] at h
  cases ho:H[o]? with
  | none=>rw [ho] at h; cases h
  | some ob =>
    rw [ho] at h
    simp only [getIn] at h
    cases hg:objGet ob 0 q with
    | none=>rw [hg] at h; cases h
    | some y =>
      rw [hg] at h
      simp only [fits] at h
      split at h
      case isFalse=>cases h
      cases h
      obtain ⟨b',bs',ys,h1,h2,h3⟩:=objGet_ok hs ho hg
      rw [hβ] at h1
      simp only [Option.some.injEq,Prod.mk.injEq] at h1
      obtain ⟨rfl,rfl⟩:=h1
      simp only [Rc] at h2
      subst h2
      have hc:=h3 0 _ rfl
      refine ⟨by simpa using hc,?_⟩
      obtain ⟨hok,_⟩:=hs.obj o ob ho
      have hfr:∀ {c e},C.w.heap[b]? = some (.cells c e (0,0)) → C.w.frozen? ⟨b,bs + offs q,none⟩ = false:=fun hh=>by simp [World.frozen?,hh]
      cases ob with
      | var x =>
        obtain ⟨b2,c,e,q1,q2,_⟩:=hok
        rw [hβ] at q1
        simp only [Option.some.injEq,Prod.mk.injEq] at q1
        obtain ⟨rfl,_⟩:=q1
        exact hfr q2
      | arr g' sz l =>
        simp only [objGet] at hg
        cases q with
        | nil=>cases hg
        | cons i q =>
          obtain ⟨i,off⟩:=i
          simp only [objGet] at hg
          split at hg
          case isFalse=>cases hg
          rename_i hg2
          obtain ⟨rfl,_⟩:=hg2
          rcases hok with ⟨q1,_⟩ | ⟨b2,bs2,c,e,pre,css,post,q1,q2,_⟩
          · rw [hβ] at q1; cases q1
          · rw [hβ] at q1
            simp only [Option.some.injEq,Prod.mk.injEq] at q1
            obtain ⟨rfl,_⟩:=q1
            exact hfr q2
      | map kvs=>cases hg
      | dead=>cases hg
theorem put_cell (hs:Sim base C H) (hty:∃ t,sizeB P t = some 1) {o q k n k' n' b bs y H' b'} (hβ:C.β o 0 = some (some (b,bs))) (hl:doLoad false 1 H (.ptr o 0 q) = some (.int k' n')) (h:doStore 1 H (.ptr o 0 q) (.int k n) = some (y,H',b')) :
    ∃ C',C'.w = C.w.setCell ⟨b,bs + offs q,none⟩ (.int k n) ∧ OStep base C H C' H':=by
  obtain ⟨t,ht⟩:=hty
  obtain ⟨hc,hf⟩:=cell_of hs hβ hl
  obtain ⟨C',h1,h2,_⟩:=store_ok (P:=P) (v:=.pointer (some ⟨b,bs + offs q,none⟩)) (u:=.int k n) hs ht (Rv_one (by simp only [Rc]; exact ⟨b,bs,hβ,rfl⟩) rfl rfl) (mk_int k n) h
  refine ⟨C',?_,h2⟩
  have h3:(Instr.storeAt t (.pointer (some ⟨b,bs + offs q,none⟩)) (.int k n)).run P C.w = .ok () (C.w.setCell ⟨b,bs + offs q,none⟩ (.int k n)):=by
    simp only [Instr.storeAt,Instr.sureAddr,Sem.run_bind,Sem.run_pure,Result.andThen_ok,storeVar,run_sizeOf ht]
    simp [go_sem,hc,hf,Value.cells]
  rw [h1] at h3
  injection h3
theorem caps_Rvs:∀ (l:List AV) (vs:List Value),(∀ x ∈ l,x.isA = false) → Rcl C l (vs.map fun v=>[v]) → Rvs C l vs
  | [],vs,_,h=>by
    simp only [Rcl,List.map_eq_nil_iff] at h
    subst h; exact .nil
  | x :: l,vs,ha,h=>by
    simp only [Rcl] at h
    obtain ⟨c,r,e,h1,h2⟩:=h
    cases vs with
    | nil=>cases e
    | cons v vs =>
      simp only [List.map_cons,List.cons.injEq] at e
      obtain ⟨rfl,rfl⟩:=e
      refine .cons (Rv_one h1 (ha x (.head _)) ?_) (caps_Rvs l vs (fun y hy=>ha y (.tail _ hy)) h2)
      have:=Rc_one x [v] h1 v (by simp)
      cases v <;> first | rfl | cases this
theorem onceH_inv {b x r} (h:onceH b x = some r):∃ y H b',x = some (y,H,b') ∧ r = (.tup [],H,b):=by
  cases x with
  | none=>cases h
  | some q=>obtain ⟨y,H,b'⟩:=q; cases h; exact ⟨y,H,b',rfl,rfl⟩
theorem onceD_inv {o p x r} (h:onceD o p x = some r):∃ H2 b y H3 b3 y4 H4 b4 m,x = some (.tup [],H2,b) ∧ doLoad false 1 H2 (dnA o p) = some (.int .u32 0) ∧ doLoad false 1 H2 (stA o p) = some (.int .i32 1) ∧
    doStore 1 H2 (dnA o p) (.int .u32 1) = some (y,H3,b3) ∧ doLoad false 1 H3 (stA o p) = some (.int .i32 m) ∧ doStore 1 H3 (stA o p) (.int .i32 0) = some (y4,H4,b4) ∧ r = (.tup [],H4,b):=by
  unfold onceD at h
  split at h
  case h_2=>cases h
  rename_i H2 b
  cases h1:doLoad false 1 H2 (dnA o p) with
  | none=>rw [h1] at h; cases h
  | some z =>
    rw [h1] at h
    unfold onceE at h
    split at h
    case h_2=>cases h
    rename_i d e
    cases e
    split at h
    case isFalse=>cases h
    rename_i hd
    subst hd
    cases h2:doLoad false 1 H2 (stA o p) with
    | none=>rw [h2] at h; cases h
    | some z =>
      rw [h2] at h
      unfold onceF at h
      split at h
      case h_2=>cases h
      rename_i d e
      cases e
      split at h
      case isFalse=>cases h
      rename_i hd
      subst hd
      cases h3:doStore 1 H2 (dnA o p) (.int .u32 1) with
      | none=>rw [h3] at h; cases h
      | some q =>
        obtain ⟨y,H3,b3⟩:=q
        rw [h3] at h
        simp only [onceG] at h
        cases h5:doLoad false 1 H3 (stA o p) with
        | none=>rw [h5] at h; cases h
        | some z =>
          rw [h5] at h
          unfold onceG2 at h
          split at h
          case h_2=>cases h
          rename_i m e
          cases e
          obtain ⟨y4,H4,b4,h4,e⟩:=onceH_inv h
          exact ⟨H2,b,y,H3,b3,y4,H4,b4,m,rfl,h1,h2,h3,h5,h4,e⟩
theorem Step_le_β {ent:Nat} {C':Cx} {H':Heap} (h:Step base ent C H C' H') {o g q} (hq:C.β o g = some q):C'.β o g = some q:=h.le.β o g q hq
theorem E2_sound {ι:Nat → FuncId} {pureF:Nat → Bool} (T:Tied P ι pureF E1 GP) (O:OnceS P (ι 253)):SoundC P ι E2:=by
  intro g args H r H' b h base C vals hι hs hr
  unfold E2 at h
  split at h
  case isFalse=>exact T.soundE g args H r H' b h base C vals hι hs hr
  rename_i hg
  subst hg
  unfold onceCall at h
  split at h
  case h_2=>cases h
  rename_i o p c caps
  cases hr with
  | cons r1 hr =>
  cases hr with
  | cons r2 hr =>
  cases hr
  obtain ⟨bq,bs,hβ,rfl⟩:=Rv_ptr r1
  obtain ⟨vs,rfl,hcl,hca⟩:=Rv_fn r2
  have hcaps:=caps_Rvs caps vs.toList hca hcl
  have o1:offs (p ++ [(1,0),(1,0)]) = offs p:=by rw [offs_app]; simp [offs]
  have o2:offs (p ++ [(2,1),(1,0),(0,0)]) = offs p + 1:=by rw [offs_app]; simp [offs]
  cases h1:doLoad false 1 H (dnA o p) with
  | none=>rw [h1] at h; cases h
  | some z =>
  rw [h1] at h
  unfold onceA at h
  split at h
  case h_2=>cases h
  rename_i d e
  cases e
  obtain ⟨c1,f1⟩:=cell_of hs hβ h1
  rw [o1] at c1 f1
  unfold Called
  rw [O.enters]
  split at h
  case isFalse hd =>
    cases h
    refine Calls.mono (O.done ⟨bq,bs + offs p,none⟩ d _ C.w hd c1) ?_
    rintro e w' ⟨rfl,rfl⟩
    exact ⟨C,rfl,Step.refl hs,Rv_tup_mk (vs:=[]) .nil⟩
  rename_i hd
  subst hd
  cases h2:doLoad false 1 H (stA o p) with
  | none=>rw [h2] at h; cases h
  | some z =>
  rw [h2] at h
  unfold onceB at h
  split at h
  case h_2=>cases h
  rename_i m e
  cases e
  split at h
  case isFalse=>cases h
  rename_i hm
  subst hm
  obtain ⟨c2,f2⟩:=cell_of hs hβ h2
  rw [o2,← Nat.add_assoc] at c2 f2
  cases h3:doStore 1 H (stA o p) (.int .i32 1) with
  | none=>rw [h3] at h; cases h
  | some q =>
  obtain ⟨y1,H1,b1⟩:=q
  rw [h3] at h
  simp only [onceC] at h
  split at h
  case isFalse=>cases h
  rename_i hGP
  obtain ⟨H2,b2,y3,H3,b3,y4,H4,b4,m3,hK,l1,l2,s1,l3,s2,e⟩:=onceD_inv h
  cases e
  obtain ⟨C1,hw1,st1⟩:=put_cell hs O.ty hβ h2 h3
  rw [o2,← Nat.add_assoc] at hw1
  have hen:∀ w,(callFunc (C.ι c) vs).run P w = .ok (.enter (C.ι c) vs) w:=by
    intro w
    obtain ⟨f,hf⟩:=Option.isSome_iff_exists.1 hGP
    obtain ⟨k,fn,rfl,rfl,rfl,hfn,hok⟩:=T.funs c f hf
    unfold funOk at hok
    simp only [Bool.and_eq_true] at hok
    obtain ⟨⟨⟨⟨⟨⟨⟨q1,_⟩,_⟩,_⟩,_⟩,_⟩,_⟩,q8⟩:=hok
    have hname:(fn.name == "runtime.NumGoroutine") = false:=by simpa using q8
    rw [hι]
    cases hb:fn.body with
    | none=>rw [hb] at q1; cases q1
    | some cc=>simp [callFunc,hfn,beq_eq_false_iff_ne.1 hname,hb]
  have hcall:=call_sound T c caps H1 _ _ _ hK base C1 vs.toList (st1.le.ι.trans hι) st1.sim (Rvs_le st1.le hcaps)
  unfold Called at hcall
  rw [Array.toArray_toList,← hι,hen,hw1] at hcall
  have hβ1:=Step_le_β st1 hβ
  refine Calls.mono (O.first bq (bs + offs p) (C.ι c) vs (fun w2=>∃ C2,C2.w = w2 ∧ OStep base C1 H1 C2 H2) C.w hen c1 c2 f1 f2 (Calls.mono hcall ?_)) ?_
  · rintro e w2 he
    cases e with
    | panicked _=>exact he.elim
    | outgrown=>exact he.elim
    | returned v =>
      obtain ⟨C2,rfl,st2,hv⟩:=he
      have hβ2:=Step_le_β st2 hβ1
      obtain ⟨a1,a2⟩:=cell_of st2.sim hβ2 l1
      obtain ⟨a3,a4⟩:=cell_of st2.sim hβ2 l2
      rw [o1] at a1 a2
      rw [o2,← Nat.add_assoc] at a3 a4
      obtain ⟨vs2,rfl,hvl⟩:=Rv_tup hv
      have:vs2 = #[]:=by
        obtain ⟨vs2⟩:=vs2
        cases hvl; rfl
      subst this
      exact ⟨rfl,a1,a3,a2,a4,C2,rfl,st2⟩
  · rintro e w' ⟨rfl,w2,⟨C2,rfl,st2⟩,rfl⟩
    have hβ2:=Step_le_β st2 hβ1
    have st3:=st2.sim.redrawn (C2.w.drawn + 1) (Nat.le_refl _)
    have hβ3:=Step_le_β st3 hβ2
    obtain ⟨C4,hw4,st4⟩:=put_cell st3.sim O.ty hβ3 l1 s1
    have hβ4:=Step_le_β st4 hβ3
    obtain ⟨C5,hw5,st5⟩:=put_cell st4.sim O.ty hβ4 l3 s2
    rw [o1] at hw4
    rw [o2,← Nat.add_assoc,hw4] at hw5
    have z1:C.w.heap.size ≤ C1.w.heap.size:=st1.below.4
    have z2:C1.w.heap.size ≤ C2.w.heap.size:=st2.below.4
    have z4:C2.w.heap.size ≤ C4.w.heap.size:=st4.below.4
    refine ⟨C5,hw5,st1.trans ((st2.trans ((st3.trans ((st4.trans (st5.ent_le z4)))).ent_le z2)).ent_le z1),Rv_tup_mk (vs:=[]) .nil⟩
end
theorem store_keeps {H:Heap} {o q k n y H' b} (h:doStore 1 H (.ptr o 0 q) (.int k n) = some (y,H',b)):Keeps H H':=by
  simp only [doStore] at h
  split at h
  · cases ho:H[o]? with
    | none=>rw [ho] at h; cases h
    | some ob =>
      rw [ho] at h
      simp only [setIn] at h
      cases hs:objSet ob 0 q (.int k n) with
      | none=>rw [hs] at h; cases h
      | some ob' =>
        rw [hs] at h
        cases h
        exact keeps_set ho fun m hu=>objSet_under hs hu rfl
  · cases h
theorem call_keeps {E:CallF} {GP} (hE:CKeeps E):CKeeps (call E GP):=by
  intro g a H x H' b h
  obtain ⟨n,hn⟩:=call_ex h
  exact (runN_keeps hE n).2 g a H x H' b hn
theorem onceCall_inv {K:CallF} {H args r H' b} (h:onceCall K H args = some (r,H',b)) :
    ∃ o p c caps,args = [.ptr o 0 p,.fn c caps] ∧ r = .tup [] ∧ ((H' = H ∧ b = false) ∨ ∃ y1 H1 b1 H2 y3 H3 b3 y4 b4,doStore 1 H (stA o p) (.int .i32 1) = some (y1,H1,b1) ∧ K c caps H1 = some (.tup [],H2,b) ∧
      doStore 1 H2 (dnA o p) (.int .u32 1) = some (y3,H3,b3) ∧ doStore 1 H3 (stA o p) (.int .i32 0) = some (y4,H',b4)):=by
  unfold onceCall at h
  split at h
  case h_2=>cases h
  rename_i o p c caps
  refine ⟨o,p,c,caps,rfl,?_⟩
  unfold onceA at h
  split at h
  case h_2=>cases h
  split at h
  case isFalse=>cases h; exact ⟨rfl,.inl ⟨rfl,rfl⟩⟩
  unfold onceB at h
  split at h
  case h_2=>cases h
  split at h
  case isFalse=>cases h
  cases h3:doStore 1 H (stA o p) (.int .i32 1) with
  | none=>rw [h3] at h; cases h
  | some q =>
    obtain ⟨y1,H1,b1⟩:=q
    rw [h3] at h
    simp only [onceC] at h
    split at h
    case isFalse=>cases h
    obtain ⟨H2,b2,y3,H3,b3,y4,H4,b4,m3,hK,l1,l2,s1,l3,s2,e⟩:=onceD_inv h
    cases e
    exact ⟨rfl,.inr ⟨y1,H1,b1,H2,y3,H3,b3,y4,b4,rfl,hK,s1,s2⟩⟩
theorem E2_keeps:CKeeps E2:=by
  intro g a H x H' b h hb
  unfold E2 at h
  split at h
  case isFalse=>exact E1_keeps g a H x H' b h hb
  obtain ⟨o,p,c,caps,_,_,h | ⟨y1,H1,b1,H2,y3,H3,b3,y4,b4,s1,hK,s2,s3⟩⟩:=onceCall_inv h
  · rw [h.1]; exact Keeps.refl _
  · exact (store_keeps s1).trans ((call_keeps E1_keeps c caps H1 _ _ _ hK hb).trans ((store_keeps s2).trans (store_keeps s3)))
theorem E2_up:CLe (call E1 GP) (call E2 GP):=by
  have hE:CLe E1 E2:=fun g a H r h=>by
    unfold E2
    rw [if_neg (fun e=>by
      subst e
      unfold E1 at h
      cases h)]
    exact h
  have key:∀ n,RLe (runN E1 GP n) (runN E2 GP n) ∧ CLe (callN E1 GP n) (callN E2 GP n):=by
    intro n
    induction n with
    | zero=>exact ⟨fun c st r e=>(by rw [runN] at e; cases e),fun g a H r e=>(by rw [callN] at e; cases e)⟩
    | succ n ih =>
      refine ⟨fun c st r e=>?_,fun g a H r e=>?_⟩
      · rw [runN] at e ⊢; exact stepRun_mono ih.2 ih.1 _ _ _ e
      · rw [callN] at e ⊢
        have e2:=stepCall_mono ih.1 _ _ _ _ e
        unfold stepCall at e2 ⊢
        cases h1:E1 g a H with
        | some q=>rw [h1] at e2; rw [hE g a H q h1]; exact e2
        | none =>
          rw [h1] at e2
          by_cases hg:g = 253
          · subst hg
            simp only [callE] at e2
            rw [show GP 253 = none from rfl] at e2
            cases e2
          · rw [show E2 g a H = E1 g a H from if_neg hg,h1]; exact e2
  intro g a H r h
  obtain ⟨n,hn⟩:=call_ex h
  exact call_of ((key n).2 _ _ _ _ hn)
theorem E2_tied {P:Program} {ι:Nat → FuncId} {pureF:Nat → Bool} (T:Tied P ι pureF E1 GP) (O:OnceS P (ι 253)) (h:pureF 253 = false):Tied P ι pureF E2 GP where
  funs:=T.funs
  pureG:=fun g hg=>⟨(T.pureG g hg).1,fun args H H2 e=>by
    have hne:g ≠ 253:=fun e=>by rw [e,h] at hg; cases hg
    rw [show E2 g args H = E1 g args H from if_neg hne] at e
    rw [show E2 g args H2 = E1 g args H2 from if_neg hne]
    exact (T.pureG g hg).2 args H H2 e⟩
  pureE:=fun g hg args H r H' b e=>by
    have hne:g ≠ 253:=fun e=>by rw [e,h] at hg; cases hg
    rw [show E2 g args H = E1 g args H from if_neg hne] at e
    obtain ⟨a1,a2,a3⟩:=T.pureE g hg args H r H' b e
    exact ⟨a1,a2,fun H2=>by rw [show E2 g args H2 = E1 g args H2 from if_neg hne]; exact a3 H2⟩
  soundE:=E2_sound T O
  keepE:=E2_keeps
end Tor
namespace Tor
open Go
theorem loop_ex {E:CallF} {GP:Nat → Option AFun} {l:AIR} (Inv:Nat → St → Prop):∀ n st,Inv 0 st → (∀ i,i < n → ∀ st,Inv i st → ∃ st',Inv (i + 1) st' ∧ run E GP l st = run E GP l st') → ∃ st',Inv n st' ∧ run E GP l st = run E GP l st'
  | 0,st,h,_=>⟨st,h,rfl⟩
  | n + 1,st,h,hs=>by
    obtain ⟨st1,h1,e1⟩:=loop_ex Inv n st h fun i hi=>hs i (by omega)
    obtain ⟨st2,h2,e2⟩:=hs n (by omega) st1 h1
    exact ⟨st2,h2,e1.trans e2⟩
def yA (y:List (Int × Int)):AV:=.isl (y.map fA)
def kvsM (m:Mp):List (Int × AV):=m.foldl (fun k p=>mset p.1 (yA p.2) k) []
theorem mfind_mset (k j:Int) (y:AV):∀ l,mfind k (mset j y l) = if k = j then some y else mfind k l
  | []=>by simp only [mset,mfind]
  | (a,x) :: r=>by
    simp only [mset]
    by_cases h:j = a
    · subst h
      simp only [if_true,mfind]
      split <;> rfl
    · rw [if_neg h]
      simp only [mfind,mfind_mset k j y r]
      by_cases h1:k = a
      · subst h1
        rw [if_pos rfl,if_neg (fun e=>h e.symm),if_pos rfl]
      · rw [if_neg h1,if_neg h1]
theorem findM_cons (p:Int × List (Int × Int)) (r:Mp) (id:Int):findM (p :: r) id = if p.1 = id then some p.2 else findM r id:=by
  unfold findM
  by_cases hq:p.1 = id <;> simp [hq]
theorem findM_none {m:Mp} {id:Int} (h:id ∉ m.map (·.1)):findM m id = none:=by
  induction m with
  | nil=>rfl
  | cons p r ih =>
    rw [findM_cons]
    simp only [List.map_cons,List.mem_cons,not_or] at h
    rw [if_neg (fun e=>h.1 e.symm),ih h.2]
theorem mfind_kvs {m:Mp} (h:(m.map (·.1)).Nodup) (id:Int):mfind id (kvsM m) = (findM m id).map yA:=by
  have key:∀ (m:Mp) (l:List (Int × AV)),(m.map (·.1)).Nodup → mfind id (m.foldl (fun k p=>mset p.1 (yA p.2) k) l) = (match findM m id with | some y=>some (yA y) | none=>mfind id l):=by
    intro m
    induction m with
    | nil=>intro l _; rfl
    | cons p r ih =>
      intro l h
      simp only [List.map_cons,List.nodup_cons] at h
      rw [List.foldl_cons,ih _ h.2,findM_cons,mfind_mset]
      by_cases e:p.1 = id
      · subst e
        rw [findM_none h.1,if_pos rfl,if_pos rfl]
      · rw [if_neg e,if_neg (fun e2=>e e2.symm)]
  unfold kvsM
  rw [key m [] h]
  cases findM m id <;> rfl
def onceV (d:Int):AV:=.agg [.agg [],.agg [.agg [],.int .u32 d],.agg [.agg [],.agg [.int .i32 0,.int .u32 0]]]
def onceW (m:Int):AV:=.agg [.agg [],.agg [.agg [],.int .u32 0],.agg [.agg [],.agg [.int .i32 m,.int .u32 0]]]
def idx0 (m:Mp):AV:=.agg [.isl (m.map mA),onceV 0,.a (.map none)]
def idx1 (m:Mp) (q:Nat):AV:=.agg [.isl (m.map mA),onceV 1,.mp q]
def IX (H:Heap) (o:Nat) (m:Mp):Prop:=H[o]? = some (.var (idx0 m)) ∨ ∃ q,q ≠ o ∧ H[o]? = some (.var (idx1 m q)) ∧ H[q]? = some (.map (kvsM m))
def Ext (o:Nat) (H H':Heap):Prop:=H.length ≤ H'.length ∧ ∀ j,j < H.length → j ≠ o → H'[j]? = H[j]?
variable {E:CallF} (hE:Free E)
include hE
theorem find_build (m:Mp) (hm:m.length < 2147483648) (H:Heap) (o bx:Nat) (on:AV) (hon:on.size = 3) (hok:on.known = true) (ho:H[o]? = some (.var (.agg [.isl (m.map mA),on,.a (.map none)]))) (hb:H[bx]? = some (.var (.ptr o 0 []))) :
    call E GP 252 [.ptr bx 0 []] H = some (.tup [],H.set o (.var (.agg [.isl (m.map mA),on,.mp H.length])) ++ [.map (kvsM m)],true):=by
  rw [call_fun (hE _ _ _ (by decide)) (f:=a252) rfl rfl]
  have hol:o < H.length:=(List.getElem?_eq_some_iff.1 ho).1
  have hbl:bx < H.length:=(List.getElem?_eq_some_iff.1 hb).1
  have hne:bx ≠ o:=fun e=>by subst e; rw [ho] at hb; cases hb
  have a1:(H ++ [AObj.map []])[o]? = some (.var (.agg [.isl (m.map mA),on,.a (.map none)])):=by rw [List.getElem?_append_left hol]; exact ho
  have a2:(H ++ [AObj.map []]).set o (.var (.agg [.isl (m.map mA),on,.mp H.length])) = H.set o (.var (.agg [.isl (m.map mA),on,.mp H.length])) ++ [.map []]:=List.set_append_left _ _ hol
  have k1:∀ x,(H.set o (.var (.agg [.isl (m.map mA),on,.mp H.length])) ++ [x])[o]? = some (.var (.agg [.isl (m.map mA),on,.mp H.length])):=fun x=>by
    rw [List.getElem?_append_left (by simpa using hol),List.getElem?_set_self hol]
  have k2:∀ x,(H.set o (.var (.agg [.isl (m.map mA),on,.mp H.length])) ++ [x])[bx]? = some (.var (.ptr o 0 [])):=fun x=>by
    rw [List.getElem?_append_left (by simpa using hbl),List.getElem?_set_ne (fun e=>hne e.symm)]; exact hb
  have k3:∀ x,(H.set o (.var (.agg [.isl (m.map mA),on,.mp H.length])) ++ [x])[H.length]? = some x:=fun x=>by
    rw [List.getElem?_append_right (by simp)]; simp
  have k4:∀ x y,(H.set o (.var (.agg [.isl (m.map mA),on,.mp H.length])) ++ [x]).set H.length y = H.set o (.var (.agg [.isl (m.map mA),on,.mp H.length])) ++ [y]:=fun x y=>by
    rw [List.set_append_right _ _ (by simp)]; simp
  generalize hG:H.set o (.var (.agg [.isl (m.map mA),on,.mp H.length])) = G at *
  let S:Nat → St:=fun i=>{ vars:=[.ptr bx 0 [],.isl (m.map mA),.int .i64 m.length,.int .i64 (i:Nat),.u,.u],heap:=G ++ [.map (kvsM (m.take i))],rs:=true }
  have hstep:∀ i,i < m.length → run E GP a252l0 (S i) = run E GP a252l0 (S (i + 1)):=by
    intro i hi
    have ek:kvsM (m.take (i + 1)) = mset m[i].1 (.isl (m[i].2.map fA)) (kvsM (m.take i)):=by
      unfold kvsM
      rw [List.take_succ_eq_append_getElem hi,List.foldl_append]; rfl
    show run E GP a252l0 { vars:=_,heap:=_,rs:=_ } = run E GP a252l0 { vars:=_,heap:=_,rs:=_ }
    rw [ek]
    generalize kvsM (m.take i) = kv at *
    conv=>lhs; rw [a252l0_run]
    simp (maxSteps:=1000000) (disch:=first | omega | decide) only [si,sf,simprocAttr,a252b0,a252R,hi,mA,k1,k2,k3,k4,hon,hok]
  have hl:=loop_ind S _ m.length hstep rfl
  have he:run E GP a252l0 (S m.length) = some (.exit 0,{ vars:=[.ptr bx 0 [],.isl (m.map mA),.int .i64 m.length,.int .i64 m.length,.bool false,.u],heap:=G ++ [.map (kvsM m)],rs:=true }):=by
    show run E GP a252l0 { vars:=_,heap:=_,rs:=_ } = _
    rw [List.take_length,a252l0_run]
    simp (maxSteps:=1000000) (disch:=first | omega | decide) only [si,sf,simprocAttr,a252b0,a252R,Nat.lt_irrefl]
  rw [he] at hl
  have hl:run E GP a252l0 { vars:=[.ptr bx 0 [],.isl (m.map mA),.int .i64 m.length,.int .i64 0,.u,.u],heap:=G ++ [.map []],rs:=true } = _:=hl
  simp (maxSteps:=1000000) (disch:=first | omega | decide) only [si,sf,simprocAttr,a252,a252R,hb,a1,a2,k1,k2,hl,hon,hok]
end Tor
namespace Tor
open Go
theorem up {g a H r} (h:call E1 GP g a H = some r):call E2 GP g a H = some r:=E2_up g a H r h
theorem E2_none {g a H} (h1:g ≠ 56) (h2:g ≠ 253):E2 g a H = none:=by
  unfold E2
  rw [if_neg h2]
  exact free1 g a H h1
theorem Ext.refl (o:Nat) (H:Heap):Ext o H H:=⟨Nat.le_refl _,fun _ _ _=>rfl⟩
theorem Ext.trans {o:Nat} {A B C:Heap} (h:Ext o A B) (k:Ext o B C):Ext o A C :=
  ⟨Nat.le_trans h.1 k.1,fun j hj hne=>(k.2 j (by have:=h.1; omega) hne).trans (h.2 j hj hne)⟩
theorem Ext.push (o:Nat) (H:Heap) (l:List AObj):Ext o H (H ++ l):=⟨by simp,fun j hj _=>List.getElem?_append_left hj⟩
theorem Ext.set (o:Nat) (H:Heap) (x:AObj):Ext o H (H.set o x):=⟨by simp,fun j hj hne=>List.getElem?_set_ne (fun e=>hne e.symm)⟩
theorem do_new (m:Mp) (hm:m.length < 2147483648) (H:Heap) (o bx:Nat) (ho:H[o]? = some (.var (idx0 m))) (hb:H[bx]? = some (.var (.ptr o 0 []))) :
    call E2 GP 253 [.ptr o 0 [(1,1)],.fn 252 [.ptr bx 0 []]] H = some (.tup [],H.set o (.var (idx1 m H.length)) ++ [.map (kvsM m)],true):=by
  apply call_ext
  have hol:o < H.length:=(List.getElem?_eq_some_iff.1 ho).1
  have hbl:bx < H.length:=(List.getElem?_eq_some_iff.1 hb).1
  have hne:bx ≠ o:=fun e=>by subst e; rw [ho] at hb; cases hb
  have ho1:(H.set o (.var (.agg [.isl (m.map mA),onceW 1,.a (.map none)])))[o]? = some (.var (.agg [.isl (m.map mA),onceW 1,.a (.map none)])):=List.getElem?_set_self hol
  have hb1:(H.set o (.var (.agg [.isl (m.map mA),onceW 1,.a (.map none)])))[bx]? = some (.var (.ptr o 0 [])):=by rw [List.getElem?_set_ne (fun e=>hne e.symm)]; exact hb
  have hbuild:=find_build free1 m hm _ o bx (onceW 1) rfl rfl ho1 hb1
  rw [List.length_set,List.set_set] at hbuild
  have k1:∀ z,(H.set o z ++ [.map (kvsM m)])[o]? = some z:=fun z=>by rw [List.getElem?_append_left (by simpa using hol),List.getElem?_set_self hol]
  have k2:∀ z z',(H.set o z ++ [AObj.map (kvsM m)]).set o z' = H.set o z' ++ [AObj.map (kvsM m)]:=fun z z'=>by
    rw [List.set_append_left _ _ (by simpa using hol),List.set_set]
  unfold E2
  rw [if_pos rfl]
  unfold idx0 at ho
  unfold idx1
  unfold onceV onceW at *
  have hgp:(GP 252).isSome = true:=rfl
  generalize kvsM m = kv at *
  simp (maxSteps:=1000000) (disch:=first | omega | decide) only [si,sf,simprocAttr,onceCall,onceA,onceB,onceC,onceD,onceE,onceF,onceG,onceG2,onceH,dnA,stA,ho,ho1,hbuild,hgp,k1,k2,List.set_set]
theorem do_old (m:Mp) (H:Heap) (o bx q:Nat) (ho:H[o]? = some (.var (idx1 m q))) :
    call E2 GP 253 [.ptr o 0 [(1,1)],.fn 252 [.ptr bx 0 []]] H = some (.tup [],H,false):=by
  apply call_ext
  unfold E2
  rw [if_pos rfl]
  unfold idx1 onceV at ho
  simp (maxSteps:=1000000) (disch:=first | omega | decide) only [si,sf,simprocAttr,onceCall,onceA,dnA,ho]
theorem i_find (m:Mp) (hm:m.length < 2147483648) (hnd:(m.map (·.1)).Nodup) (H:Heap) (o:Nat) (id:Int) (h:IX H o m) :
    ∃ H' b,call E2 GP 241 [.ptr o 0 [],.int .i64 id] H = some (.tup [(match findM m id with | some y=>yA y | none=>.nl),.bool (findM m id).isSome],H',b) ∧ IX H' o m ∧ Ext o H H':=by
  have hfind:=mfind_kvs hnd id
  have hE2:∀ a H,E2 241 a H = none:=fun a H=>E2_none (by decide) (by decide)
  rcases h with ho | ⟨q,hqo,ho,hq⟩
  · have hol:o < H.length:=(List.getElem?_eq_some_iff.1 ho).1
    have ho1:(H ++ [.var (.ptr o 0 [])])[o]? = some (.var (idx0 m)):=by rw [List.getElem?_append_left hol]; exact ho
    have hb1:(H ++ [AObj.var (.ptr o 0 [])])[H.length]? = some (.var (.ptr o 0 [])):=by simp
    have hdo:=do_new m hm _ o H.length ho1 hb1
    have hlen:(H ++ [AObj.var (.ptr o 0 [])]).length = H.length + 1:=by simp
    rw [hlen,List.set_append_left _ _ hol] at hdo
    have k1:(H.set o (.var (idx1 m (H.length + 1))) ++ [AObj.var (.ptr o 0 [])] ++ [.map (kvsM m)])[o]? = some (.var (idx1 m (H.length + 1))):=by
      rw [List.append_assoc,List.getElem?_append_left (by simpa using hol),List.getElem?_set_self hol]
    have k2:(H.set o (.var (idx1 m (H.length + 1))) ++ [AObj.var (.ptr o 0 [])] ++ [.map (kvsM m)])[H.length]? = some (.var (.ptr o 0 [])):=by
      rw [List.append_assoc,List.getElem?_append_right (by simp)]; simp
    have k3:(H.set o (.var (idx1 m (H.length + 1))) ++ [AObj.var (.ptr o 0 [])] ++ [.map (kvsM m)])[H.length + 1]? = some (.map (kvsM m)):=by
      rw [List.getElem?_append_right (by simp)]; simp
    refine ⟨_,true,?_,.inr ⟨H.length + 1,by omega,k1,k3⟩,?_⟩
    · rw [call_fun (hE2 _ _) (f:=a241) rfl rfl]
      generalize H.set o (.var (idx1 m (H.length + 1))) ++ [AObj.var (.ptr o 0 [])] ++ [.map (kvsM m)] = H2 at *
      unfold idx1 onceV at k1
      cases hf:findM m id with
      | none =>
        rw [hf] at hfind
        simp only [Option.map_none] at hfind
        simp only [Option.isSome_none]
        simp (maxSteps:=1000000) (disch:=first | omega | decide) only [si,sf,simprocAttr,doBox,a241,a241R,hb1,hdo,k1,k2,k3,hfind]
      | some y =>
        rw [hf] at hfind
        simp only [Option.map_some] at hfind
        simp only [Option.isSome_some]
        unfold yA at *
        simp (maxSteps:=1000000) (disch:=first | omega | decide) only [si,sf,simprocAttr,doBox,a241,a241R,hb1,hdo,k1,k2,k3,hfind]
    · rw [List.append_assoc]
      exact (Ext.set o H _).trans (Ext.push o _ _)
  · have hol:o < H.length:=(List.getElem?_eq_some_iff.1 ho).1
    have hql:q < H.length:=(List.getElem?_eq_some_iff.1 hq).1
    have ho1:(H ++ [.var (.ptr o 0 [])])[o]? = some (.var (idx1 m q)):=by rw [List.getElem?_append_left hol]; exact ho
    have hq1:(H ++ [.var (.ptr o 0 [])])[q]? = some (.map (kvsM m)):=by rw [List.getElem?_append_left hql]; exact hq
    have hb1:(H ++ [AObj.var (.ptr o 0 [])])[H.length]? = some (.var (.ptr o 0 [])):=by simp
    have hdo:=do_old m _ o H.length q ho1
    refine ⟨H ++ [.var (.ptr o 0 [])],true,?_,.inr ⟨q,hqo,ho1,hq1⟩,Ext.push o _ _⟩
    rw [call_fun (hE2 _ _) (f:=a241) rfl rfl]
    have hlen:(H ++ [AObj.var (.ptr o 0 [])]).length = H.length + 1:=by simp
    generalize hH1:H ++ [AObj.var (.ptr o 0 [])] = H1 at *
    unfold idx1 onceV at ho1
    cases hf:findM m id with
    | none =>
      rw [hf] at hfind
      simp only [Option.map_none] at hfind
      simp only [Option.isSome_none]
      simp (maxSteps:=1000000) (disch:=first | omega | decide) only [si,sf,simprocAttr,doBox,a241,a241R,hH1,hb1,hdo,ho1,hq1,hfind]
    | some y =>
      rw [hf] at hfind
      simp only [Option.map_some] at hfind
      simp only [Option.isSome_some]
      unfold yA at *
      simp (maxSteps:=1000000) (disch:=first | omega | decide) only [si,sf,simprocAttr,doBox,a241,a241R,hH1,hb1,hdo,ho1,hq1,hfind]
end Tor
namespace Tor
open Go
theorem i_make (l:List (Int × Int)) (N:Nat) (hl:Bd N l) (hs:l.length ≤ 1000000) (hN:N * (l.length + 1) < BIG) (hk:∀ p ∈ l,in64 p.1 = true) (H:Heap) :
    call E1 GP 22 [.isl (l.map fA)] H = some (.isl ((l.foldl insert26 []).map fA),H,false):=by
  have hkeys:=sums_keys (P:=fun n=>in64 n = true) l [] (fun p hp=>hk p hp) (fun p hp=>by cases hp)
  have hsl:(sums l []).length ≤ l.length:=by have:=hkeys.2; rw [List.length_nil,Nat.zero_add] at this; exact this
  have sS:=(sums_law l [] sums_nil).1
  have h:=c_make free1 l N hl (by omega) hN (ksOf (sums l [])) (srt1 _ (by omega) hkeys.1) (by simp [ksOf,sortI_len]; omega) H
  rw [make_eq _ _ (ksOf_lt _ sS) (ksOf_mem _)] at h
  exact h
theorem con_make2 (l a:List (Int × Int)) (h:∀ H,call E1 GP 22 [.isl (l.map fA)] H = some (.isl (a.map fA),H,false)) (H:Heap) (s g:Nat) (hs:H[s]? = some (.arr g 3 (l.map fA))) :
    call E1 GP 128 [.sl s g 3 0 l.length] H = some (.isl (a.map fA),H.set s .dead,false):=by
  have h0:=h []
  rw [call_fun (free1 _ _ _ (by decide)) (f:=a22) rfl rfl] at h0
  have hm:a22.mode = .iso:=rfl
  have hc:a128.mode = .con:=rfl
  rw [hm] at h0
  simp only [callFun] at h0
  have hr:runIso (run E1 GP) a22 [.isl (l.map fA)] = some (.isl (a.map fA)):=by
    cases hr:runIso (run E1 GP) a22 [.isl (l.map fA)] with
    | none=>rw [hr] at h0; cases h0
    | some r=>rw [hr] at h0; simp only [withHeap,Option.some.injEq,Prod.mk.injEq] at h0; rw [h0.1]
  have hr2:runIso (run E1 GP) a128 [.isl (l.map fA)] = some (.isl (a.map fA)):=hr
  rw [call_fun (free1 _ _ _ (by decide)) (f:=a128) rfl rfl,hc]
  have he:elems H (.sl s g 3 0 l.length) = some (l.map fA):=by
    simp only [elems,hs]
    rw [if_pos ⟨trivial,trivial,by simp⟩]
    simp only [List.drop_zero]
    rw [List.take_of_length_le (by simp)]
  simp only [callFun,consume,he,refs_fA,Bool.false_eq_true,if_false,consume1,conCall,hr2,withHeap]
def prods (F:Int → List (Int × Int)) (x:List (Int × Int)):List (Int × Int):=x.flatMap fun p=>(F p.1).map fun q=>(q.1,p.2 * q.2)
theorem prods_make (F:Int → List (Int × Int)):∀ (x a:List (Int × Int)),(prods F x).foldl insert26 a = x.foldl (fun a p=>add26 a (F p.1) p.2) a
  | [],_=>rfl
  | p :: r,a=>by
    unfold prods
    rw [List.flatMap_cons,List.foldl_append,List.foldl_cons]
    rw [show (List.flatMap (fun p=>(F p.1).map fun q=>(q.1,p.2 * q.2)) r) = prods F r from rfl,prods_make F r]
    congr 1
    unfold add26
    rw [List.foldl_map]
theorem prods_bd (F:Int → List (Int × Int)) (A N L:Nat) (hF:∀ id,Bd N (F id) ∧ (F id).length ≤ L):∀ (x:List (Int × Int)),(∀ p ∈ x,p.2.natAbs ≤ A) → Bd (A * N) (prods F x) ∧ (prods F x).length ≤ L * x.length
  | [],_=>⟨fun p hp=>(by cases hp),Nat.zero_le _⟩
  | p :: r,h=>by
    obtain ⟨h1,h2⟩:=prods_bd F A N L hF r fun q hq=>h q (.tail _ hq)
    have e:prods F (p :: r) = (F p.1).map (fun q=>(q.1,p.2 * q.2)) ++ prods F r:=by unfold prods; rw [List.flatMap_cons]
    rw [e]
    refine ⟨fun q hq=>?_,?_⟩
    · rcases List.mem_append.1 hq with hq | hq
      · obtain ⟨z,hz,rfl⟩:=List.mem_map.1 hq
        simp only
        rw [Int.natAbs_mul]
        exact Nat.mul_le_mul (h p (.head _)) ((hF p.1).1 z hz)
      · exact h1 q hq
    · have:=(hF p.1).2
      rw [List.length_append,List.length_map,List.length_cons,Nat.mul_succ]; omega
theorem prods_succ (F:Int → List (Int × Int)) {x:List (Int × Int)} {i:Nat} (hi:i < x.length):prods F (x.take (i + 1)) = prods F (x.take i) ++ (F x[i].1).map fun q=>(q.1,x[i].2 * q.2):=by
  unfold prods
  rw [List.take_succ_eq_append_getElem hi,List.flatMap_append]
  simp
theorem IX.set {H:Heap} {o s g z:Nat} {m:Mp} {l:List AV} (h:IX H o m) (hs:H[s]? = some (.arr g z l)) (x:AObj):IX (H.set s x) o m:=by
  have hso:s ≠ o:=fun e=>by
    subst e
    rcases h with h | ⟨q,_,h,_⟩ <;> (rw [h] at hs; cases hs)
  rcases h with h | ⟨q,h1,h2,h3⟩
  · exact .inl (by rw [List.getElem?_set_ne hso]; exact h)
  · have hsq:s ≠ q:=fun e=>by subst e; rw [h3] at hs; cases hs
    exact .inr ⟨q,h1,by rw [List.getElem?_set_ne hso]; exact h2,by rw [List.getElem?_set_ne hsq]; exact h3⟩
theorem IX.ne {H:Heap} {o s g z:Nat} {m:Mp} {l:List AV} (h:IX H o m) (hs:H[s]? = some (.arr g z l)):s ≠ o:=fun e=>by
  subst e
  rcases h with h | ⟨q,_,h,_⟩ <;> (rw [h] at hs; cases hs)
theorem IX.lt {H:Heap} {o:Nat} {m:Mp} (h:IX H o m):o < H.length:=by
  rcases h with h | ⟨q,_,h,_⟩ <;> exact (List.getElem?_eq_some_iff.1 h).1
theorem IX.push {H:Heap} {o:Nat} {m:Mp} (h:IX H o m) (l:List AObj):IX (H ++ l) o m:=by
  have hl:=h.lt
  rcases h with h | ⟨q,h1,h2,h3⟩
  · exact .inl (by rw [List.getElem?_append_left hl]; exact h)
  · have hq:q < H.length:=(List.getElem?_eq_some_iff.1 h3).1
    exact .inr ⟨q,h1,by rw [List.getElem?_append_left hl]; exact h2,by rw [List.getElem?_append_left hq]; exact h3⟩
def Ext2 (n o:Nat) (H H':Heap):Prop:=n ≤ H'.length ∧ ∀ j,j < n → j ≠ o → H'[j]? = H[j]?
theorem Ext2.ext {n o:Nat} {H A B:Heap} (h:Ext2 n o H A) (k:Ext o A B):Ext2 n o H B :=
  ⟨Nat.le_trans h.1 k.1,fun j hj hne=>(k.2 j (by have:=h.1; omega) hne).trans (h.2 j hj hne)⟩
theorem Ext2.set {n o s:Nat} {H A:Heap} (h:Ext2 n o H A) (hs:n ≤ s) (x:AObj):Ext2 n o H (A.set s x) :=
  ⟨by simpa using h.1,fun j hj hne=>by rw [List.getElem?_set_ne (by omega)]; exact h.2 j hj hne⟩
def ast0 (o:Nat) (x:List (Int × Int)) (s k i:Nat) (H:Heap) (b:Bool):St :=
  { vars:=[.ptr o 0 [],.isl (x.map fA),.isl [],.int .i64 0,.sl s k 3 0 k,.u,.u,.isl (x.map fA),.int .i64 x.length,.int .i64 (i:Nat),.u,.u,.u,.u,.u,.u,.u,.u],heap:=H,rs:=b }
theorem apply_inner (o s i:Nat) (x:List (Int × Int)) (hi:i < x.length) (y:List (Int × Int)) (hyl:y.length < 1000000) (hp:∀ q ∈ y,Sm q) (hc:Sm x[i]) (w11:AV) (m:Mp) (n:Nat) (H0:Heap) :
    ∀ (t j:Nat) (acc:List (Int × Int)) (H:Heap) (b:Bool),y.length = j + t → acc.length + t ≤ 4294967296 → IX H o m → H[s]? = some (.arr acc.length 3 (acc.map fA)) → n ≤ s → Ext2 n o H0 H →
    ∃ H' b',run E2 GP a238l1 { vars:=[.ptr o 0 [],.isl (x.map fA),.isl [],.int .i64 0,.sl s acc.length 3 0 acc.length,yA y,.bool true,.isl (x.map fA),.int .i64 x.length,.int .i64 (i:Nat),.bool true,w11,yA y,.int .i64 y.length,.int .i64 (j:Nat),.u,fA x[i],.u],heap:=H,rs:=b } =
      some (.exit 2,{ vars:=[.ptr o 0 [],.isl (x.map fA),.isl [],.int .i64 0,.sl s (acc.length + t) 3 0 (acc.length + t),yA y,.bool true,.isl (x.map fA),.int .i64 x.length,.int .i64 (i:Nat),.bool true,w11,yA y,.int .i64 y.length,.int .i64 y.length,.bool false,fA x[i],.u],heap:=H',rs:=b' }) ∧
      IX H' o m ∧ H'[s]? = some (.arr (acc.length + t) 3 ((acc ++ (y.drop j).map fun q=>(q.1,x[i].2 * q.2)).map fA)) ∧ Ext2 n o H0 H':=by
  intro t
  induction t with
  | zero =>
    intro j acc H b hj hacc hix hs hns hext
    have hjl:j = y.length:=by omega
    subst hjl
    refine ⟨H,b,?_,hix,by rw [List.drop_length]; simpa using hs,hext⟩
    unfold yA
    rw [a238l1_run]
    simp (maxSteps:=1000000) (disch:=first | omega | decide) only [si,sf,simprocAttr,a238b1,a238R,Nat.lt_irrefl,Nat.add_zero,fA]
  | succ t ih =>
    intro j acc H b hj hacc hix hs hns hext
    have hjl:j < y.length:=by omega
    have hmul:=fun H=>up (i_mul free1 x[i].2 y[j].2 H (by unfold Sm at hc; omega) (by have:=hp _ (List.getElem_mem hjl); unfold Sm at this; omega))
    have hsl:s < H.length:=(List.getElem?_eq_some_iff.1 hs).1
    have hs2:(H.set s (.arr (acc.length + 1) 3 ((acc ++ [(y[j].1,x[i].2 * y[j].2)]).map fA)))[s]? = some (.arr (acc ++ [(y[j].1,x[i].2 * y[j].2)]).length 3 ((acc ++ [(y[j].1,x[i].2 * y[j].2)]).map fA)):=by
      rw [List.getElem?_set_self hsl]; simp
    have hl2:(acc ++ [(y[j].1,x[i].2 * y[j].2)]).length = acc.length + 1:=by simp
    obtain ⟨H',b',r1,r2,r3,r4⟩:=ih (j + 1) (acc ++ [(y[j].1,x[i].2 * y[j].2)]) (H.set s (.arr (acc.length + 1) 3 ((acc ++ [(y[j].1,x[i].2 * y[j].2)]).map fA))) b (by omega) (by rw [hl2]; omega) (hix.set hs _) hs2 hns (hext.set hns _)
    rw [hl2] at r1 r3
    refine ⟨H',b',?_,r2,?_,r4⟩
    · rw [show acc.length + (t + 1) = acc.length + 1 + t by omega,← r1]
      have hm1:acc.length + 1 ≤ 4294967296:=by omega
      rw [List.map_append]
      simp only [List.map_cons,List.map_nil]
      unfold yA
      conv=>lhs; rw [a238l1_run]
      simp (maxSteps:=1000000) (disch:=first | omega | decide) only [si,sf,simprocAttr,a238b1,a238R,hjl,fA,hmul,hs,hm1,maxLenA]
    · rw [show acc.length + (t + 1) = acc.length + 1 + t by omega,r3,List.drop_eq_getElem_cons hjl]
      simp only [List.map_cons,List.append_assoc,List.cons_append,List.nil_append]
theorem i_apply (m:Mp) (x:List (Int × Int)) (A N L:Nat) (hm:m.length < 2147483648) (hnd:(m.map (·.1)).Nodup) (hxl:x.length < 1000) (hx:∀ p ∈ x,p.2.natAbs ≤ A) (hF:∀ id,Bd N (imgF m id) ∧ (imgF m id).length ≤ L) (hL:L ≤ 1000)
    (hA:A < BIG) (hN:N < BIG) (hB:A * N * (L * x.length + 1) < BIG) (hk:∀ id,∀ p ∈ imgF m id,in64 p.1 = true) (H:Heap) (o:Nat) (hix:IX H o m) :
    ∃ H' b,call E2 GP 238 [.ptr o 0 [],.isl (x.map fA)] H = some (if (∀ p ∈ x,(findM m p.1).isSome = true) then .tup [.isl ((appF (imgF m) x).map fA),.int .i64 0] else .tup [.isl [],.int .i64 290],H',b) ∧ IX H' o m ∧ Ext o H H':=by
  have hE2:∀ a H,E2 238 a H = none:=fun a H=>E2_none (by decide) (by decide)
  have hstart:(H ++ [AObj.arr 0 3 []])[H.length]? = some (.arr 0 3 []):=by simp
  have hprod:=prods_bd (imgF m) A N L hF
  have hplen:∀ i,(prods (imgF m) (x.take i)).length ≤ L * x.length:=fun i=>Nat.le_trans (hprod (x.take i) (fun p hp=>hx p (List.mem_of_mem_take hp))).2 (Nat.mul_le_mul_left _ (by simp; omega))
  have hLx:L * x.length ≤ 1000 * 1000:=Nat.mul_le_mul hL (by omega)
  have hstep:∀ i,i < x.length → (∀ hi:i < x.length,(findM m x[i].1).isSome = true) → ∀ st,(∃ H1 b,st = ast0 o x H.length (prods (imgF m) (x.take i)).length i H1 b ∧ IX H1 o m ∧ H1[H.length]? = some (.arr (prods (imgF m) (x.take i)).length 3 ((prods (imgF m) (x.take i)).map fA)) ∧ Ext2 H.length o H H1) →
      ∃ st',(∃ H1 b,st' = ast0 o x H.length (prods (imgF m) (x.take (i + 1))).length (i + 1) H1 b ∧ IX H1 o m ∧ H1[H.length]? = some (.arr (prods (imgF m) (x.take (i + 1))).length 3 ((prods (imgF m) (x.take (i + 1))).map fA)) ∧ Ext2 H.length o H H1) ∧ run E2 GP a238l0 st = run E2 GP a238l0 st':=by
    rintro i hi hs st ⟨H1,b,rfl,h1,h2,h3⟩
    obtain ⟨H2,b2,f1,f2,f3⟩:=i_find m hm hnd H1 o x[i].1 h1
    obtain ⟨y,hy⟩:=Option.isSome_iff_exists.1 (hs hi)
    have him:imgF m x[i].1 = y:=by unfold imgF; rw [hy]; rfl
    rw [hy] at f1
    simp only [Option.isSome_some] at f1
    have hyb:=hF x[i].1
    rw [him] at hyb
    have hsl:H.length < H1.length:=(List.getElem?_eq_some_iff.1 h2).1
    have h2':H2[H.length]? = some (.arr (prods (imgF m) (x.take i)).length 3 ((prods (imgF m) (x.take i)).map fA)):=by
      rw [f3.2 H.length hsl (h1.ne h2)]; exact h2
    have hl1:=hplen i
    obtain ⟨H3,b3,r1,r2,r3,r4⟩:=apply_inner o H.length i x hi y (by omega) (fun q hq=>sm_of hN (hyb.1 q hq)) (sm_of hA (hx _ (List.getElem_mem hi))) (.bool false) m H.length H y.length 0 _ H2 b2 (by omega) (by omega) f2 h2' (Nat.le_refl _) (h3.ext f3)
    have es:=prods_succ (imgF m) hi
    rw [him] at es
    rw [List.drop_zero,← es] at r3
    have el:(prods (imgF m) (x.take (i + 1))).length = (prods (imgF m) (x.take i)).length + y.length:=by rw [es]; simp
    rw [← el] at r1 r3
    refine ⟨_,⟨H3,b || b3,rfl,r2,r3,r4⟩,?_⟩
    unfold ast0
    generalize (prods (imgF m) (x.take (i + 1))).length = k2 at *
    generalize (prods (imgF m) (x.take i)).length = k1 at *
    unfold yA at *
    simp only [fA,Int.ofNat_zero] at r1
    conv=>lhs; rw [a238l0_run]
    simp (maxSteps:=1000000) (disch:=first | omega | decide) only [si,sf,simprocAttr,a238b0,a238R,hi,fA,f1,r1]
  have h0:∃ H1 b,ast0 o x H.length 0 0 (H ++ [.arr 0 3 []]) false = ast0 o x H.length (prods (imgF m) (x.take 0)).length 0 H1 b ∧ IX H1 o m ∧ H1[H.length]? = some (.arr (prods (imgF m) (x.take 0)).length 3 ((prods (imgF m) (x.take 0)).map fA)) ∧ Ext2 H.length o H H1 :=
    ⟨H ++ [.arr 0 3 []],false,rfl,hix.push _,hstart,by simp,fun j hj _=>List.getElem?_append_left hj⟩
  rcases first_bad (fun i=>∀ hi:i < x.length,(findM m x[i].1).isSome = true) x.length with hall | ⟨j,hj,hbad,hbefore⟩
  · have hp:∀ p ∈ x,(findM m p.1).isSome = true:=fun p hp=>by
      obtain ⟨i,hi,rfl⟩:=List.getElem_of_mem hp
      exact hall i hi hi
    rw [if_pos hp]
    obtain ⟨st,⟨H1,b,rfl,h1,h2,h3⟩,hl⟩:=loop_ex _ x.length _ h0 (fun i hi=>hstep i hi (hall i hi))
    rw [List.take_length] at *
    have he:run E2 GP a238l0 (ast0 o x H.length (prods (imgF m) x).length x.length H1 b) = some (.exit 0,{ vars:=[.ptr o 0 [],.isl (x.map fA),.isl [],.int .i64 0,.sl H.length (prods (imgF m) x).length 3 0 (prods (imgF m) x).length,.u,.u,.isl (x.map fA),.int .i64 x.length,.int .i64 x.length,.bool false,.u,.u,.u,.u,.u,.u,.u],heap:=H1,rs:=b }):=by
      unfold ast0
      rw [a238l0_run]
      simp (maxSteps:=1000000) (disch:=first | omega | decide) only [si,sf,simprocAttr,a238b0,a238R,Nat.lt_irrefl]
    rw [he] at hl
    obtain ⟨pb,pl⟩:=hprod x hx
    have hmake:=fun H=>i_make (prods (imgF m) x) (A * N) pb (by omega) (Nat.lt_of_le_of_lt (Nat.mul_le_mul_left _ (by omega)) hB) (fun p hp=>by
      unfold prods at hp
      obtain ⟨q,_,hp⟩:=List.mem_flatMap.1 hp
      obtain ⟨z,hz,rfl⟩:=List.mem_map.1 hp
      exact hk q.1 z hz) H
    rw [prods_make] at hmake
    have hcon:=up (con_make2 _ _ hmake H1 H.length _ h2)
    refine ⟨H1.set H.length .dead,b,?_,h1.set h2 _,(h3.set (Nat.le_refl _) _)⟩
    rw [call_fun (hE2 _ _) (f:=a238) rfl rfl]
    have hl:run E2 GP a238l0 { vars:=[.ptr o 0 [],.isl (x.map fA),.isl [],.int .i64 0,.sl H.length 0 3 0 0,.u,.u,.isl (x.map fA),.int .i64 x.length,.int .i64 0,.u,.u,.u,.u,.u,.u,.u,.u],heap:=H ++ [.arr 0 3 []],rs:=false } = _:=hl
    rw [show x.foldl (fun a p=>add26 a (imgF m p.1) p.2) [] = appF (imgF m) x from rfl] at hcon
    generalize appF (imgF m) x = y at *
    simp (maxSteps:=1000000) (disch:=first | omega | decide) only [si,sf,simprocAttr,a238,a238R,hl,hcon]
  · have hnp:¬ ∀ p ∈ x,(findM m p.1).isSome = true:=fun h=>hbad fun hi=>h _ (List.getElem_mem hi)
    rw [if_neg hnp]
    obtain ⟨st,⟨H1,b,rfl,h1,h2,h3⟩,hl⟩:=loop_ex _ j _ h0 (fun i hi=>hstep i (by omega) (hbefore i hi))
    obtain ⟨H2,b2,f1,f2,f3⟩:=i_find m hm hnd H1 o x[j].1 h1
    have hno:findM m x[j].1 = none:=by
      cases h:findM m x[j].1 with
      | none=>rfl
      | some y=>exact absurd (fun _=>by rw [h]; rfl) hbad
    rw [hno] at f1
    simp only [Option.isSome_none] at f1
    have he:∃ w4 w5 w7,run E2 GP a238l0 (ast0 o x H.length (prods (imgF m) (x.take j)).length j H1 b) = some (.ret,{ vars:=[.ptr o 0 [],.isl (x.map fA),.isl [],.int .i64 290,w4,w5,.bool false,.isl (x.map fA),.int .i64 x.length,.int .i64 j,.bool true,.bool true,.u,.u,.u,.u,w7,.u],heap:=H2,rs:=b || b2 }):=by
      refine ⟨.sl H.length (prods (imgF m) (x.take j)).length 3 0 (prods (imgF m) (x.take j)).length,.nl,fA x[j],?_⟩
      unfold ast0
      generalize (prods (imgF m) (x.take j)).length = k1 at *
      simp only [fA]
      rw [a238l0_run]
      simp (maxSteps:=1000000) (disch:=first | omega | decide) only [si,sf,simprocAttr,a238b0,a238R,hj,fA,f1]
    obtain ⟨w4,w5,w7,he⟩:=he
    rw [he] at hl
    refine ⟨H2,b || b2,?_,f2,(h3.ext f3)⟩
    rw [call_fun (hE2 _ _) (f:=a238) rfl rfl]
    have hl:run E2 GP a238l0 { vars:=[.ptr o 0 [],.isl (x.map fA),.isl [],.int .i64 0,.sl H.length 0 3 0 0,.u,.u,.isl (x.map fA),.int .i64 x.length,.int .i64 0,.u,.u,.u,.u,.u,.u,.u,.u],heap:=H ++ [.arr 0 3 []],rs:=false } = _:=hl
    simp (maxSteps:=1000000) (disch:=first | omega | decide) only [si,sf,simprocAttr,a238,a238R,hl]
end Tor
namespace Tor
open Go
theorem i_Apply (m:Mp) (x:List (Int × Int)) (A N L:Nat) (hm:m.length < 2147483648) (hnd:(m.map (·.1)).Nodup) (hxl:x.length < 1000) (hx:∀ p ∈ x,p.2.natAbs ≤ A) (hF:∀ id,Bd N (imgF m id) ∧ (imgF m id).length ≤ L) (hL:L ≤ 1000)
    (hA:A < BIG) (hN:N < BIG) (hB:A * N * (L * x.length + 1) < BIG) (hk:∀ id,∀ p ∈ imgF m id,in64 p.1 = true) (H:Heap) :
    call E2 GP 219 [.isl (m.map mA),.isl (x.map fA)] H = some (if (∀ p ∈ x,(findM m p.1).isSome = true) then .tup [.isl ((appF (imgF m) x).map fA),.int .i64 0] else .tup [.isl [],.int .i64 290],H,false):=by
  obtain ⟨H',b,h1,_,_⟩:=i_apply m x A N L hm hnd hxl hx hF hL hA hN hB hk [.var (idx0 m)] 0 (.inl rfl)
  rw [call_fun (E2_none (by decide) (by decide)) (f:=a219) rfl rfl]
  unfold idx0 onceV at h1
  by_cases h:∀ p ∈ x,(findM m p.1).isSome = true
  · rw [if_pos h] at h1 ⊢
    generalize appF (imgF m) x = y at *
    simp (maxSteps:=1000000) (disch:=first | omega | decide) only [si,sf,simprocAttr,doBox,a219,a219R,h1]
  · rw [if_neg h] at h1 ⊢
    simp (maxSteps:=1000000) (disch:=first | omega | decide) only [si,sf,simprocAttr,doBox,a219,a219R,h1]
def E2n (n:Nat):CallF:=fun g args H=>if g = 253 then onceCall (callN E1 GP n) H args else E1 g args H
theorem onceCall_mono {K K':CallF} (h:CLe K K') {H args r} (e:onceCall K H args = some r):onceCall K' H args = some r:=by
  unfold onceCall at e ⊢
  split at e
  case h_2=>cases e
  rename_i o p c caps
  try simp only
  unfold onceA at e ⊢
  split at e
  case h_2=>cases e
  try simp only
  split at e
  case isFalse hd=>rw [if_neg hd]; exact e
  rename_i hd
  rw [if_pos hd]
  unfold onceB at e ⊢
  split at e
  case h_2=>cases e
  try simp only
  split at e
  case isFalse=>cases e
  rename_i hm
  rw [if_pos hm]
  cases hs:doStore 1 H (stA o p) (.int .i32 1) with
  | none=>rw [hs] at e; cases e
  | some q =>
    obtain ⟨y,H1,b⟩:=q
    rw [hs] at e
    simp only [onceC] at e ⊢
    split at e
    case isFalse=>cases e
    rename_i hg
    rw [if_pos hg]
    cases hk:K c caps H1 with
    | none=>rw [hk] at e; cases e
    | some z=>rw [hk] at e; rw [h _ _ _ _ hk]; exact e
theorem E2n_le (m:Nat) {n g a H r} (h:callN (E2n m) GP n g a H = some r):call E2 GP g a H = some r:=by
  have hE:CLe (E2n m) E2:=fun g a H r h=>by
    unfold E2n at h
    unfold E2
    split at h
    · rename_i hg; rw [if_pos hg]; exact onceCall_mono (callN_call m) h
    · rename_i hg; rw [if_neg hg]; exact h
  have key:∀ n,RLe (runN (E2n m) GP n) (runN E2 GP n) ∧ CLe (callN (E2n m) GP n) (callN E2 GP n):=by
    intro n
    induction n with
    | zero=>exact ⟨fun c st r e=>(by rw [runN] at e; cases e),fun g a H r e=>(by rw [callN] at e; cases e)⟩
    | succ n ih =>
      refine ⟨fun c st r e=>?_,fun g a H r e=>?_⟩
      · rw [runN] at e ⊢; exact stepRun_mono ih.2 ih.1 _ _ _ e
      · rw [callN] at e ⊢
        have e2:=stepCall_mono ih.1 _ _ _ _ e
        unfold stepCall at e2 ⊢
        cases h1:E2n m g a H with
        | some q=>rw [h1] at e2; rw [hE g a H q h1]; exact e2
        | none =>
          rw [h1] at e2
          by_cases hg:g = 253
          · subst hg
            simp only [callE] at e2
            rw [show GP 253 = none from rfl] at e2
            cases e2
          · have q1:E2n m g a H = E1 g a H:=if_neg hg
            rw [show E2 g a H = E1 g a H from if_neg hg,← q1,h1]; exact e2
  exact call_of ((key n).2 _ _ _ _ h)
theorem san29_0:callN (E2n 200) GP 2000 211 [] [] = some (.bool true,[],false):=by kernel_rfl
theorem san29 (H:Heap):call E2 GP 211 [] H = some (.bool true,H,false):=by
  have h:=E2n_le 200 san29_0
  rw [call_fun (E2_none (by decide) (by decide)) (f:=a211) rfl rfl] at h ⊢
  have hm:a211.mode = .iso:=rfl
  rw [hm] at h ⊢
  simp only [callFun] at h ⊢
  cases hr:runIso (run E2 GP) a211 [] with
  | none=>rw [hr] at h; cases h
  | some r=>rw [hr] at h; simp only [withHeap,Option.some.injEq,Prod.mk.injEq] at h ⊢; simpa using h.1
end Tor
namespace Tor
open Go
structure CM (a b:List Cel) (u:Nat) (M:Mp):Prop where
  ids:M.map (·.1) = idsC a
  gc:∀ p ∈ M,GC (idsC b) u p.2
theorem idsC_nodup {c:List Cel} (h:c.Pairwise (fun x y=>x.id < y.id)):(idsC c).Nodup:=by
  unfold idsC
  rw [List.Nodup,List.pairwise_map]
  exact h.imp fun h=>by omega
theorem findM_mem {M:Mp} {id:Int} {y:List (Int × Int)} (h:findM M id = some y):(id,y) ∈ M:=by
  induction M with
  | nil=>cases h
  | cons p r ih =>
    rw [findM_cons] at h
    split at h
    · rename_i e
      cases h
      rw [← e]
      exact .head _
    · exact .tail _ (ih h)
theorem findM_some {M:Mp} {id:Int} (h:id ∈ M.map (·.1)):(findM M id).isSome = true:=by
  induction M with
  | nil=>cases h
  | cons p r ih =>
    rw [findM_cons]
    split
    · rfl
    · rename_i e
      simp only [List.map_cons,List.mem_cons] at h
      exact ih (h.resolve_left fun e2=>e e2.symm)
section
variable {a b:List Cel} {u:Nat} {M:Mp}
theorem CM.len (h:CM a b u M):M.length = a.length:=by
  have:=congrArg List.length h.ids
  simpa [idsC] using this
theorem CM.isS (h:CM a b u M) {id:Int} (hi:id ∈ idsC a):(findM M id).isSome = true:=findM_some (by rw [h.ids]; exact hi)
theorem CM.img (h:CM a b u M) (id:Int):GC (idsC b) u (imgF M id):=by
  unfold imgF
  cases hf:findM M id with
  | none=>exact GC.nil
  | some y=>exact h.gc _ (findM_mem hf)
theorem CM.all (h:CM a b u M) {s:Nat} {x:List (Int × Int)} (hx:GC (idsC a) s x):∀ p ∈ x,(findM M p.1).isSome = true:=fun p hp=>h.isS (hx.key p hp)
theorem CM.app (h:CM a b u M) (ha:(idsC a).length ≤ 11) (hb:(idsC b).length ≤ 11) {s:Nat} {x:List (Int × Int)} (hx:GC (idsC a) s x) {v:Nat} (hv:s + u + 7 ≤ v):GC (idsC b) v (appF (imgF M) x) :=
  gapp hb ha hx h.img hv
theorem CM.apply (h:CM a b u M) (hnd:(idsC a).Nodup) (ha:(idsC a).length ≤ 11) (hb:(idsC b).length ≤ 11) (hk:∀ k ∈ idsC b,in64 k = true) {s:Nat} {x:List (Int × Int)} (hx:GC (idsC a) s x) (hs:s + u ≤ 14000000000) (H:Heap) :
    call E2 GP 219 [.isl (M.map mA),.isl (x.map fA)] H = some (.tup [.isl ((appF (imgF M) x).map fA),.int .i64 0],H,false):=by
  have hl:=h.len
  have hal:a.length ≤ 11:=by simpa [idsC] using ha
  have hxl:=hx.len
  have hB:2 ^ s * 2 ^ u * (11 * x.length + 1) < BIG:=by
    rw [← Nat.pow_add]
    exact mul_big (j:=7) (Nat.le_refl _) (by omega) (by omega)
  have:=i_Apply M x (2 ^ s) (2 ^ u) 11 (by omega) (by rw [h.ids]; exact hnd) (by omega) hx.bd (fun id=>⟨(h.img id).bd,Nat.le_trans (h.img id).len hb⟩) (by omega) (pow5_big (by omega)) (pow5_big (by omega)) hB (fun id p hp=>hk _ ((h.img id).key p hp)) H
  rw [if_pos (h.all hx)] at this
  exact this
theorem CM.rapply (h:CM a b u M) (ha:(idsC a).length ≤ 11) (hb:(idsC b).length ≤ 11) {s:Nat} {x:List (Int × Int)} (hx:GC (idsC a) s x) (hs:s + u ≤ 14000000000) {E:CallF} (hE:Free E) (H:Heap) :
    call E GP 243 [.isl (M.map mA),.isl (x.map fA)] H = some (.tup [.isl ((appF (imgF M) x).map fA),.int .i64 0],H,false) ∧
    call E GP 221 [.isl (M.map mA),.isl (x.map fA)] H = some (.isl ((appF (imgF M) x).map fA),H,false):=by
  have hl:=h.len
  have hal:a.length ≤ 11:=by simpa [idsC] using ha
  have hxl:=hx.len
  have hB:2 ^ s * 2 ^ u * (11 + 1) * (x.length + 1) < BIG:=by
    rw [← Nat.pow_add,Nat.mul_assoc]
    exact mul_big (j:=8) (Nat.le_refl _) (by omega) (by omega)
  have h1:=r29_apply hE M x (2 ^ s) (2 ^ u) 11 (by omega) (by omega) hx.bd (fun id=>⟨(h.img id).bd,Nat.le_trans (h.img id).len hb⟩) (by omega) (pow5_big (by omega)) (pow5_big (by omega)) hB H
  rw [if_pos (h.all hx)] at h1
  exact ⟨h1,r29_image hE M x (2 ^ s) (2 ^ u) 11 (by omega) (by omega) hx.bd (fun id=>⟨(h.img id).bd,Nat.le_trans (h.img id).len hb⟩) (by omega) (pow5_big (by omega)) (pow5_big (by omega)) hB (h.all hx) H⟩
end
theorem hom_take (c:List Cel) (l:List Int) (N:Int) {n:Nat} (hn:n ≤ c.length):(hom c l N).take n = (List.range n).map (homI c l N):=by
  unfold hom
  rw [← List.map_take,List.take_range,Nat.min_eq_left hn]
theorem hom_cm {c s m e} (g:Good c s m) (hm:m ≤ 11) (he:∀ k,s.b k ≤ e) (hee:e ≤ 1000000000) (l:List Int) {N:Int} (hN:-3 ≤ N ∧ N ≤ 3) {n:Nat} (hn:n ≤ c.length):CM (c.take n) c (e + 170) ((hom c l N).take n):=by
  rw [hom_take c l N hn]
  refine ⟨?_,fun p hp=>?_⟩
  · unfold idsC
    rw [List.map_map]
    apply List.ext_getElem
    · simp; omega
    · intro i h1 h2
      have hi:i < c.length:=by simp at h2; omega
      simp [homI,List.getD,hi]
  · obtain ⟨i,hi,rfl⟩:=List.mem_map.1 hp
    exact hom_gc g hm he hee l hN (by have:=List.mem_range.1 hi; omega)
end Tor
namespace Tor
open Go
theorem GC.valid {S u x} (h:GC S u x) (hu:u ≤ 15000000000) (hS:S.length ≤ 11) (H:Heap):call E1 GP 17 [.isl (x.map fA)] H = some (.bool true,H,false):=by
  have:=r26_valid free1 x (h.sm hu) (by have:=h.len; omega) H
  rwa [canon_valid _ h.can] at this
def rS:Shp:=.agg [.agg [.int .u8,.sl (.agg [.int .i8,.int .i8,.int .i8,.int .i8])],.int .u8,.int .i8,.sl (.int .i8)]
theorem fits_rS {y:AV} (h:Fits rS y):∃ k ds a N l,y = rawA k ds a N l ∧ k < 256 ∧ (∀ x ∈ ds,x.ok) ∧ ds.length ≤ 9223372036854775807 ∧ a < 256 ∧ (-128 ≤ N ∧ N ≤ 127) ∧ l.length ≤ 9223372036854775807 ∧ ∀ x ∈ l,-128 ≤ x ∧ x ≤ 127:=by
  simp only [rS,Fits,Fitss] at h
  obtain ⟨l0,rfl,x,r,rfl,hx,x2,r2,rfl,⟨a,rfl,ha⟩,x3,r3,rfl,⟨N,rfl,hN⟩,x4,r4,rfl,⟨l,rfl,hll,hl⟩,rfl⟩:=h
  obtain ⟨l1,rfl,y1,q1,rfl,⟨k,rfl,hk⟩,y2,q2,rfl,⟨l2,rfl,hl2l,hl2⟩,rfl⟩:=hx
  obtain ⟨ds,rfl,hds⟩:=fits_list (fun y hy=>fits_gA hy) l2 hl2
  obtain ⟨d,rfl,hd⟩:=fits_list (fun y hy=>fits_bA hy) l hl
  have k1:(0:Int) ≤ k:=hk.1
  have k2:k ≤ 255:=hk.2
  have a1:(0:Int) ≤ a:=ha.1
  have a2:a ≤ 255:=ha.2
  refine ⟨k.toNat,ds,a.toNat,N,d,?_,by omega,hds,by simpa [maxLen] using hl2l,by omega,hN,by simpa [maxLen] using hll,hd⟩
  unfold rawA
  rw [Int.toNat_of_nonneg k1,Int.toNat_of_nonneg a1]
end Tor
namespace Tor
open Go
theorem CM.comp {a b c:List Cel} {u v w:Nat} {M N:Mp} (h:CM a b u M) (k:CM b c v N) (hb:(idsC b).length ≤ 11) (hc:(idsC c).length ≤ 11) (hw:u + v + 7 ≤ w):CM a c w (compM M N):=by
  refine ⟨?_,fun p hp=>?_⟩
  · rw [← h.ids]; unfold compM; rw [List.map_map]; rfl
  · obtain ⟨q,hq,rfl⟩:=List.mem_map.1 hp
    exact k.app hb hc (h.gc q hq) (by omega)
def cst (M N:Mp) (i:Nat) (H:Heap) (b:Bool):St :=
  { vars:=[.isl (M.map mA),.isl (N.map mA),.isl [],.int .i64 0,.ptr 0 0 [],.sl 1 i 2 0 i,.u,.u,.isl (M.map mA),.int .i64 M.length,.int .i64 (i:Nat),.u,.u,.u],heap:=H,rs:=b }
end Tor
namespace Tor
open Go
structure VM (a b:List Cel) (u:Nat) (M:Mp):Prop where
  cm:CM a b u M
  key:∀ i (hi:i < a.length) (hj:i < M.length),∀ p ∈ M[i].2,p.1 ∈ cellsC b a[i].dim
  com:∀ i (hi:i < a.length) (hj:i < M.length),bnd26 b M[i].2 = appF (imgF M) a[i].b
def vst29 (a b:List Cel) (M:Mp) (i:Nat) (H:Heap) (f:Bool):St :=
  { vars:=[.isl (a.map cA),.isl (b.map cA),.isl (M.map mA),.bool false,.ptr 0 0 [],.u,.u,.u,.u,.u,.u,.bool false,.isl (a.map cA),.int .i64 a.length,.int .i64 (i:Nat),.u,.u,.u,.u],heap:=H,rs:=f }
theorem VM.valid {a b:List Cel} {sa sb:GS} {ma mb ea eb u:Nat} {M:Mp} (h:VM a b u M) (ga:Good a sa ma) (gb:Good b sb mb) (hma:ma ≤ 11) (hmb:mb ≤ 11) (hea:∀ k,sa.b k ≤ ea) (heb:∀ k,sb.b k ≤ eb) (hu:ea + eb + u ≤ 10000000000) (H:Heap) :
    call E2 GP 213 [.isl (a.map cA),.isl (b.map cA),.isl (M.map mA)] H = some (.bool true,H,false):=by
  have hE2:∀ a H,E2 213 a H = none:=fun a H=>E2_none (by decide) (by decide)
  have ha:=ga.len11 hma
  have hb:=gb.len11 hmb
  have hkb:=gb.ids64 hmb
  have hnd:=idsC_nodup ga.ids
  have hMl:=h.cm.len
  have hal:a.length ≤ 11:=by simpa [idsC] using ha
  have hbl:b.length ≤ 11:=by simpa [idsC] using hb
  have hsm:SmM M:=fun p hp=>⟨(h.cm.gc p hp).sm (by omega),by have:=(h.cm.gc p hp).len; omega⟩
  have hok:okM a M:=⟨hMl.symm,fun i hi hj=>⟨by
      have:=congrArg (fun l=>l[i]?) h.cm.ids
      simp only [idsC,List.getElem?_map,List.getElem?_eq_getElem hi,List.getElem?_eq_getElem hj,Option.map_some,Option.some.injEq] at this
      exact this.symm,canon_valid _ (h.cm.gc _ (List.getElem_mem hj)).can⟩⟩
  have f237:=fun H=>up (eq237 free1 a M hsm (by omega) H)
  rw [show decide (okM a M) = true by simpa using hok] at f237
  have hstep:∀ i,i < a.length → ∀ st,(∃ H f,st = vst29 a b M i H f ∧ IX H 0 M) → ∃ st',(∃ H f,st' = vst29 a b M (i + 1) H f ∧ IX H 0 M) ∧ run E2 GP a213l0 st = run E2 GP a213l0 st':=by
    rintro i hi st ⟨H,f,rfl,h1⟩
    have hj:i < M.length:=by omega
    have hg:=h.cm.gc _ (List.getElem_mem hj)
    have hgl:=hg.len
    have hdim:=fun H=>up (c_dim free1 b M[i].2 (by omega) gb.ids (by omega) H)
    have hdo:=dim_of gb (h.key i hi hj)
    rw [hdo] at hdim
    have b6:=good_b6 gb (by omega) heb (hg.ch hb hkb) (e2:=u) (Nat.le_refl _) (by omega) (by omega)
    have hbz:bz b M[i].2 = bnd26 b M[i].2:=by unfold bz; rw [hdo]; rfl
    rw [hdo,hbz,h.com i hi hj] at b6
    have b6:=fun H=>up (b6 H)
    have hgb:=ga.bgc hea (List.getElem_mem hi)
    have hgbl:=hgb.len
    have hB:2 ^ ea * 2 ^ u * (11 * a[i].b.length + 1) < BIG:=by
      rw [← Nat.pow_add]
      exact mul_big (j:=7) (Nat.le_refl _) (by omega) (by omega)
    obtain ⟨H2,b2,f1,f2,f3⟩:=i_apply M a[i].b (2 ^ ea) (2 ^ u) 11 (by omega) (by rw [h.cm.ids]; exact hnd) (by omega) hgb.bd (fun id=>⟨(h.cm.img id).bd,Nat.le_trans (h.cm.img id).len hb⟩) (by omega) (pow5_big (by omega)) (pow5_big (by omega)) hB (fun id p hp=>hkb _ ((h.cm.img id).key p hp)) H 0 h1
    rw [if_pos (h.cm.all hgb)] at f1
    have hga:=h.cm.app ha hb hgb (v:=ea + u + 7) (by omega)
    have hs:=fun H=>up (i_same free1 (appF (imgF M) a[i].b) (appF (imgF M) a[i].b) (hga.sm (by omega)) (hga.sm (by omega)) (by have:=hga.len; omega) H)
    simp only [decide_true] at hs
    have hdr:=ga.dims a[i] (List.getElem_mem hi)
    refine ⟨_,⟨H2,f || b2,rfl,f2⟩,?_⟩
    unfold vst29
    generalize appF (imgF M) a[i].b = y at *
    by_cases h0:M[i].2 = []
    · have hd0:¬ ((-1:Int) ≥ 0):=by omega
      rw [if_pos h0] at hdim
      rw [h0] at hdim b6
      simp only [List.map_nil] at hdim b6
      conv=>lhs; rw [a213l0_run]
      simp (maxSteps:=1000000) (disch:=first | omega | decide) only [si,sf,simprocAttr,a213b0,a213R,hi,hj,cA,mA,h0,hdim,b6,f1,hs,hd0,List.map_nil]
    · have hd0:a[i].dim ≥ 0:=hdr.1
      rw [if_neg h0] at hdim
      conv=>lhs; rw [a213l0_run]
      simp (maxSteps:=1000000) (disch:=first | omega | decide) only [si,sf,simprocAttr,a213b0,a213R,hi,hj,cA,mA,hdim,b6,f1,hs,hd0]
  obtain ⟨st,⟨H1,b1,rfl,h1⟩,hl⟩:=loop_ex _ a.length (vst29 a b M 0 [.var (idx0 M)] false) ⟨_,_,rfl,.inl rfl⟩ hstep
  have he:run E2 GP a213l0 (vst29 a b M a.length H1 b1) = some (.exit 0,{ vars:=[.isl (a.map cA),.isl (b.map cA),.isl (M.map mA),.bool false,.ptr 0 0 [],.u,.u,.u,.u,.u,.u,.bool false,.isl (a.map cA),.int .i64 a.length,.int .i64 a.length,.bool false,.u,.u,.u],heap:=H1,rs:=b1 }):=by
    unfold vst29
    rw [a213l0_run]
    simp (maxSteps:=1000000) (disch:=first | omega | decide) only [si,sf,simprocAttr,a213b0,a213R,Nat.lt_irrefl]
  rw [he] at hl
  have hl:run E2 GP a213l0 { vars:=[.isl (a.map cA),.isl (b.map cA),.isl (M.map mA),.bool false,.ptr 0 0 [],.u,.u,.u,.u,.u,.u,.bool false,.isl (a.map cA),.int .i64 a.length,.int .i64 0,.u,.u,.u,.u],heap:=[.var (idx0 M)],rs:=false } = _:=hl
  rw [call_fun (hE2 _ _) (f:=a213) rfl rfl]
  unfold idx0 onceV at hl
  simp (maxSteps:=1000000) (disch:=first | omega | decide) only [si,sf,simprocAttr,doBox,a213,a213R,f237,hl]
end Tor
namespace Tor
open Go
theorem lin_fadd (f g:Int → Int):∀ x:List (Int × Int),lin (fun i=>f i + g i) x = lin f x + lin g x
  | []=>rfl
  | p :: r=>by simp only [lin]; rw [lin_fadd f g r,Int.mul_add]; omega
theorem lin_fmul (n:Int) (f:Int → Int):∀ x:List (Int × Int),lin (fun i=>n * f i) x = n * lin f x
  | []=>by simp [lin]
  | p :: r=>by
    simp only [lin]; rw [lin_fmul n f r,Int.mul_add]
    have:p.2 * (n * f p.1) = n * (p.2 * f p.1):=by rw [← Int.mul_assoc,Int.mul_comm p.2 n,Int.mul_assoc]
    omega
theorem lin_fzero:∀ x:List (Int × Int),lin (fun _=>0) x = 0
  | []=>rfl
  | p :: r=>by simp only [lin]; rw [lin_fzero r]; simp
theorem lin_one (f:Int → Int) (k:Int):lin f [(k,1)] = f k:=by simp [lin]
theorem bnd26_lin (c:List Cel) (f:Int → Int) (x:List (Int × Int)):lin f (bnd26 c x) = lin (fun i=>lin f (cellOf? c i).b) x:=by
  unfold bnd26; rw [bnd_lin]; simp [lin]
theorem appF_lin' (f:Int → Int) (F:Int → List (Int × Int)) (x:List (Int × Int)):lin f (appF F x) = lin (fun i=>lin f (F i)) x:=by
  unfold appF; rw [app_lin]; simp [lin]
theorem lin_ext {x y:List (Int × Int)} (hx:Canon none x) (hy:Canon none y) (h:∀ f:Int → Int,lin f x = lin f y):x = y :=
  canon_ext x y none none hx hy fun k=>by rw [← lin_look hx,← lin_look hy]; exact h _
def RF (c:List Cel) (l:List Int) (f:Int → Int) (n:Nat) (id:Int):Int:=sumN n fun i=>if id = (c.getD i zC).id then lin f (raise c l i) else 0
theorem liftI_lin (c:List Cel) (l:List Int) (i:Nat) (f:Int → Int):∀ (x a:List (Int × Int)),lin f (liftI c l i x a) = lin f a + lin (fun id=>if id = (c.getD i zC).id then lin f (raise c l i) else 0) x
  | [],a=>by simp [liftI,lin]
  | p :: r,a=>by
    show lin f (liftI c l i r _) = _
    rw [liftI_lin c l i f r]
    simp only [lin]
    split
    · rename_i h
      rw [lin_add]; omega
    · simp; 
theorem lift_lin (c:List Cel) (l:List Int) (f:Int → Int) (x:List (Int × Int)):lin f (lift c l x) = lin (RF c l f c.length) x:=by
  unfold lift
  generalize c.length = n
  induction n with
  | zero=>show 0 = lin (fun _=>0) x; rw [lin_fzero]
  | succ n ih =>
    rw [liftN_succ,liftI_lin,ih,← lin_fadd]; rfl
theorem liftI_key {P:Int → Prop} (c:List Cel) (l:List Int) (i:Nat):∀ (x a:List (Int × Int)),(∀ p ∈ x,p.1 = (c.getD i zC).id → ∀ q ∈ raise c l i,P q.1) → (∀ p ∈ a,P p.1) → ∀ p ∈ liftI c l i x a,P p.1
  | [],a,_,ha=>ha
  | p :: r,a,hx,ha=>by
    refine liftI_key c l i r _ (fun q hq=>hx q (.tail _ hq)) ?_
    show ∀ q ∈ (if p.1 = (c.getD i zC).id then add26 a (raise c l i) p.2 else a),P q.1
    split
    · rename_i h
      exact add_keys _ _ _ (hx p (.head _) h) ha
    · exact ha
theorem lift_key {c:List Cel} {s:GS} {m:Nat} (g:Good c s m) (l:List Int) {k:Int} {x:List (Int × Int)} (hx:∀ p ∈ x,p.1 ∈ cellsC c k):∀ p ∈ lift c l x,p.1 ∈ cellsC c (k + 1):=by
  have:∀ n,n ≤ c.length → ∀ p ∈ liftN c l x n,p.1 ∈ cellsC c (k + 1):=by
    intro n
    induction n with
    | zero=>exact fun _ p hp=>(by cases hp)
    | succ n ih =>
      intro hn
      rw [liftN_succ]
      refine liftI_key c l n x _ (fun p hp he q hq=>?_) (ih (by omega))
      have h1:=raise_key c l n q hq
      unfold upIds at h1
      have hm:c.getD n zC ∈ c:=by simp [List.getD,show n < c.length by omega]
      obtain ⟨y,hy,hd,hid⟩:=cells_mem.1 (hx p hp)
      have:c.getD n zC = y:=by
        have a1:=cellC_mem g.ids hm
        have a2:=cellC_mem g.ids hy
        rw [← a1,← a2,hid,he]
      rw [this,hd] at h1
      exact h1
  exact this _ (Nat.le_refl _)
theorem find_nodup:∀ {M:Mp},(M.map (·.1)).Nodup → ∀ {p:Int × List (Int × Int)},p ∈ M → imgF M p.1 = p.2
  | [],_,_,hp=>by cases hp
  | q :: r,hn,p,hp=>by
    obtain ⟨h1,h2⟩:=List.nodup_cons.1 hn
    have ih:=fun hp=>find_nodup h2 (p:=p) hp
    unfold imgF at ih ⊢
    rw [findM_cons]
    cases hp with
    | head=>rw [if_pos rfl]; rfl
    | tail _ hp =>
      rw [if_neg (fun e=>h1 (by
        have:=List.mem_map_of_mem (f:=(·.1)) hp
        rw [← e] at this; exact this))]
      exact ih hp
section
variable {a b:List Cel} {u:Nat} {M:Mp}
theorem CM.at (h:CM a b u M) (hnd:(idsC a).Nodup) {i:Nat} (hi:i < a.length) (hj:i < M.length):imgF M a[i].id = M[i].2:=by
  have e:M[i].1 = a[i].id:=by
    have:=congrArg (fun l=>l[i]?) h.ids
    simpa only [idsC,List.getElem?_map,List.getElem?_eq_getElem hi,List.getElem?_eq_getElem hj,Option.map_some,Option.some.injEq] using this
  rw [← e]
  exact find_nodup (by rw [h.ids]; exact hnd) (List.getElem_mem hj)
theorem VM.keyAt (h:VM a b u M) (hnd:(idsC a).Nodup) {y:Cel} (hy:y ∈ a):∀ p ∈ imgF M y.id,p.1 ∈ cellsC b y.dim:=by
  obtain ⟨i,hi,rfl⟩:=List.getElem_of_mem hy
  have hj:i < M.length:=by rw [h.cm.len]; exact hi
  rw [h.cm.at hnd hi hj]
  exact h.key i hi hj
theorem VM.comAt (h:VM a b u M) (hnd:(idsC a).Nodup) {y:Cel} (hy:y ∈ a):bnd26 b (imgF M y.id) = appF (imgF M) y.b:=by
  obtain ⟨i,hi,rfl⟩:=List.getElem_of_mem hy
  have hj:i < M.length:=by rw [h.cm.len]; exact hi
  rw [h.cm.at hnd hi hj]
  exact h.com i hi hj
theorem VM.of (h:CM a b u M) (hnd:(idsC a).Nodup) (h1:∀ y ∈ a,∀ p ∈ imgF M y.id,p.1 ∈ cellsC b y.dim) (h2:∀ y ∈ a,bnd26 b (imgF M y.id) = appF (imgF M) y.b):VM a b u M where
  cm:=h
  key:=fun i hi hj=>by rw [← h.at hnd hi hj]; exact h1 _ (List.getElem_mem hi)
  com:=fun i hi hj=>by rw [← h.at hnd hi hj]; exact h2 _ (List.getElem_mem hi)
end
theorem homC_key {c:List Cel} {s:GS} {m:Nat} (g:Good c s m) (l:List Int) (n:Int) {i:Nat} (hi:i < c.length):∀ p ∈ homC c l n i,p.1 ∈ cellsC c (c.getD i zC).dim:=by
  have hci:c.getD i zC ∈ c:=by simp [List.getD,hi]
  have h1:∀ p ∈ [((c.getD i zC).id,(1:Int))],p.1 ∈ cellsC c (c.getD i zC).dim:=fun p hp=>by
    rw [List.mem_singleton] at hp; subst hp
    exact cells_mem.2 ⟨_,hci,rfl,rfl⟩
  have h2:=lift_key g l h1
  have h3:∀ p ∈ bz c (lift c l [((c.getD i zC).id,1)]),p.1 ∈ cellsC c (c.getD i zC).dim:=by
    unfold bz
    rw [dim_of g h2,if_pos rfl]
    have:=bnd_down g h2
    rwa [Int.add_sub_cancel] at this
  have h4:=lift_key g l (g.key _ hci)
  rw [Int.sub_add_cancel] at h4
  exact add_keys _ _ _ h4 (add_keys _ _ _ h3 (add_keys _ _ _ h1 (fun p hp=>by cases hp)))
theorem homC_lin {c:List Cel} {s:GS} {m:Nat} (g:Good c s m) (l:List Int) (n:Int) {i:Nat} (hi:i < c.length) (f:Int → Int) :
    lin f (homC c l n i) = n * f (c.getD i zC).id + RF c l (fun j=>lin f (cellOf? c j).b) c.length (c.getD i zC).id + lin (RF c l f c.length) (c.getD i zC).b:=by
  have hci:c.getD i zC ∈ c:=by simp [List.getD,hi]
  have h1:∀ p ∈ [((c.getD i zC).id,(1:Int))],p.1 ∈ cellsC c (c.getD i zC).dim:=fun p hp=>by
    rw [List.mem_singleton] at hp; subst hp
    exact cells_mem.2 ⟨_,hci,rfl,rfl⟩
  have h2:=lift_key g l h1
  unfold homC bz
  rw [dim_of g h2,if_pos rfl,lin_add,lin_add,lin_add,bnd26_lin,lift_lin,lift_lin,lin_one,lin_one]
  simp [lin]
theorem hom_vm {c:List Cel} {s:GS} {m e:Nat} (g:Good c s m) (hm:m ≤ 11) (he:∀ k,s.b k ≤ e) (hee:e ≤ 1000000000) (l:List Int) {N:Int} (hN:-3 ≤ N ∧ N ≤ 3) {n:Nat} (hn:n ≤ c.length) {s2 m2} (g2:Good (c.take n) s2 m2):VM (c.take n) c (e + 170) ((hom c l N).take n):=by
  have hcm:=hom_cm g hm he hee l hN hn
  have hnd:=idsC_nodup g2.ids
  have himg:∀ y ∈ c.take n,∃ i,i < c.length ∧ c.getD i zC = y ∧ imgF ((hom c l N).take n) y.id = homC c l N i:=by
    intro y hy
    obtain ⟨i,hi,rfl⟩:=List.getElem_of_mem hy
    have hin:i < n:=by simp at hi; omega
    have hic:i < c.length:=by omega
    have hj:i < ((hom c l N).take n).length:=by rw [hcm.len]; exact hi
    refine ⟨i,hic,by simp [List.getD,hic],?_⟩
    rw [hcm.at hnd hi hj,List.getElem_take]
    simp [hom,homI]
  have hsub:∀ y ∈ c.take n,y ∈ c:=fun y hy=>List.mem_of_mem_take hy
  refine VM.of hcm hnd (fun y hy=>?_) (fun y hy=>?_)
  · obtain ⟨i,hi,rfl,e⟩:=himg y hy
    rw [e]
    exact homC_key g l N hi
  · obtain ⟨i,hi,rfl,e⟩:=himg y hy
    rw [e]
    refine lin_ext (bnd_canon c _) (app_canon _ _) fun f=>?_
    have hy':=hsub _ hy
    have hbb:∀ f:Int → Int,lin (fun j=>lin f (cellOf? c j).b) (c.getD i zC).b = 0:=fun f=>by
      rw [← bnd26_lin,← bnd_one g hy',bnd_bnd g (k:=(c.getD i zC).dim) fun p hp=>by
        rw [List.mem_singleton] at hp; subst hp
        exact cells_mem.2 ⟨_,hy',rfl,rfl⟩]
      rfl
    have e1:∀ p ∈ (c.getD i zC).b,lin f (imgF ((hom c l N).take n) p.1) = (N * f p.1 + RF c l (fun j=>lin f (cellOf? c j).b) c.length p.1) + lin (RF c l f c.length) (cellOf? c p.1).b:=fun p hp=>by
      obtain ⟨z,hz,hd,hid⟩:=cells_mem.1 (g2.key _ hy p hp)
      rw [← hid]
      obtain ⟨j,hj,rfl,e⟩:=himg z hz
      rw [e,homC_lin g l N hj f,cellC_mem g.ids (hsub _ hz)]
    have hG:(fun j=>lin (fun j=>lin f (cellOf? c j).b) (cellOf? c j).b) = fun _=>0:=by
      funext j
      unfold cellOf?
      cases hf:findC c j with
      | none=>rfl
      | some z =>
        have hz:z ∈ c:=List.mem_of_find?_eq_some hf
        show lin _ z.b = 0
        have:=bnd_bnd g (x:=[(z.id,1)]) (k:=z.dim) fun p hp=>by
          rw [List.mem_singleton] at hp; subst hp
          exact cells_mem.2 ⟨_,hz,rfl,rfl⟩
        rw [bnd_one g hz] at this
        have h2:=congrArg (lin f) this
        rw [bnd26_lin] at h2
        exact h2
    have hR0:∀ id,RF c l (fun _=>0) c.length id = 0:=fun id=>sumN_zero fun k _=>by rw [lin_fzero]; split <;> rfl
    rw [bnd26_lin,appF_lin',homC_lin g l N hi,hG,hR0,cellC_mem g.ids hy',lin_congr (f:=fun j=>lin f (imgF ((hom c l N).take n) j)) (g:=fun j=>(N * f j + RF c l (fun j=>lin f (cellOf? c j).b) c.length j) + lin (RF c l f c.length) (cellOf? c j).b) e1,lin_fadd,lin_fadd,lin_fmul,hbb (RF c l f c.length)]
    omega
theorem comp_img (M N:Mp) (id:Int):imgF (compM M N) id = appF (imgF N) (imgF M id):=by
  unfold compM
  induction M with
  | nil=>rfl
  | cons p r ih =>
    unfold imgF at ih ⊢
    rw [List.map_cons,findM_cons,findM_cons]
    split
    · rfl
    · exact ih
theorem VM.comp {a b c:List Cel} {u v w:Nat} {M N:Mp} (h:VM a b u M) (k:VM b c v N) (hna:(idsC a).Nodup) (hnb:(idsC b).Nodup) (hb:(idsC b).length ≤ 11) (hc:(idsC c).length ≤ 11) {s:GS} {m:Nat} (gb:Good b s m) {s':GS} {m':Nat} (gc:Good c s' m') (hw:u + v + 7 ≤ w):VM a c w (compM M N):=by
  refine VM.of (h.cm.comp k.cm hb hc hw) hna (fun y hy=>?_) (fun y hy=>?_)
  · rw [comp_img]
    have:∀ (x o:List (Int × Int)),(∀ p ∈ x,p.1 ∈ cellsC b y.dim) → (∀ p ∈ o,p.1 ∈ cellsC c y.dim) → ∀ p ∈ x.foldl (fun a p=>add26 a (imgF N p.1) p.2) o,p.1 ∈ cellsC c y.dim:=by
      intro x
      induction x with
      | nil=>exact fun o _ ho=>ho
      | cons p r ih =>
        refine fun o hx ho=>ih _ (fun q hq=>hx q (.tail _ hq)) (add_keys _ _ _ ?_ ho)
        obtain ⟨z,hz,hd,hid⟩:=cells_mem.1 (hx p (.head _))
        rw [← hid,← hd]
        exact k.keyAt hnb hz
    exact this _ [] (h.keyAt hna hy) (fun p hp=>by cases hp)
  · rw [comp_img]
    refine lin_ext (bnd_canon c _) (app_canon _ _) fun f=>?_
    have h2:=congrArg (lin fun i=>lin f (imgF N i)) (h.comAt hna hy)
    rw [bnd26_lin,appF_lin'] at h2
    rw [bnd26_lin,appF_lin',appF_lin']
    have e1:∀ p ∈ imgF M y.id,lin (fun j=>lin f (cellOf? c j).b) (imgF N p.1) = lin (fun i=>lin f (imgF N i)) (cellOf? b p.1).b:=fun p hp=>by
      obtain ⟨z,hz,hd,hid⟩:=cells_mem.1 (h.keyAt hna hy p hp)
      rw [← hid,cellC_mem gb.ids hz]
      have:=congrArg (lin f) (k.comAt hnb hz)
      rwa [bnd26_lin,appF_lin'] at this
    rw [lin_congr (f:=fun j=>lin (fun j=>lin f (cellOf? c j).b) (imgF N j)) (g:=fun j=>lin (fun i=>lin f (imgF N i)) (cellOf? b j).b) e1,h2]
    refine lin_congr fun p hp=>?_
    rw [comp_img,appF_lin']
end Tor
namespace Tor
open Go
theorem set_same {α:Type} {l:List α} {i:Nat} {x:α} (h:l[i]? = some x):l.set i x = l:=by
  apply List.ext_getElem?
  intro j
  by_cases e:i = j
  · subst e
    have hi:i < l.length:=(List.getElem?_eq_some_iff.1 h).1
    rw [List.getElem?_set_self hi,h]
  · rw [List.getElem?_set_ne e]
def rsK (o R:Nat):List Nat:=(List.range R).map (o + 1 + ·)
def topK (o R C i:Nat):List AV:=tops C (rsK o i) ++ List.replicate (R - i) .nl
theorem rsK_len (o R):(rsK o R).length = R:=by simp [rsK]
theorem topK_len {o R C i} (h:i ≤ R):(topK o R C i).length = R:=by simp [topK,tops_len,rsK_len]; omega
theorem topK_set {o R C i} (h:i < R):(topK o R C i).set i (.sl (o + 1 + i) 0 2 0 C) = topK o R C (i + 1):=by
  unfold topK
  have e:R - i = (R - (i + 1)) + 1:=by omega
  have hl:(tops C (rsK o i)).length = i:=by rw [tops_len,rsK_len]
  rw [e,List.replicate_succ,List.set_append_right _ _ (by omega),hl,Nat.sub_self,List.set_cons_zero]
  simp [tops,rsK,List.range_succ]
structure KH (H K:Heap) (R C i:Nat):Prop where
  top:K[H.length]? = some (.arr 0 1 (topK H.length R C i))
  len:K.length = H.length + 1 + i
  row:∀ j,j < i → K[H.length + 1 + j]? = some (.arr 0 2 (rowA (List.replicate C 0)))
  old:∀ y,y < H.length → K[y]? = H[y]?
def bst18 (o R C i:Nat) (K:Heap) (b:Bool):St :=
  { vars:=[.int .i64 R,.int .i64 C,.fn 250 [],.u,.u,.int .i64 R,.int .i64 (i:Nat),.u,.u,.u,.u,.agg [.int .i64 0,.int .i64 0,.nl],HV o 0 R C],heap:=K,rs:=b }
variable {E:CallF} (hE:Free E)
include hE
theorem i_zero (i j:Int) (H:Heap):call E GP 250 [.int .i64 i,.int .i64 j] H = some (Z 0,H,false):=by
  rw [call_fun (hE _ _ _ (by decide)) (f:=a250) rfl rfl]
  rw [Z_zero]
  simp (maxSteps:=1000000) (disch:=first | omega | decide) only [si,sf,simprocAttr,a250,a250R]
theorem build_step (H:Heap) (R C:Nat) (hR:R < 2147483648) (hC:C < 2147483648) (i:Nat) (hi:i < R) (st:St) (h:∃ K b,st = bst18 H.length R C i K b ∧ KH H K R C i) :
    ∃ st',(∃ K b,st' = bst18 H.length R C (i + 1) K b ∧ KH H K R C (i + 1)) ∧ run E GP a251l0 st = run E GP a251l0 st':=by
  obtain ⟨K,b,rfl,h1,h2,h3,h4⟩:=h
  let K':Heap:=(K ++ [AObj.arr 0 2 (rowA (List.replicate C 0))]).set H.length (.arr 0 1 (topK H.length R C (i + 1)))
  have hk':KH H K' R C (i + 1):=by
    refine ⟨?_,by simp [K',h2]; omega,fun j hj=>?_,fun y hy=>?_⟩
    · exact List.getElem?_set_self (by simp [h2]; omega)
    · simp only [K']
      rw [List.getElem?_set_ne (by omega)]
      by_cases e:j = i
      · subst e
        rw [List.getElem?_append_right (by omega),h2,Nat.sub_self]; rfl
      · rw [List.getElem?_append_left (by omega)]; exact h3 j (by omega)
    · simp only [K']
      rw [List.getElem?_set_ne (by omega),List.getElem?_append_left (by omega)]; exact h4 y hy
  refine ⟨_,⟨K',true,rfl,hk'⟩,?_⟩
  have g1:(K ++ [AObj.arr 0 2 (rowA (List.replicate C 0))])[H.length]? = some (.arr 0 1 (topK H.length R C i)):=by
    rw [List.getElem?_append_left (by omega)]; exact h1
  have tl:=topK_len (o:=H.length) (R:=R) (C:=C) (i:=i) (by omega)
  have ts:=topK_set (o:=H.length) (R:=R) (C:=C) (i:=i) hi
  have hrow:=hk'.row i (by omega)
  have htop:=hk'.top
  have hrg:(topK H.length R C (i + 1))[i]? = some (.sl (H.length + 1 + i) 0 2 0 C):=by
    unfold topK
    rw [List.getElem?_append_left (by rw [tops_len,rsK_len]; omega),tops_get (by rw [rsK_len]; omega)]
    simp [rsK,List.getD]
  have hz:=fun i j H=>i_zero hE i j H
  let T:Nat → St:=fun j=>{ vars:=[.int .i64 R,.int .i64 C,.fn 250 [],.int .i64 (i:Nat),.u,.int .i64 R,.int .i64 (i:Nat),.bool true,.int .i64 C,.int .i64 (j:Nat),.u,.agg [.int .i64 0,.int .i64 0,.nl],HV H.length 0 R C],heap:=K',rs:=true }
  have hinner:∀ j,j < C → run E GP a251l1 (T j) = run E GP a251l1 (T (j + 1)):=by
    intro j hj
    have hzl:(rowA (List.replicate C 0)).length = C:=by simp [rowA_len]
    have hzs:(rowA (List.replicate C 0)).set j (Z 0) = rowA (List.replicate C 0):=by
      rw [rowA_set]; congr 1; exact set_same (by simp [hj])
    have hzg:(rowA (List.replicate C 0))[j]? = some (Z 0):=by
      rw [rowA_get (by simp [hj])]; simp [List.getD,hj]
    have hks:K'.set (H.length + 1 + i) (.arr 0 2 (rowA (List.replicate C 0))) = K':=set_same hrow
    have htl':=topK_len (o:=H.length) (R:=R) (C:=C) (i:=i + 1) (by omega)
    show run E GP a251l1 { vars:=_,heap:=_,rs:=_ } = run E GP a251l1 { vars:=_,heap:=_,rs:=_ }
    unfold HV
    generalize K' = Y at *
    generalize rowA (List.replicate C 0) = zr at *
    generalize topK H.length R C (i + 1) = tp at *
    conv=>lhs; rw [a251l1_run]
    simp (maxSteps:=1000000) (disch:=first | omega | decide) only [si,sf,simprocAttr,a251b1,a251R,hj,hi,htop,hrg,htl',hrow,hzl,hzg,hz,hzs,hks]
  have hl:=loop_ind T _ C hinner rfl
  have he:run E GP a251l1 (T C) = some (.exit 2,{ vars:=[.int .i64 R,.int .i64 C,.fn 250 [],.int .i64 (i:Nat),.u,.int .i64 R,.int .i64 (i:Nat),.bool true,.int .i64 C,.int .i64 C,.bool false,.agg [.int .i64 0,.int .i64 0,.nl],HV H.length 0 R C],heap:=K',rs:=true }):=by
    show run E GP a251l1 { vars:=_,heap:=_,rs:=_ } = _
    unfold HV
    rw [a251l1_run]
    simp (maxSteps:=1000000) (disch:=first | omega | decide) only [si,sf,simprocAttr,a251b1,a251R,Nat.lt_irrefl]
  rw [he] at hl
  have hl:run E GP a251l1 { vars:=[.int .i64 R,.int .i64 C,.fn 250 [],.int .i64 (i:Nat),.u,.int .i64 R,.int .i64 (i:Nat),.bool true,.int .i64 C,.int .i64 0,.u,.agg [.int .i64 0,.int .i64 0,.nl],HV H.length 0 R C],heap:=K',rs:=true } = _:=hl
  have hc1:(C:Int) ≤ 4294967296:=by omega
  have hc2:(0:Int) ≤ (C:Int):=by omega
  have hgi:(topK H.length R C i)[i]? = some .nl:=by
    unfold topK
    rw [List.getElem?_append_right (by rw [tops_len,rsK_len]; omega),tops_len,rsK_len,Nat.sub_self,List.getElem?_replicate,if_pos (by omega)]
  have ek:K' = (K ++ [AObj.arr 0 2 (rowA (List.replicate C 0))]).set H.length (.arr 0 1 ((topK H.length R C i).set i (.sl (H.length + 1 + i) 0 2 0 C))):=by rw [ts]
  unfold bst18
  unfold HV at hl ⊢
  conv=>lhs; rw [a251l0_run]
  simp (maxSteps:=1000000) (disch:=first | omega | decide) only [si,sf,simprocAttr,a251b0,a251R,hi,g1,tl,hgi,h2,rowA_zero,hc1,hc2,maxLenA,← ek,hl]
theorem i_build (R C:Nat) (hR:R < 2147483648) (hC:C < 2147483648) (H:Heap):∃ K b,call E GP 281 [.int .i64 R,.int .i64 C,.fn 250 []] H = some (HV H.length 0 R C,K,b) ∧ KH H K R C R:=by
  have h0:KH H (H ++ [.arr 0 1 (List.replicate R .nl)]) R C 0:=by
    refine ⟨?_,by simp,fun j hj=>by omega,fun y hy=>List.getElem?_append_left hy⟩
    rw [List.getElem?_append_right (Nat.le_refl _),Nat.sub_self]
    simp [topK,tops,rsK]
  obtain ⟨st,⟨K,b,rfl,hk⟩,hl⟩:=loop_ex (E:=E) (GP:=GP) (l:=a251l0) (fun i st=>∃ K b,st = bst18 H.length R C i K b ∧ KH H K R C i) R (bst18 H.length R C 0 (H ++ [.arr 0 1 (List.replicate R .nl)]) false) ⟨_,_,rfl,h0⟩ (fun i hi st h=>build_step hE H R C hR hC i hi st h)
  have he:run E GP a251l0 (bst18 H.length R C R K b) = some (.exit 0,{ vars:=[.int .i64 R,.int .i64 C,.fn 250 [],.u,.u,.int .i64 R,.int .i64 R,.bool false,.u,.u,.u,.agg [.int .i64 0,.int .i64 0,.nl],HV H.length 0 R C],heap:=K,rs:=b }):=by
    unfold bst18 HV
    rw [a251l0_run]
    simp (maxSteps:=1000000) (disch:=first | omega | decide) only [si,sf,simprocAttr,a251b0,a251R,Nat.lt_irrefl]
  rw [he] at hl
  have hl:run E GP a251l0 { vars:=[.int .i64 R,.int .i64 C,.fn 250 [],.u,.u,.int .i64 R,.int .i64 0,.u,.u,.u,.u,.agg [.int .i64 0,.int .i64 0,.nl],HV H.length 0 R C],heap:=H ++ [.arr 0 1 (List.replicate R .nl)],rs:=false } = _:=hl
  have hc1:(R:Int) ≤ 4294967296:=by omega
  have hc2:(0:Int) ≤ (R:Int):=by omega
  refine ⟨K,b,?_,hk⟩
  have hmode:a281.mode = .keep:=rfl
  rw [call_fun (hE _ _ _ (by decide)) (f:=a281) rfl rfl]
  unfold HV at hl ⊢
  simp (maxSteps:=1000000) (disch:=first | omega | decide) only [si,sf,simprocAttr,hmode,a281,a251,a251R,hc1,hc2,maxLenA,hl]
theorem i_new (R C:Nat) (hR:R < 2147483648) (hC:C < 2147483648) (H:Heap):∃ K b,call E GP 280 [.int .i64 R,.int .i64 C] H = some (HV H.length 0 R C,K,b) ∧ KH H K R C R:=by
  obtain ⟨K,b,h,hk⟩:=i_build hE R C hR hC H
  refine ⟨K,b,?_,hk⟩
  have hmode:a280.mode = .keep:=rfl
  rw [call_fun (hE _ _ _ (by decide)) (f:=a280) rfl rfl]
  unfold HV at h ⊢
  simp (maxSteps:=1000000) (disch:=first | omega | decide) only [si,sf,simprocAttr,hmode,a280,a240,a240R,h]
omit hE in
theorem KH.mat {H K:Heap} {R C:Nat} (h:KH H K R C R):HMat K H.length 0 C (rsK H.length R) (List.replicate R (List.replicate C 0)) where
  top:=by
    have:=h.top
    unfold topK at this
    rwa [Nat.sub_self,List.replicate_zero,List.append_nil] at this
  row:=fun i hi=>by
    rw [rsK_len] at hi
    have:=h.row i hi
    have e:(rsK H.length R).getD i 0 = H.length + 1 + i:=by simp [rsK,List.getD,hi]
    have e2:(List.replicate R (List.replicate C (0:Int))).getD i [] = List.replicate C 0:=by simp [List.getD,hi]
    rw [e,e2]; exact this
  len:=by simp [rsK_len]
  wid:=fun i hi=>by
    rw [rsK_len] at hi
    simp [List.getD,hi]
  nod:=by
    unfold rsK
    rw [List.Nodup,List.pairwise_map]
    exact List.nodup_range.imp fun h=>by omega
  off:=by simp [rsK]; omega
end Tor
namespace Tor
open Go
def matF (a b:List Cel) (M:Mp) (k:Int):List (List Int):=(cellsC a k).map fun id=>vecV b k (imgF M id)
theorem HMat.ext {H H':Heap} {om g C o:Nat} {rs:List Nat} {A:List (List Int)} (h:HMat H om g C rs A) (he:Ext o H H') (h1:om ≠ o) (h2:∀ r ∈ rs,r ≠ o):HMat H' om g C rs A where
  top:=(he.2 om (List.getElem?_eq_some_iff.1 h.top).1 h1).trans h.top
  row:=fun i hi=>(he.2 _ (List.getElem?_eq_some_iff.1 (h.row i hi)).1 (h2 _ (getD_mem hi))).trans (h.row i hi)
  len:=h.len
  wid:=h.wid
  nod:=h.nod
  off:=h.off
def mst19 (a b:List Cel) (M:Mp) (k:Int) (ids:List Int) (o C i:Nat) (H:Heap) (f:Bool):St :=
  { vars:=[.isl (a.map cA),.isl (b.map cA),.isl (M.map mA),.int .i64 k,.int .i64 0,.isl (ids.map iA),.ptr o 0 [],.u,.u,.u,.u,.bool false,.isl (ids.map iA),.int .i64 ids.length,.int .i64 (i:Nat),.u,.agg [.int .i64 0,.int .i64 0,.nl],HV 0 0 ids.length C],heap:=H,rs:=f }
def rowsT (a b:List Cel) (M:Mp) (k:Int) (i:Nat):List (List Int):=(matF a b M k).take i ++ List.replicate ((cellsC a k).length - i) (List.replicate (cellsC b k).length 0)
theorem vm_vector {a b:List Cel} {sb:GS} {mb u:Nat} {M:Mp} (h:VM a b u M) (gb:Good b sb mb) (hmb:mb ≤ 11) (hna:(idsC a).Nodup) {k:Int} {id:Int} (hid:id ∈ cellsC a k) (H:Heap) :
    call E2 GP 8 [.isl (b.map cA),.int .i64 k,.isl ((imgF M id).map fA)] H = some (.tup [.isl (rowA (vecV b k (imgF M id))),.int .i64 0],H,false):=by
  obtain ⟨y,hy,hd,rfl⟩:=cells_mem.1 hid
  have hk:=h.keyAt hna hy
  have hlen:=(h.cm.img y.id).len
  have hb:=gb.len11 hmb
  have:=up (c_vector free1 b k (imgF M y.id) gb.ids (by have:=gb.len; omega) (by omega) H)
  have e:vec26 b k (imgF M y.id) = (vecV b k (imgF M y.id),0):=by
    unfold vec26
    rw [dim_of gb hk]
    simp only [ne_eq,not_true_eq_false,if_false]
    by_cases h0:imgF M y.id = []
    · simp [h0]
    · simp [h0,hd]
  rw [e] at this
  exact this
theorem mat_step {a b:List Cel} {sa sb:GS} {ma mb u:Nat} {M:Mp} (h:VM a b u M) (ga:Good a sa ma) (gb:Good b sb mb) (hma:ma ≤ 11) (hmb:mb ≤ 11) (k:Int) (i:Nat) (hi:i < (cellsC a k).length) (st:St)
    (hI:∃ H f,st = mst19 a b M k (cellsC a k) ((cellsC a k).length + 1) (cellsC b k).length i H f ∧ IX H ((cellsC a k).length + 1) M ∧ HMat H 0 0 (cellsC b k).length (rsK 0 (cellsC a k).length) (rowsT a b M k i)) :
    ∃ st',(∃ H f,st' = mst19 a b M k (cellsC a k) ((cellsC a k).length + 1) (cellsC b k).length (i + 1) H f ∧ IX H ((cellsC a k).length + 1) M ∧ HMat H 0 0 (cellsC b k).length (rsK 0 (cellsC a k).length) (rowsT a b M k (i + 1))) ∧ run E2 GP a217l0 st = run E2 GP a217l0 st':=by
  obtain ⟨H,f,rfl,hix,hm⟩:=hI
  have hna:=idsC_nodup ga.ids
  have hML:=h.cm.len
  have hal:=ga.len
  have hcl:=cellsC_len a k
  have hcl2:=cellsC_len b k
  have hbl:=gb.len
  obtain ⟨H2,b2,f1,f2,f3⟩:=i_find M (by omega) (by rw [h.cm.ids]; exact hna) H ((cellsC a k).length + 1) ((cellsC a k)[i]) hix
  have hv:=fun H=>vm_vector h gb hmb hna (List.getElem_mem hi) H
  have hsome:(findM M (cellsC a k)[i]).isSome = true:=h.cm.isS (cells_ids _ (List.getElem_mem hi))
  have hm2:=hm.ext f3 (by omega) (fun r hr=>by simp [rsK] at hr; omega)
  have hir:i < (rsK 0 (cellsC a k).length).length:=by rw [rsK_len]; exact hi
  have er:(rsK 0 (cellsC a k).length).getD i 0 = 1 + i:=by simp [rsK,List.getD,hi]
  have hvl:(vecV b k (imgF M (cellsC a k)[i])).length = (cellsC b k).length:=by simp [vecV]
  have hrow:=hm2.row i hir
  have hwid:=hm2.wid i hir
  have hset:=hm2.setRow hir hvl
  have htop:=hm2.top
  have hrg:(tops (cellsC b k).length (rsK 0 (cellsC a k).length))[i]? = some (.sl (1 + i) 0 2 0 (cellsC b k).length):=by
    rw [tops_get hir,er]
  have htl:(tops (cellsC b k).length (rsK 0 (cellsC a k).length)).length = (cellsC a k).length:=by rw [tops_len,rsK_len]
  rw [er] at hrow hset
  have es:(rowsT a b M k i).set i (vecV b k (imgF M (cellsC a k)[i])) = rowsT a b M k (i + 1):=by
    have hml:(matF a b M k).length = (cellsC a k).length:=by simp [matF]
    unfold rowsT
    rw [List.set_append_right _ _ (by simp; omega),List.take_succ_eq_append_getElem (by rw [hml]; exact hi)]
    have e1:i - ((matF a b M k).take i).length = 0:=by simp; omega
    have e2:(cellsC a k).length - i = ((cellsC a k).length - (i + 1)) + 1:=by omega
    rw [e1,e2,List.replicate_succ,List.set_cons_zero]
    simp [matF]
  rw [es] at hset
  refine ⟨_,⟨_,f || b2,rfl,f2.set hrow (.arr 0 2 (rowA (vecV b k (imgF M (cellsC a k)[i])))),hset⟩,?_⟩
  have hvl':(rowA (vecV b k (imgF M (cellsC a k)[i]))).length = (cellsC b k).length:=by rw [rowA_len,hvl]
  have hwl':(rowA ((rowsT a b M k i).getD i [])).length = (cellsC b k).length:=by rw [rowA_len,hwid]
  have hhs:headSize 2 (rowA (vecV b k (imgF M (cellsC a k)[i]))) = true:=by
    cases vecV b k (imgF M (cellsC a k)[i]) with
    | nil=>rfl
    | cons x r=>simp [rowA,headSize,Z_size]
  have hrf:=refs_rowA (vecV b k (imgF M (cellsC a k)[i]))
  have hmin:Nat.min (cellsC b k).length (cellsC b k).length = (cellsC b k).length:=Nat.min_self _
  have htk:(rowA (vecV b k (imgF M (cellsC a k)[i]))).take (cellsC b k).length = rowA (vecV b k (imgF M (cellsC a k)[i])):=List.take_of_length_le (by omega)
  have hdr:(rowA ((rowsT a b M k i).getD i [])).drop (cellsC b k).length = []:=List.drop_of_length_le (by omega)
  obtain ⟨y,hy⟩:=Option.isSome_iff_exists.1 hsome
  rw [hy] at f1
  have f1:call E2 GP 241 [.ptr ((cellsC a k).length + 1) 0 [],.int .i64 (cellsC a k)[i]] H = some (.tup [.isl (y.map fA),.bool true],H2,b2):=f1
  have ey:imgF M (cellsC a k)[i] = y:=by unfold imgF; rw [hy]; rfl
  unfold mst19 HV
  generalize rowA (vecV b k (imgF M (cellsC a k)[i])) = V at *
  generalize rowA ((rowsT a b M k i).getD i []) = W at *
  generalize tops (cellsC b k).length (rsK 0 (cellsC a k).length) = tp at *
  rw [ey] at hv
  generalize cellsC a k = ids at *
  conv=>lhs; rw [a217l0_run]
  simp (maxSteps:=1000000) (disch:=first | omega | decide) only [si,sf,simprocAttr,a217b0,a217R,hi,iA,f1,hv,htop,hrg,htl,hrow,hvl',hwl',hhs,hrf,hmin,htk,hdr,List.append_nil]
theorem i_matrix {a b:List Cel} {sa sb:GS} {ma mb ea eb u:Nat} {M:Mp} (h:VM a b u M) (ga:Good a sa ma) (gb:Good b sb mb) (hma:ma ≤ 11) (hmb:mb ≤ 11) (hea:∀ k,sa.b k ≤ ea) (heb:∀ k,sb.b k ≤ eb) (hu:ea + eb + u ≤ 10000000000) (k:Int) (H:Heap) :
    call E2 GP 217 [.isl (a.map cA),.isl (b.map cA),.isl (M.map mA),.int .i64 k] H = some (.tup [MI (cellsC a k).length (cellsC b k).length (matF a b M k),.int .i64 0],H,false):=by
  have hE2:∀ a H,E2 217 a H = none:=fun a H=>E2_none (by decide) (by decide)
  have hal:=ga.len
  have hbl:=gb.len
  have hcl:=cellsC_len a k
  have hcl2:=cellsC_len b k
  have hv:=fun H=>h.valid ga gb hma hmb hea heb hu H
  have hc1:=fun H=>up (c_cells free1 a k (by omega) H)
  have hc2:=fun H=>up (c_cells free1 b k (by omega) H)
  obtain ⟨K,b0,hnew,hK⟩:=i_new free1 (cellsC a k).length (cellsC b k).length (by omega) (by omega) []
  have hnew:=up hnew
  have hKl:K.length = (cellsC a k).length + 1:=by have:=hK.len; rw [List.length_nil] at this; omega
  have hlen:(K ++ [AObj.var (idx0 M)]).length = (cellsC a k).length + 2:=by simp; omega
  have hoi:(K ++ [AObj.var (idx0 M)])[(cellsC a k).length + 1]? = some (.var (idx0 M)):=by
    rw [List.getElem?_append_right (by omega),show (cellsC a k).length + 1 - K.length = 0 by omega]; rfl
  have hmat:HMat (K ++ [AObj.var (idx0 M)]) 0 0 (cellsC b k).length (rsK 0 (cellsC a k).length) (rowsT a b M k 0):=by
    have:=(hK.mat).app [AObj.var (idx0 M)]
    unfold rowsT
    rw [List.take_zero,List.nil_append,Nat.sub_zero]
    exact this
  obtain ⟨st,⟨H1,b1,rfl,h1,h2⟩,hl⟩:=loop_ex (E:=E2) (GP:=GP) (l:=a217l0) (fun i st=>∃ H f,st = mst19 a b M k (cellsC a k) ((cellsC a k).length + 1) (cellsC b k).length i H f ∧ IX H ((cellsC a k).length + 1) M ∧ HMat H 0 0 (cellsC b k).length (rsK 0 (cellsC a k).length) (rowsT a b M k i)) (cellsC a k).length (mst19 a b M k (cellsC a k) ((cellsC a k).length + 1) (cellsC b k).length 0 (K ++ [AObj.var (idx0 M)]) b0) ⟨_,_,rfl,.inl hoi,hmat⟩ (fun i hi st hI=>mat_step h ga gb hma hmb k i hi st hI)
  have he:run E2 GP a217l0 (mst19 a b M k (cellsC a k) ((cellsC a k).length + 1) (cellsC b k).length (cellsC a k).length H1 b1) = some (.exit 0,{ vars:=[.isl (a.map cA),.isl (b.map cA),.isl (M.map mA),.int .i64 k,.int .i64 0,.isl ((cellsC a k).map iA),.ptr ((cellsC a k).length + 1) 0 [],.u,.u,.u,.u,.bool false,.isl ((cellsC a k).map iA),.int .i64 (cellsC a k).length,.int .i64 (cellsC a k).length,.bool false,.agg [.int .i64 0,.int .i64 0,.nl],HV 0 0 (cellsC a k).length (cellsC b k).length],heap:=H1,rs:=b1 }):=by
    unfold mst19 HV
    generalize cellsC a k = ids at *
    rw [a217l0_run]
    simp (maxSteps:=1000000) (disch:=first | omega | decide) only [si,sf,simprocAttr,a217b0,a217R,Nat.lt_irrefl]
  rw [he] at hl
  have hl:run E2 GP a217l0 { vars:=[.isl (a.map cA),.isl (b.map cA),.isl (M.map mA),.int .i64 k,.int .i64 0,.isl ((cellsC a k).map iA),.ptr ((cellsC a k).length + 1) 0 [],.u,.u,.u,.u,.bool false,.isl ((cellsC a k).map iA),.int .i64 (cellsC a k).length,.int .i64 0,.u,.agg [.int .i64 0,.int .i64 0,.nl],HV 0 0 (cellsC a k).length (cellsC b k).length],heap:=K ++ [AObj.var (idx0 M)],rs:=b0 } = _:=hl
  have erows:rowsT a b M k (cellsC a k).length = matF a b M k:=by
    unfold rowsT
    rw [Nat.sub_self,List.replicate_zero,List.append_nil,List.take_of_length_le (by simp [matF])]
  rw [erows] at h2
  have hz:=fz_HV h2 (rsK_len _ _) 2
  have hrM:=refs_rowsI (matF a b M k)
  have hsM:=solids_rowsI (matF a b M k)
  rw [call_fun (hE2 _ _) (f:=a217) rfl rfl]
  unfold HV MI at *
  unfold idx0 onceV at hl
  simp only [List.length_nil] at hnew
  generalize matF a b M k = A at *
  generalize cellsC a k = ids at *
  simp (maxSteps:=1000000) (disch:=first | omega | decide) only [si,sf,simprocAttr,doBox,a217,a217R,hv,hc1,hc2,hnew,hKl,hl,hz,hrM,hsM]
end Tor
namespace Tor
open Go
theorem VM.smM {a b:List Cel} {u:Nat} {M:Mp} (h:CM a b u M) (hb:(idsC b).length ≤ 11) (hu:u ≤ 14000000000):SmM M:=fun p hp=>⟨(h.gc p hp).sm (by omega),by have:=(h.gc p hp).len; omega⟩
end Tor
