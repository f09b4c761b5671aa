/-
  A part of the proof: an abstract machine for the program, its soundness, and what the functions compute (Main, Open, Fits, Fl, In1, In2, In6, In7, In9, Bd1, Bd3, Bd2, Tz1, Bd4, Bd5).
  Conditions: none.
-/
import Derived.Test.YthcbpifkgolknaaDoorM02
import Derived.Test.YthcbpifkgolknaaDoorM03
import Derived.Test.YthcbpifkgolknaaDoorM04
import Derived.Test.YthcbpifkgolknaaDoorM07
import Derived.OpenShut
import Derived.ChangeOld
set_option linter.unusedSectionVars false
set_option linter.unusedVariables false
set_option linter.unusedSimpArgs false
set_option linter.defProp false
namespace Tor
open Go Go.RowKit
theorem Rvs_leU {n:Nat} {C C':Cx} (h:LeU n C C') {l vs} (hu:AV.unders n l = true) (hr:Rvs C l vs):Rvs C' l vs:=by
  induction hr with
  | nil=>exact .nil
  | cons a _ ih =>
    simp only [AV.unders,Bool.and_eq_true] at hu
    exact .cons (Rv_leU h hu.1 a) (ih hu.2)
theorem shut_inv {n H o r} (h:shut n H o = some r):∃ x,o = some x ∧ r = fz n H fzDepth x ∧ (fz n H fzDepth x).under n = true ∧ (fz n H fzDepth x).solid = true:=by
  cases o with
  | none=>cases h
  | some x =>
    simp only [shut] at h
    split at h
    · rename_i hh; cases h; exact ⟨x,rfl,rfl,hh⟩
    · cases h
theorem shrEnd_inv {n rs o r} (h:shrEnd n rs o = some r):∃ st x,o = some st ∧ st.rs = false ∧ shut n st.heap (resAll st rs) = some x ∧ r = (x,st.heap.take n,false):=by
  cases o with
  | none=>cases h
  | some st =>
    simp only [shrEnd] at h
    split at h
    · cases h
    · rename_i hrs
      obtain ⟨x,hx,e⟩:=withHeap_inv h
      exact ⟨st,x,rfl,by simpa using hrs,hx,e⟩
theorem keepEnd_inv {rs o r} (h:keepEnd rs o = some r):∃ st x,o = some st ∧ resAll st rs = some x ∧ r = (x,st.heap,st.rs):=by
  cases o with
  | none=>cases h
  | some st =>
    obtain ⟨x,hx,e⟩:=withHeap_inv h
    exact ⟨st,x,rfl,hx,e⟩
theorem runIso_inv {R f args r} (h:runIso R f args = some r):AV.hasRefs args = false ∧ ∃ st,ended (R f.body (start f args [])) = some st ∧ shut 0 st.heap (resAll st f.results) = some r:=by
  unfold runIso at h
  split at h
  · cases h
  · rename_i hh
    refine ⟨by simpa using hh,?_⟩
    cases he:ended (R f.body (start f args [])) with
    | none=>rw [he] at h; cases h
    | some st=>rw [he] at h; exact ⟨st,rfl,h⟩
section
variable {k:Ck} {base:Nat} {C:Cx}
theorem iso_ok {R:AIR → St → Option (Ex × St)} {f:AFun} {fn:Func} {g:Nat} {args:List AV} {H:Heap} {vals:List Value} {r:AV} (hR:RS k R) (hfn:k.P.funcs[k.ι g]? = some fn) (hok:funOk k fn f = true)
    (hι:C.ι = k.ι) (hs:Sim base C H) (hr:Rvs C args vals) (hl:args.length = f.params) (h:runIso R f args = some r):Called k.P (k.ι g) vals.toArray C.w (CPost base C H r H):=by
  obtain ⟨hnr,st,he,hsh⟩:=runIso_inv h
  obtain ⟨x,hx,rfl,hun,hso⟩:=shut_inv hsh
  let C0:Cx:={ C with β:=fun _ _=>none }
  have hC0:Sim C.w.heap.size C0 []:=⟨hs.fsz,fun _ _ _=>rfl,fun o ob ho=>by simp at ho,fun o o' ob ob' b ho=>by simp at ho,Nat.le_refl _,hs.glob.of rfl (fun _ h=>h) (fun _ _=>rfl)⟩
  have hl0:LeU 0 C C0:=⟨rfl,fun _ h=>h,fun o g q ho=>by omega,fun _ _=>rfl,fun _ _ h=>h⟩
  have hr0:Rvs C0 args vals:=Rvs_leU hl0 (noRefs_unders 0 args hnr) hr
  refine body_ok (C:=C0) hR hfn hok hι hC0 hr0 hl he hx fun v C1 hst hv=>?_
  -- the objects are given up; their blocks stay
  have hu0:HUnder 0 st.heap:=fun o ob ho=>by omega
  have hst2:OStep C.w.heap.size C0 [] (C1.fzn 0 st.heap) (st.heap.take 0):=hst.dropTo hC0 hu0 (leU_fzn C1 0 st.heap) rfl (fun _ _=>rfl) (fun _ h=>h)
  have hv2:=fz_Rv hst.sim 0 fzDepth hv hso hun
  let C3:Cx:={ C1.fzn 0 st.heap with β:=C.β }
  have hle:Le C C3:=⟨hst2.le.ι,hst2.le.F,fun _ _ _ h=>h,hst2.le.mem,hst2.le.shp⟩
  have hl3:LeU 0 (C1.fzn 0 st.heap) C3:=⟨rfl,fun _ h=>h,fun o g q ho=>by omega,fun _ _=>rfl,fun _ _ h=>h⟩
  have hfg:∀ b,C3.F b → C.F b ∨ C.w.heap.size ≤ b:=hst2.fgr
  refine ⟨C3,rfl,⟨hle,hs.world hle (fun b hb=>⟨hst2.sim.fsz b hb,hfg b hb⟩) (fun _ _=>rfl) hst2.below.4 (fun b hb _ _=>hst2.below.5 b hb),
    ⟨hst2.below.1,hst2.below.2,hst2.below.3,hst2.below.4,fun b hb=>hst2.below.5 b (Nat.lt_of_lt_of_le hb hs.bsz)⟩,fun b hb=>?_,fun b hb hF hno=>⟨hst2.below.5 b hb,fun h=>(hfg b h).elim hF (fun h=>by omega),hno⟩⟩,Rv_leU hl3 hun hv2⟩
  rcases hfg b hb with hb | hb
  · exact .inl hb
  · exact .inr (Nat.le_trans hs.bsz hb)
theorem consume_ok:∀ (args:List AV) (vals:List Value) (C:Cx) (H:Heap) (args':List AV) (H':Heap),Sim base C H → Rvs C args vals → consume H args = some (args',H') →
    ∃ C',C'.w = C.w ∧ OStep base C H C' H' ∧ Rvs C' args' vals ∧ args'.length = args.length
  | [],vals,C,H,args',H',hs,hr,h=>by
    simp only [consume] at h; cases h
    cases hr
    exact ⟨C,rfl,Step.refl hs,.nil,rfl⟩
  | x :: r,_,C,H,args',H',hs,hr,h=>by
    cases hr with
    | cons hx hr =>
      rename_i v vs
      have keep:∀ y H0,(∀ z,x ≠ z ∨ True) → consume1 y (consume H0 r) = some (args',H') → ∃ l',consume H0 r = some (l',H') ∧ args' = y :: l':=by
        intro y H0 _ h
        cases hc:consume H0 r with
        | none=>rw [hc] at h; cases h
        | some q=>obtain ⟨l',H2⟩:=q; rw [hc] at h; cases h; exact ⟨l',rfl,rfl⟩
      by_cases hsl:∃ o g sz st len,x = .sl o g sz st len
      · obtain ⟨o,g,sz,st,len,rfl⟩:=hsl
        simp only [consume] at h
        cases hel:elems H (.sl o g sz st len) with
        | none=>rw [hel] at h; cases h
        | some l =>
          rw [hel] at h
          simp only at h
          split at h
          · cases h
          · rename_i hnr
            obtain ⟨l',hc,rfl⟩:=keep _ _ (fun _=>.inr trivial) h
            obtain ⟨a,cap,ob,rfl,hob,hcs⟩:=sl_cells hs hx hel
            let C1:Cx:={ C with F:=fun b=>C.F b ∨ blk C o ob = some b }
            have hle:Le C C1:=⟨rfl,fun _ h=>.inl h,fun _ _ _ h=>h,fun _ _=>rfl,fun _ _ h=>h⟩
            have hbl:=fun b (hb:blk C o ob = some b)=>blk_heap (hs.obj o ob hob).1 hb
            have hst:OStep base C H C1 (H.set o .dead):=by
              refine ⟨hle,hs.set hob hle (fun b hb=>?_) (Nat.le_refl _) (fun _ _ _=>rfl) (fun _ _ _=>rfl) trivial trivial (fun b hb=>by cases hb),(Grow.refl C.w).below hs.bsz,fun b hb=>?_,fun b hb hF hno=>⟨rfl,fun h=>h.elim hF (hno o ob hob),fun o1 ob1 h1 hbk=>?_⟩⟩
              · rcases hb with hb | hb
                · exact ⟨hs.fsz b hb,.inl hb⟩
                · exact ⟨(hbl b hb).2.2,.inr (.inr hb)⟩
              · rcases hb with hb | hb
                · exact .inl hb
                · exact .inr (hbl b hb).1
              · rw [List.getElem?_set] at h1
                split at h1
                · split at h1
                  · cases h1; cases hbk
                  · cases h1
                · have:blk C1 o1 ob1 = blk C o1 ob1:=by cases ob1 <;> rfl
                  rw [this] at hbk
                  exact hno o1 ob1 h1 hbk
            obtain ⟨C2,hw,hst2,hr2,hl2⟩:=consume_ok r vs C1 _ _ _ hst.sim (Rvs_le hle hr) hc
            refine ⟨C2,hw,hst.trans hst2,.cons (Rv_le hst2.le (Rv_one ?_ rfl rfl)) hr2,by simp [hl2]⟩
            simp only [Rc]
            refine ⟨by simpa using hnr,_,rfl,a,cap,rfl,?_⟩
            rcases hcs with rfl | ⟨b,off,css,rfl,hb,hcap,h1,h2,h3⟩
            · exact .inl rfl
            · exact .inr ⟨b,off,css,sz,rfl,.inr hb,hcap,Rcl_le hle _ _ h1,h2,h3⟩
      · have h':consume1 x (consume H r) = some (args',H'):=by
          cases x <;> first | exact h | exact absurd ⟨_,_,_,_,_,rfl⟩ hsl
        obtain ⟨l',hc,rfl⟩:=keep _ _ (fun _=>.inr trivial) h'
        obtain ⟨C2,hw,hst2,hr2,hl2⟩:=consume_ok r vs C _ _ _ hs hr hc
        exact ⟨C2,hw,hst2,.cons (Rv_le hst2.le hx) hr2,by simp [hl2]⟩
end
structure Tied (P:Program) (ι:Env) (pureF:Nat → Bool) (E:CallF) (GP:Nat → Option AFun):Prop where
  funs:∀ g f,GP g = some f → ∃ k fn,k.P = P ∧ k.ι = ι ∧ k.pureF = pureF ∧ P.funcs[ι g]? = some fn ∧ funOk k fn f = true
  pureG:∀ g,pureF g = true → (∀ f,GP g = some f → f.mode = .iso) ∧ ∀ args H H2,E g args H = none → E g args H2 = none
  pureE:PureC pureF E
  soundE:SoundC P ι E
  keepE:CKeeps E
theorem Called.mono {P f args w} {R R':Value → World → Prop} (h:Called P f args w R) (hR:∀ v w',R v w' → R' v w'):Called P f args w R':=by
  unfold Called at h ⊢
  split
  · rename_i e; rw [e] at h; exact hR _ _ h
  · rename_i e
    rw [e] at h
    refine Calls.mono h fun e' w' he=>?_
    cases e' with
    | returned v=>exact hR _ _ he
    | panicked _=>exact he.elim
    | outgrown=>exact he.elim
  · rename_i h1 h2
    split at h
    · rename_i e; exact absurd e (h1 _ _)
    · rename_i e; exact absurd e (h2 _ _ _)
    · exact h
section
variable {P:Program} {ι:Env} {pureF:Nat → Bool} {E:CallF} {GP:Nat → Option AFun}
theorem stepCall_pure (T:Tied P ι pureF E GP) (R:AIR → St → Option (Ex × St)):PureC pureF (stepCall E GP R):=by
  intro g hg args H r H' b h
  obtain ⟨h1,h2⟩:=T.pureG g hg
  unfold stepCall at h ⊢
  cases hE:E g args H with
  | some q =>
    rw [hE] at h
    simp only [callE] at h
    cases h
    obtain ⟨a1,a2,a3⟩:=T.pureE g hg args H _ _ _ hE
    exact ⟨a1,a2,fun H2=>by rw [a3 H2]; rfl⟩
  | none =>
    rw [hE] at h
    simp only [callE] at h
    have hE2:=fun H2=>h2 args H H2 hE
    cases hf:GP g with
    | none=>rw [hf] at h; cases h
    | some f =>
      rw [hf] at h
      simp only [callG,h1 f hf] at h
      split at h
      · rename_i hl
        simp only [callFun] at h
        obtain ⟨x,hx,e⟩:=withHeap_inv h
        cases e
        refine ⟨rfl,rfl,fun H2=>?_⟩
        rw [hE2 H2]
        simp only [callE]
        rw [hf]
        simp only [callG,hl,if_true,h1 f hf,callFun,hx,withHeap]
      · cases h
theorem stepCall_ok (T:Tied P ι pureF E GP) {R:AIR → St → Option (Ex × St)} (hK:RKeeps R) (hR:∀ k:Ck,k.P = P → k.ι = ι → k.pureF = pureF → nodupB (k.slots ++ k.cells) = true → RS k R):SoundC P ι (stepCall E GP R):=by
  intro g args H r H' b h base C vals hι hs hr
  unfold stepCall at h
  cases hE:E g args H with
  | some q =>
    rw [hE] at h
    simp only [callE] at h
    cases h
    exact T.soundE g args H _ _ _ hE base C vals hι hs hr
  | none =>
    rw [hE] at h
    simp only [callE] at h
    cases hf:GP g with
    | none=>rw [hf] at h; cases h
    | some f =>
      rw [hf] at h
      simp only [callG] at h
      split at h
      case isFalse=>cases h
      rename_i hl
      obtain ⟨k,fn,rfl,rfl,rfl,hfn,hok⟩:=T.funs g f hf
      have hnd:nodupB (k.slots ++ k.cells) = true:=by
        have:=hok
        unfold funOk at this
        simp only [Bool.and_eq_true] at this
        exact this.1.1.1.1.1.1.2
      have hRk:=hR k rfl rfl rfl hnd
      cases hm:f.mode with
      | iso =>
        rw [hm] at h
        simp only [callFun] at h
        obtain ⟨x,hx,e⟩:=withHeap_inv h
        cases e
        exact iso_ok hRk hfn hok hι hs hr hl hx
      | con =>
        rw [hm] at h
        simp only [callFun] at h
        cases hc:consume H args with
        | none=>rw [hc] at h; cases h
        | some q =>
          obtain ⟨args',H2⟩:=q
          rw [hc] at h
          simp only [conCall] at h
          obtain ⟨x,hx,e⟩:=withHeap_inv h
          cases e
          obtain ⟨C2,hw,hst,hr2,hl2⟩:=consume_ok args vals C H _ _ hs hr hc
          rw [← hw]
          refine (iso_ok hRk hfn hok (hst.le.ι.trans hι) hst.sim hr2 (hl2.trans hl) hx).mono ?_
          rintro v w' ⟨C',hw',hst',hv⟩
          exact ⟨C',hw',hst.trans (hst'.ent_le (by rw [hw]; exact Nat.le_refl _)),hv⟩
      | shr =>
        rw [hm] at h
        simp only [callFun] at h
        obtain ⟨st,x,he,hrs,hsh,e⟩:=shrEnd_inv h
        cases e
        obtain ⟨y,hy,rfl,hun,hso⟩:=shut_inv hsh
        obtain ⟨e,hbody⟩:=ended_inv he
        have hu:HUnder H.length st.heap:=((hK _ _ _ _ hbody hrs).2).2 _ (Nat.le_refl _) (HUnder_sim hs)
        refine body_ok hRk hfn hok hι hs hr hl he hy fun v C1 hst hv=>?_
        exact ⟨C1.fzn H.length st.heap,rfl,hst.dropTo hs hu (leU_fzn C1 _ st.heap) rfl (fun _ _=>rfl) (fun _ h=>h),fz_Rv hst.sim _ fzDepth hv hso hun⟩
      | keep =>
        rw [hm] at h
        simp only [callFun] at h
        obtain ⟨st,x,he,hx,e⟩:=keepEnd_inv h
        cases e
        exact body_ok hRk hfn hok hι hs hr hl he hx fun v C1 hst hv=>⟨C1,rfl,hst,hv⟩
theorem machine_ok (T:Tied P ι pureF E GP) (n:Nat):(∀ k:Ck,k.P = P → k.ι = ι → k.pureF = pureF → nodupB (k.slots ++ k.cells) = true → RS k (Tor.runN E GP n)) ∧ SoundC P ι (callN E GP n) ∧ PureC pureF (callN E GP n):=by
  induction n with
  | zero =>
    refine ⟨fun k _ _ _ _=>⟨fun air code st e st' _ h=>?_,fun gc keep x body st e st' _ h=>?_⟩,fun g args H r H' b h=>?_,fun g _ args H r H' b h=>?_⟩
    · rw [Tor.runN] at h; cases h
    · rw [Tor.runN] at h; cases h
    · rw [callN] at h; cases h
    · rw [callN] at h; cases h
  | succ n ih =>
    obtain ⟨h1,h2,h3⟩:=ih
    have hK:=runN_keeps (E:=E) (GP:=GP) T.keepE n
    refine ⟨?_,?_,?_⟩
    · rintro k rfl rfl rfl hnd
      rw [Tor.runN]
      exact stepRun_ok h2 h3 hnd hK.1 (h1 k rfl rfl rfl hnd)
    · rw [callN]; exact stepCall_ok T hK.1 h1
    · rw [callN]; exact stepCall_pure T _
theorem call_sound (T:Tied P ι pureF E GP):SoundC P ι (call E GP):=by
  intro g args H r H' b h
  obtain ⟨n,hn⟩:=call_ex h
  exact (machine_ok T n).2.1 g args H r H' b hn
end
end Tor
namespace Tor
open Go Go.RowKit
inductive Shp where
  | int (k:IntKind)
  | bool
  | sl (s:Shp)
  | agg (l:List Shp)
mutual
def Fits:Shp → AV → Prop
  | .int k,x=>∃ n,x = .int k n ∧ k.min ≤ n ∧ n ≤ k.max
  | .bool,x=>∃ b,x = .bool b
  | .sl s,x=>∃ l,x = .isl l ∧ l.length ≤ maxLen ∧ ∀ y ∈ l,Fits s y
  | .agg ss,x=>∃ l,x = .agg l ∧ Fitss ss l
def Fitss:List Shp → List AV → Prop
  | [],l=>l = []
  | s :: ss,l=>∃ x r,l = x :: r ∧ Fits s x ∧ Fitss ss r
end
def partsOf (P:Program) (t:TypeId):Option (List (TypeId × Nat)) :=
  match P.underlying t with
  | some (.struct fs)=>some (fs.toList.map fun f=>(f.type,f.offset))
  | some (.array n e)=>some ((List.range n).map fun i=>(e,i * P.cellsOf e))
  | _=>none
mutual
def shpOk (P:Program) (t:TypeId):Shp → Bool
  | .int k=>(match P.underlying t with | some (.int k')=>k' == k | _=>false)
  | .bool=>(match P.underlying t with | some .bool=>true | _=>false)
  | .sl s=>(match sliceB P t with | some e=>!(P.cellsOf e == 0) && shpOk P e s | none=>false)
  | .agg ss=>(match partsOf P t with | some ps=>shpsOk P 0 (P.cellsOf t) ps ss | none=>false)
def shpsOk (P:Program) (off total:Nat):List (TypeId × Nat) → List Shp → Bool
  | [],[]=>off == total
  | (t,o) :: ps,s :: ss=>o == off && shpOk P t s && shpsOk P (off + P.cellsOf t) total ps ss
  | _,_=>false
end
def Cx.init (ι:Env) (w:World):Cx:={ ι:=ι,F:=fun b=>b < w.heap.size,β:=fun _ _=>none,w:=w }
theorem Sim.init (ι:Env) (w:World) (hG:∀ p ∈ ι.G,p.1.block < w.heap.size ∧ w.cell? p.1 = some p.2):Sim w.heap.size (Cx.init ι w) [] :=
  ⟨fun _ h=>h,fun _ _ _=>rfl,fun o ob ho=>by simp at ho,fun o o' ob ob' b ho=>by simp at ho,Nat.le_refl _,hG⟩
section
variable {P:Program} {ι:Env} {w:World} {H:Type} {enc:TypeId × Value → H} {base:Nat} {spare:Nat → Bool} {held:Bool}
mutual
theorem Fits_ref:∀ (s:Shp) (x:AV),Fits s x → x.hasRef = false
  | .int k,x,h=>by simp only [Fits] at h; obtain ⟨n,rfl,_⟩:=h; rfl
  | .bool,x,h=>by simp only [Fits] at h; obtain ⟨n,rfl⟩:=h; rfl
  | .sl s,x,h=>by simp only [Fits] at h; obtain ⟨l,rfl,_⟩:=h; rfl
  | .agg ss,x,h=>by
    simp only [Fits] at h; obtain ⟨l,rfl,h⟩:=h
    simp only [AV.hasRef]; exact Fitss_ref ss l h
theorem Fitss_ref:∀ (ss:List Shp) (l:List AV),Fitss ss l → AV.hasRefs l = false
  | [],l,h=>by simp only [Fitss] at h; subst h; rfl
  | s :: ss,l,h=>by
    simp only [Fitss] at h; obtain ⟨x,r,rfl,h1,h2⟩:=h
    simp only [AV.hasRefs,Bool.or_eq_false_iff]; exact ⟨Fits_ref s x h1,Fitss_ref ss r h2⟩
end
theorem cells_at {a:Addr} {n:Nat} {cs:List Value} (h:w.cells? base a n = some cs) (hn:n ≠ 0):a.spot = none ∧ a.block < w.heap.size ∧ cs.length = n ∧ cellsAt w a.block a.off cs:=by
  have hb:=World.cells?_block h (by omega)
  have hs:=World.cells?_some h
  obtain ⟨_,hl,hc⟩:=hs
  have h0:w.cell? a = cs[0]?:=by
    have:=hc 0 (by omega)
    simpa [Addr.add] using this
  have hsp:a.spot = none:=by
    have:cs[0]? = some cs[0]:=List.getElem?_eq_getElem (by omega)
    rw [this] at h0
    exact World.cell?_spot h0
  obtain ⟨b,off,sp⟩:=a
  simp only at hsp
  subst hsp
  refine ⟨rfl,hb,hl,fun i x hx=>?_⟩
  have hi:i < n:=by rw [← hl]; exact (List.getElem?_eq_some_iff.1 hx).1
  have:=hc i hi
  rw [addr_add] at this
  exact this.trans hx
theorem trod_parts {t:TypeId} {ps:List (TypeId × Nat)} {fuel:Nat} {cs:List Value} {x:DataW H × List MemPlace} (hp:partsOf P t = some ps) (h:DataW.trod enc P w base spare held fuel t cs = some x) :
    cs.length = P.cellsOf t ∧ ∃ m,∀ (i:Nat) (e:TypeId) (o:Nat),ps[i]? = some (e,o) → ∃ y,DataW.trod enc P w base spare held m e ((cs.drop o).take (P.cellsOf e)) = some y:=by
  unfold partsOf at hp
  split at hp
  · rename_i fs ht
    cases hp
    obtain ⟨xs,n,_,_,hl,hx,hi⟩:=DataW.trod_struct ht h
    refine ⟨hl,n,fun i e o he=>?_⟩
    rw [List.getElem?_map] at he
    cases hf:fs.toList[i]? with
    | none=>rw [hf] at he; cases he
    | some f =>
      rw [hf] at he
      cases he
      have hf':fs[i]? = some f:=by simpa using hf
      have:=hi i f hf'
      have hlt:i < xs.length:=by rw [hx]; exact (Array.getElem?_eq_some_iff.1 hf').1
      exact ⟨xs[i],by rw [this]; exact List.getElem?_eq_getElem hlt⟩
  · rename_i n e ht
    cases hp
    obtain ⟨xs,m,_,_,hl,hx,hi⟩:=DataW.trod_array ht h
    refine ⟨hl,m,fun i e' o he=>?_⟩
    rw [List.getElem?_map] at he
    by_cases hin:i < n
    · rw [List.getElem?_range hin] at he
      cases he
      have:=hi i hin
      exact ⟨xs[i],by rw [this]; exact List.getElem?_eq_getElem (by omega)⟩
    · rw [List.getElem?_eq_none (by simpa using hin)] at he; cases he
  · cases hp
mutual
theorem open_ok:∀ (s:Shp) (t:TypeId) (fuel:Nat) (cs:List Value) (x:DataW H × List MemPlace),shpOk P t s = true → DataW.trod enc P w base spare held fuel t cs = some x →
    ∃ y,Fits s y ∧ Rc (Cx.init ι w) y cs
  | .int k,t,fuel,cs,x,hs,h=>by
    simp only [shpOk] at hs
    split at hs
    · rename_i k' ht
      simp only [beq_iff_eq] at hs
      subst hs
      obtain ⟨n,rfl,_,hw⟩:=DataW.trod_int ht h
      simp only [Lit.wf,Bool.and_eq_true,decide_eq_true_eq] at hw
      exact ⟨.int k' n,by simp only [Fits]; exact ⟨n,rfl,hw⟩,by simp [Rc]⟩
    · cases hs
  | .bool,t,fuel,cs,x,hs,h=>by
    simp only [shpOk] at hs
    split at hs
    · rename_i ht
      cases fuel with
      | zero=>simp [DataW.trod] at h
      | succ n =>
        unfold DataW.trod at h
        rw [ht] at h
        split at h <;> simp_all
        rename_i b
        exact ⟨.bool b,by simp only [Fits]; exact ⟨_,rfl⟩,by simp [Rc]⟩
    · cases hs
  | .sl s,t,fuel,cs,x,hs,h=>by
    simp only [shpOk] at hs
    split at hs
    · rename_i e he
      simp only [Bool.and_eq_true,Bool.not_eq_true',beq_eq_false_iff_ne] at hs
      rcases DataW.trod_slice (sliceB_inv he) h with ⟨rfl,_⟩ | ⟨a,len,cap,elems,rest,n,_,rfl,_,hb,hl,hm,hlen,hel,_,_⟩
      · exact ⟨.isl [],by simp only [Fits]; exact ⟨[],rfl,Nat.zero_le _,fun y hy=>by cases hy⟩,by simp only [Rc]; exact ⟨rfl,_,rfl,none,0,rfl,.inl rfl⟩⟩
      · have each:∀ i,i < len → ∃ cs' y,w.cells? base (a.add (i * P.cellsOf e)) (P.cellsOf e) = some cs' ∧ Fits s y ∧ Rc (Cx.init ι w) y cs':=by
          intro i hi
          have h1:=hel i hi
          have h2:elems[i]? = some elems[i]:=List.getElem?_eq_getElem (by omega)
          rw [h2] at h1
          cases hc:w.cells? base (a.add (i * P.cellsOf e)) (P.cellsOf e) with
          | none=>rw [hc] at h1; cases h1
          | some cs' =>
            rw [hc] at h1
            obtain ⟨y,hy1,hy2⟩:=open_ok s e n cs' _ hs.2 h1
            exact ⟨cs',y,rfl,hy1,hy2⟩
        have hrow:∀ k,k ≤ len → ∃ (l:List AV) (css:List (List Value)),l.length = k ∧ (∀ y ∈ l,Fits s y) ∧ Rcl (Cx.init ι w) l css ∧ (∀ c ∈ css,c.length = P.cellsOf e) ∧
            (k = 0 ∨ (a.spot = none ∧ a.block < w.heap.size)) ∧ cellsAt w a.block a.off css.flatten:=by
          intro k
          induction k with
          | zero=>intro _; exact ⟨[],[],rfl,fun y hy=>(by cases hy),rfl,fun c hc=>(by cases hc),.inl rfl,fun i x hx=>by simp at hx⟩
          | succ k ih =>
            intro hk
            obtain ⟨l,css,i1,i2,i3,i4,i5,i6⟩:=ih (by omega)
            obtain ⟨cs',y,h1,h2,h3⟩:=each k (by omega)
            obtain ⟨s1,s2,s3,s4⟩:=cells_at h1 hs.1
            have hsp:a.spot = none:=by
              obtain ⟨b,off,sp⟩:=a
              cases sp with
              | none=>rfl
              | some q=>simp [Addr.add] at s1; split at s1 <;> simp_all
            obtain ⟨b,off,sp⟩:=a
            simp only at hsp
            subst hsp
            rw [addr_add] at s2 s4
            have hcl:=Rcl_count _ _ i3
            refine ⟨l ++ [y],css ++ [cs'],by simp [i1],fun z hz=>?_,Rcl_append _ _ _ _ i3 (by simp only [Rcl]; exact ⟨cs',[],rfl,h3,rfl⟩),fun c hc=>?_,.inr ⟨rfl,s2⟩,?_⟩
            · rcases List.mem_append.1 hz with hz | hz
              · exact i2 z hz
              · simp at hz; subst hz; exact h2
            · rcases List.mem_append.1 hc with hc | hc
              · exact i4 c hc
              · simp at hc; subst hc; exact s3
            · intro i x hx
              rw [List.flatten_append,List.flatten_singleton] at hx
              have hfl:=uniform_len css i4
              rw [hcl,i1] at hfl
              by_cases hi:i < css.flatten.length
              · rw [List.getElem?_append_left hi] at hx
                exact i6 i x hx
              · rw [List.getElem?_append_right (by omega)] at hx
                have:=s4 (i - css.flatten.length) x hx
                rw [← this]
                simp only
                congr 2
                omega
        obtain ⟨l,css,i1,i2,i3,i4,i5,i6⟩:=hrow len (Nat.le_refl _)
        refine ⟨.isl l,by simp only [Fits]; exact ⟨l,rfl,by omega,i2⟩,?_⟩
        simp only [Rc]
        refine ⟨hasRefs_of_mem fun y hy=>Fits_ref s y (i2 y hy),_,rfl,some a,cap,by rw [i1],?_⟩
        rcases i5 with h0 | ⟨h1,h2⟩
        · exact .inl (by omega)
        · obtain ⟨b,off,sp⟩:=a
          simp only at h1
          subst h1
          exact .inr ⟨b,off,css,P.cellsOf e,rfl,h2,by omega,i3,i4,i6⟩
    · cases hs
  | .agg ss,t,fuel,cs,x,hs,h=>by
    simp only [shpOk] at hs
    split at hs
    · rename_i ps hp
      obtain ⟨hl,m,hi⟩:=trod_parts hp h
      obtain ⟨ys,css,h1,h2,h3⟩:=opens_ok ss ps 0 (P.cellsOf t) m cs hs hl hi
      refine ⟨.agg ys,by simp only [Fits]; exact ⟨ys,rfl,h1⟩,?_⟩
      simp only [Rc]
      exact ⟨css,h2,by simpa using h3⟩
    · cases hs
theorem opens_ok:∀ (ss:List Shp) (ps:List (TypeId × Nat)) (off total m:Nat) (cs:List Value),shpsOk P off total ps ss = true → cs.length = total →
    (∀ (i:Nat) (e:TypeId) (o:Nat),ps[i]? = some (e,o) → ∃ y:DataW H × List MemPlace,DataW.trod enc P w base spare held m e ((cs.drop o).take (P.cellsOf e)) = some y) →
    ∃ ys css,Fitss ss ys ∧ Rcl (Cx.init ι w) ys css ∧ cs.drop off = css.flatten
  | [],[],off,total,m,cs,hs,hl,_=>by
    simp only [shpsOk,beq_iff_eq] at hs
    exact ⟨[],[],rfl,rfl,by rw [hs,← hl]; simp⟩
  | [],_ :: _,off,total,m,cs,hs,hl,_=>by simp [shpsOk] at hs
  | _ :: _,[],off,total,m,cs,hs,hl,_=>by simp [shpsOk] at hs
  | s :: ss,(t,o) :: ps,off,total,m,cs,hs,hl,hi=>by
    simp only [shpsOk,Bool.and_eq_true,beq_iff_eq] at hs
    obtain ⟨⟨rfl,h1⟩,h2⟩:=hs
    obtain ⟨y,hy⟩:=hi 0 t o rfl
    obtain ⟨z,z1,z2⟩:=open_ok s t m _ y h1 hy
    obtain ⟨ys,css,e1,e2,e3⟩:=opens_ok ss ps _ total m cs h2 hl fun i e o' he=>hi (i + 1) e o' (by simpa using he)
    refine ⟨z :: ys,_ :: css,by simp only [Fitss]; exact ⟨z,ys,rfl,z1,e1⟩,by simp only [Rcl]; exact ⟨_,css,rfl,z2,e2⟩,?_⟩
    rw [List.flatten_cons,← e3,← List.drop_drop,List.take_append_drop]
end
theorem open_arg {s:Shp} {r:Reach} {b0:Nat} {t:TypeId} {v:Value} {d:DataW H} {ps:List MemPlace} (hs:shpOk P t s = true) (hv:Value.okWide P w r b0 t v)
    (h:DataW.Trod enc P w base spare held t v d ps):∃ y,Fits s y ∧ Rv (Cx.init ι w) y v:=by
  obtain ⟨fuel,hf⟩:=h
  obtain ⟨y,h1,h2⟩:=open_ok (ι:=ι) s t fuel _ _ hs hf
  refine ⟨y,h1,?_⟩
  have hno:∀ (v:Value),vIsA v = false → y.isA = false → Rc (Cx.init ι w) y v.cells.toList → Rv (Cx.init ι w) y v:=fun v h3 h4 h5=>by
    rw [cells_one h3] at h5; exact Rv_one h5 h4 h3
  cases s with
  | int k =>
    simp only [Fits] at h1
    obtain ⟨n,rfl,_⟩:=h1
    simp only [shpOk] at hs
    split at hs
    · rename_i k' hk
      refine hno v ?_ rfl h2
      cases v <;> first | rfl | (simp only [Value.okWide,hk,Cell.okWide,Cell.ok] at hv)
    · cases hs
  | bool =>
    simp only [Fits] at h1
    obtain ⟨n,rfl⟩:=h1
    simp only [shpOk] at hs
    split at hs
    · rename_i hk
      refine hno v ?_ rfl h2
      cases v <;> first | rfl | (simp only [Value.okWide,hk,Cell.okWide,Cell.ok] at hv)
    · cases hs
  | sl s =>
    simp only [Fits] at h1
    obtain ⟨l,rfl,_⟩:=h1
    simp only [shpOk] at hs
    split at hs
    · rename_i e he
      obtain ⟨a,len,cap,rfl⟩:=Go.WideShapes.okWide_slice (sliceB_inv he) hv
      exact hno _ rfl rfl h2
    · cases hs
  | agg ss =>
    simp only [Fits] at h1
    obtain ⟨l,rfl,_⟩:=h1
    simp only [shpOk] at hs
    have:∃ cs,v = .agg cs:=by
      split at hs
      · rename_i ps hp
        unfold partsOf at hp
        split at hp
        · rename_i fs ht
          simp only [Value.okWide,ht] at hv
          obtain ⟨cs,e,_⟩:=hv; exact ⟨cs,e⟩
        · rename_i n e ht
          simp only [Value.okWide,ht] at hv
          obtain ⟨cs,e,_⟩:=hv; exact ⟨cs,e⟩
        · cases hp
      · cases hs
    obtain ⟨cs,rfl⟩:=this
    exact Rv_of h2 rfl
end
theorem law_calls {P:Program} {ι:Env} {pureF:Nat → Bool} {E:CallF} {GP:Nat → Option AFun} (T:Tied P ι pureF E GP) {g:Nat} {xs:List AV} {H':Heap} {b:Bool} {vals:List Value} {W:World}
    (h:call E GP g xs [] = some (.bool true,H',b)) (hG:∀ p ∈ ι.G,p.1.block < W.heap.size ∧ W.cell? p.1 = some p.2) (hr:Rvs (Cx.init ι W) xs vals) (henter:∀ args w,(callFunc (ι g) args).run P w = .ok (.enter (ι g) args) w) :
    Calls P (ι g) vals.toArray W fun e w'=>e = .returned (.bool true) ∧ Below W.heap.size W w':=by
  have hc:=call_sound T g xs [] _ _ _ h W.heap.size (Cx.init ι W) vals rfl (Sim.init ι W hG) hr
  have hw:(Cx.init ι W).w = W:=rfl
  rw [hw] at hc
  unfold Called at hc
  rw [henter] at hc
  refine Calls.mono hc fun e w' he=>?_
  cases e with
  | returned v =>
    obtain ⟨C',rfl,hst,hv⟩:=he
    exact ⟨by rw [Rv_bool hv],hst.below⟩
  | panicked _=>exact he.elim
  | outgrown=>exact he.elim
end Tor
namespace Tor
open Go
theorem fits_list {S:Shp} {α:Type} {f:α → AV} {Q:α → Prop} (h:∀ y,Fits S y → ∃ p,y = f p ∧ Q p):∀ (l:List AV),(∀ y ∈ l,Fits S y) → ∃ m:List α,l = m.map f ∧ ∀ p ∈ m,Q p
  | [],_=>⟨[],rfl,fun p hp=>by cases hp⟩
  | y :: r,hl=>by
    obtain ⟨p,rfl,hp⟩:=h y (hl y (.head _))
    obtain ⟨m,rfl,hm⟩:=fits_list h r fun z hz=>hl z (.tail _ hz)
    exact ⟨p :: m,rfl,fun q hq=>by
      cases hq with
      | head=>exact hp
      | tail _ hq=>exact hm q hq⟩
end Tor
namespace Tor
open Go
class Fl {α:Type} (e:α → AV) where
  d:Nat
  s:Nat
  ref:∀ x,(e x).hasRef = false
  sol:∀ x,(e x).solid = true
  fz:∀ n H k x,fz n H (k + d) (e x) = e x
  sz:∀ x,(e x).size = s
section
variable {α:Type} {e:α → AV} [F:Fl e]
theorem fl_ref:∀ l:List α,AV.hasRefs (l.map e) = false
  | []=>rfl
  | x :: r=>by simp only [List.map_cons,AV.hasRefs,F.ref,fl_ref r,Bool.or_self]
theorem fl_sol:∀ l:List α,AV.solids (l.map e) = true
  | []=>rfl
  | x :: r=>by simp only [List.map_cons,AV.solids,F.sol,fl_sol r,Bool.and_self]
theorem fl_fz {n H k} {l:List α} (h:Fl.d e ≤ k):(l.map e).map (fz n H k) = l.map e:=by
  obtain ⟨j,rfl⟩:=Nat.exists_eq_add_of_le' h
  rw [List.map_map]; apply List.map_congr_left; intro y _; exact F.fz n H j y
theorem fl_hd {s:Nat} {l:List α} (h:s = Fl.s e):headSize s (l.map e) = true:=by
  subst h
  cases l with
  | nil=>rfl
  | cons x r=>simp [headSize,F.sz]
end
theorem gM {α:Type} {f:α → AV} {l:List α} {i:Nat} (h:i < l.length):(l.map f)[i]? = some (f l[i]):=by simp [h]
theorem w64 {n:Int} (h:-9223372036854775808 ≤ n ∧ n ≤ 9223372036854775807):IntKind.i64.wrap n = n:=i64w h
instance flfA:Fl fA where
  d:=3
  s:=3
  ref:=fA_ref
  sol p:=by simp [fA,AV.solid,AV.solids,Z_solid]
  fz n H k p:=fz_fA n H k p
  sz p:=by simp [fA,AV.size,AV.sizes,Z_size]
instance flcA:Fl cA where
  d:=6
  s:=3
  ref:=cA_ref
  sol x:=by simp [cA,AV.solid,AV.solids,refs_fA,solids_fA]
  fz:=fz_cA
  sz x:=by simp [cA,AV.size,AV.sizes]
instance fliA:Fl iA where
  d:=1
  s:=1
  ref _:=rfl
  sol _:=rfl
  fz _ _ _ _:=rfl
  sz _:=rfl
instance flbA:Fl bA where
  d:=1
  s:=1
  ref _:=rfl
  sol _:=rfl
  fz _ _ _ _:=rfl
  sz _:=rfl
def mA (p:Int × List (Int × Int)):AV:=.agg [.int .i64 p.1,.isl (p.2.map fA)]
instance flmA:Fl mA where
  d:=2
  s:=2
  ref p:=by simp [mA,AV.hasRef,AV.hasRefs]
  sol p:=by simp [mA,AV.solid,AV.solids,refs_fA,solids_fA]
  fz n H k p:=by simp only [mA,fz,List.map_cons,List.map_nil]
  sz p:=by simp [mA,AV.size,AV.sizes]
theorem loop_ind {E:CallF} {GP:Nat → Option AFun} {l:AIR} (S:Nat → St) (r:Option (Ex × St)):∀ n,(∀ i,i < n → run E GP l (S i) = run E GP l (S (i + 1))) → run E GP l (S n) = r → run E GP l (S 0) = r
  | 0,_,h=>h
  | n + 1,hs,h=>loop_ind S r n (fun i hi=>hs i (by omega)) ((hs n (by omega)).trans h)
theorem sf:type_of% (And.intro (And.intro (And.intro (@fl_ref) (@fl_sol)) (And.intro (@fl_fz) (@fl_hd))) (And.intro (And.intro (@gM) (@w64)) (And.intro (@Int.ofNat_lt) (@Int.natCast_add)))):=And.intro (And.intro (And.intro (@fl_ref) (@fl_sol)) (And.intro (@fl_fz) (@fl_hd))) (And.intro (And.intro (@gM) (@w64)) (And.intro (@Int.ofNat_lt) (@Int.natCast_add)))
end Tor
namespace Tor
open Go
abbrev Mp:=List (Int × List (Int × Int))
variable {E:CallF} (hE:Free E)
include hE
end Tor
namespace Tor
open Go
structure GC (S:List Int) (u:Nat) (x:List (Int × Int)):Prop where
  can:Canon none x
  bd:Bd (2 ^ u) x
  key:∀ p ∈ x,p.1 ∈ S
theorem canon_lt:∀ (x:List (Int × Int)) (b:Option Int),Canon b x → (∀ p ∈ x,∀ m,b = some m → m < p.1) ∧ (x.map (·.1)).Pairwise (· < ·)
  | [],b,_=>⟨fun p hp=>(by cases hp),.nil⟩
  | (j,v) :: r,b,h=>by
    obtain ⟨h1,h2⟩:=canon_lt r (some j) h.2.2
    refine ⟨fun p hp m hm=>?_,List.pairwise_cons.2 ⟨fun k hk=>?_,h2⟩⟩
    · have:=h.1 m hm
      cases hp with
      | head=>exact this
      | tail _ hp=>have:=h1 p hp j rfl; omega
    · obtain ⟨p,hp,rfl⟩:=List.mem_map.1 hk
      exact h1 p hp j rfl
theorem sub_len:∀ (l S:List Int),l.Nodup → (∀ k ∈ l,k ∈ S) → l.length ≤ S.length
  | [],_,_,_=>Nat.zero_le _
  | k :: r,S,h,hs=>by
    obtain ⟨h1,h2⟩:=List.nodup_cons.1 h
    have hk:=hs k (.head _)
    have:=sub_len r (S.erase k) h2 fun j hj=>(List.mem_erase_of_ne (fun e=>h1 (by rw [← e]; exact hj))).2 (hs j (.tail _ hj))
    rw [List.length_erase_of_mem hk] at this
    have:=List.length_pos_of_mem hk
    simp only [List.length_cons]; omega
theorem GC.len {S u x} (h:GC S u x):x.length ≤ S.length:=by
  have h1:=(canon_lt x none h.can).2
  have h2:(x.map (·.1)).Nodup:=h1.imp fun h=>by omega
  have:=sub_len (x.map (·.1)) S h2 fun k hk=>by
    obtain ⟨p,hp,rfl⟩:=List.mem_map.1 hk
    exact h.key p hp
  simpa using this
theorem GC.mono {S u v x} (h:GC S u x) (huv:u ≤ v):GC S v x:=⟨h.can,fun p hp=>Nat.le_trans (h.bd p hp) (Nat.pow_le_pow_right (by decide) huv),h.key⟩
theorem GC.sub {S S' u x} (h:GC S u x) (hs:∀ k ∈ S,k ∈ S'):GC S' u x:=⟨h.can,h.bd,fun p hp=>hs _ (h.key p hp)⟩
theorem GC.nil {S u}:GC S u []:=⟨trivial,fun p hp=>(by cases hp),fun p hp=>(by cases hp)⟩
theorem GC.one {S:List Int} {u:Nat} {k n:Int} (hk:k ∈ S) (hn:n ≠ 0) (hb:n.natAbs ≤ 2 ^ u):GC S u [(k,n)] :=
  ⟨⟨fun m hm=>(by cases hm),hn,trivial⟩,fun p hp=>(by rw [List.mem_singleton] at hp; subst hp; exact hb),fun p hp=>(by rw [List.mem_singleton] at hp; subst hp; exact hk)⟩
theorem GC.ch {S u x L} (h:GC S u x) (hS:S.length ≤ L) (hi:∀ k ∈ S,in64 k = true):Ch (2 ^ u) L x:=⟨h.can,h.bd,Nat.le_trans h.len hS,fun p hp=>hi _ (h.key p hp)⟩
variable {E:CallF} (hE:Free E)
include hE
end Tor
namespace Tor
open Go
variable {E:CallF} (hE:Free E)
include hE
theorem i_cmp (m n:Int) (H:Heap) (hm:(limbs m.natAbs).length < 2147483648) (hn:(limbs n.natAbs).length < 2147483648):call E GP 168 [Z m,Z n] H = some (.int .i64 (cmp3 m n),H,false):=by
  rw [call_fun (hE _ _ _ (by decide)) (f:=a168) rfl rfl]
  have c1:=fun H=>i_compare hE m.natAbs n.natAbs H hm hn
  have c2:=fun H=>i_compare hE n.natAbs m.natAbs H hn hm
  unfold Z
  by_cases h1:m < 0
  · by_cases h2:n < 0
    · have e:cmp3 (n.natAbs:Nat) (m.natAbs:Nat) = cmp3 m n:=by unfold cmp3; split <;> split <;> (try split) <;> (try split) <;> omega
      rw [e] at c2
      simp (maxSteps:=1000000) (disch:=first | omega | decide) only [si,sf,simprocAttr,a168,a168R,h1,h2,c2]
    · have e:cmp3 m n = -1:=by unfold cmp3; rw [if_pos (by omega)]
      rw [e]
      simp (maxSteps:=1000000) (disch:=first | omega | decide) only [si,sf,simprocAttr,a168,a168R,h1,h2]
  · by_cases h2:n < 0
    · have e:cmp3 m n = 1:=by unfold cmp3; rw [if_neg (by omega),if_pos (by omega)]
      rw [e]
      simp (maxSteps:=1000000) (disch:=first | omega | decide) only [si,sf,simprocAttr,a168,a168R,h1,h2]
    · have e:cmp3 (m.natAbs:Nat) (n.natAbs:Nat) = cmp3 m n:=by unfold cmp3; split <;> split <;> (try split) <;> (try split) <;> omega
      rw [e] at c1
      simp (maxSteps:=1000000) (disch:=first | omega | decide) only [si,sf,simprocAttr,a168,a168R,h1,h2,c1]
end Tor
namespace Tor
open Go
variable {E:CallF} (hE:Free E)
include hE
def okM (c:List Cel) (m:Mp):Prop:=c.length = m.length ∧ ∀ i (hi:i < c.length) (hj:i < m.length),c[i].id = m[i].1 ∧ valid26 m[i].2 = true
noncomputable instance (c:List Cel) (m:Mp):Decidable (okM c m):=Classical.propDecidable _
end Tor
namespace Tor
open Go
variable {E:CallF} (hE:Free E)
include hE
theorem i_of (n:Int) (H:Heap) (h1:-9223372036854775808 ≤ n) (h2:n ≤ 9223372036854775807):call E GP 160 [.int .i64 n] H = some (Z n,H,false):=by
  rw [call_fun (hE _ _ _ (by decide)) (f:=a160) rfl rfl]
  have key:∀ m:Nat,m < 18446744073709551616 → ∀ H,call E GP 54 [.isl [.int .u32 ((m % B32:Nat):Int),.int .u32 ((m / B32:Nat):Int)],.bool (decide (n < 0))] H = some (Z (if n < 0 then -(m:Int) else m),H,false):=by
    intro m hm H
    have:=i_norm_isl hE [m % B32,m / B32] (decide (n < 0)) H (fun d hd=>by
      simp only [B32] at hd ⊢
      simp only [List.mem_cons,List.not_mem_nil,or_false] at hd
      rcases hd with rfl | rfl <;> omega) (by simp)
    have hv:val [m % B32,m / B32] = m:=by simp only [val,B32]; omega
    unfold ofL at this
    rw [hv] at this
    simpa [limbA] using this
  have ws:∀ m:Nat,m < 18446744073709551616 → IntKind.u32.wrap (((m:Nat):Int).fdiv (2 ^ (Nat.min 32 IntKind.u64.bits))) = ((m / B32:Nat):Int):=by
    intro m hm
    have e:(2:Int) ^ (Nat.min 32 IntKind.u64.bits) = 4294967296:=by decide
    rw [e,Int.fdiv_eq_ediv_of_nonneg _ (by omega),IntKind.wrap_u32]
    simp only [B32]; omega
  by_cases hn:n < 0
  · have wu:IntKind.u64.wrap n = ((18446744073709551616 - n.natAbs:Nat):Int):=by rw [IntKind.wrap_u64]; omega
    have wn:IntKind.u64.wrap (0 - ((18446744073709551616 - n.natAbs:Nat):Int)) = ((n.natAbs:Nat):Int):=by rw [IntKind.wrap_u64]; omega
    have hk:=key n.natAbs (by omega)
    have hs:=ws n.natAbs (by omega)
    have e:(if n < 0 then -(n.natAbs:Int) else (n.natAbs:Int)) = n:=by rw [if_pos hn]; omega
    rw [e] at hk
    simp only [hn,decide_true,decide_false] at hk
    simp (maxSteps:=1000000) only [si,simprocAttr,a160,a160R,hn,wu,wn,u32n,hs,hk]
  · have wu:IntKind.u64.wrap n = ((n.natAbs:Nat):Int):=by rw [IntKind.wrap_u64]; omega
    have hk:=key n.natAbs (by omega)
    have hs:=ws n.natAbs (by omega)
    have e:(if n < 0 then -(n.natAbs:Int) else (n.natAbs:Int)) = n:=by rw [if_neg hn]; omega
    rw [e] at hk
    simp only [hn,decide_true,decide_false] at hk
    simp (maxSteps:=1000000) only [si,simprocAttr,a160,a160R,hn,wu,u32n,hs,hk]
end Tor
namespace Tor
open Go
instance flZ:Fl Z where
  d:=2
  s:=2
  ref:=Z_ref
  sol:=Z_solid
  fz n H k x:=fz_Z n H k x
  sz:=Z_size
def Sz (z:Int):Prop:=z.natAbs < B32 ^ 8
theorem Sz.len {z:Int} (h:Sz z):(limbs z.natAbs).length ≤ 8:=limbs_len_lt h
variable {E:CallF} (hE:Free E)
include hE
theorem b_sign (n:Int) (H:Heap):call E GP 48 [Z n] H = some (.int .i64 n.sign,H,false):=i_sign hE n H
theorem b_mul (m n:Int) (H:Heap) (hm:Sz m) (hn:Sz n):call E GP 32 [Z m,Z n] H = some (Z (m * n),H,false):=i_mul hE m n H (by have:=hm.len; omega) (by have:=hn.len; omega)
theorem b_add (m n:Int) (H:Heap) (hm:Sz m) (hn:Sz n):call E GP 53 [Z m,Z n] H = some (Z (m + n),H,false):=i_add hE m n H (by have:=hm.len; omega) (by have:=hn.len; omega)
theorem b_cmp (m n:Int) (H:Heap) (hm:Sz m) (hn:Sz n):call E GP 168 [Z m,Z n] H = some (.int .i64 (cmp3 m n),H,false):=i_cmp hE m n H (by have:=hm.len; omega) (by have:=hn.len; omega)
theorem i_dot1 (s x y:Int) (H:Heap) (hs:Sz s) (hx:Sz x) (hy:Sz y) (hxy:Sz (x * y)):call E GP 197 [Z s,Z x,Z y] H = some (Z (s + x * y),H,false):=by
  rw [call_fun (hE _ _ _ (by decide)) (f:=a197) rfl rfl]
  have c1:=fun H=>b_sign hE x H
  have c2:=fun H=>b_sign hE y H
  have c3:=fun H=>b_mul hE x y H hx hy
  have c4:=fun H=>b_add hE s (x * y) H hs hxy
  by_cases h1:x.sign = 0
  · obtain rfl:x = 0:=Int.sign_eq_zero_iff_zero.1 h1
    have e:s + 0 * y = s:=by simp
    rw [e]
    simp (maxSteps:=1000000) (disch:=first | omega | decide) only [si,sf,simprocAttr,a197,a197R,h1,c1,c2]
  · by_cases h2:y.sign = 0
    · obtain rfl:y = 0:=Int.sign_eq_zero_iff_zero.1 h2
      have e:s + x * 0 = s:=by simp
      rw [e]
      simp (maxSteps:=1000000) (disch:=first | omega | decide) only [si,sf,simprocAttr,a197,a197R,h1,h2,c1,c2]
    · simp (maxSteps:=1000000) (disch:=first | omega | decide) only [si,sf,simprocAttr,a197,a197R,h1,h2,c1,c2,c3,c4]
def dotI:List Int → List Int → Int
  | x :: a,y :: b=>x * y + dotI a b
  | _,_=>0
omit hE in
theorem dotI_take:∀ (a b:List Int) (i:Nat) (ha:i < a.length) (hb:i < b.length),dotI (a.take (i + 1)) (b.take (i + 1)) = dotI (a.take i) (b.take i) + a[i] * b[i]
  | x :: a,y :: b,0,_,_=>by simp [dotI]
  | x :: a,y :: b,i + 1,ha,hb=>by
    have:=dotI_take a b i (by simpa using ha) (by simpa using hb)
    simp only [List.take_succ_cons,dotI,this,List.getElem_cons_succ]
    omega
omit hE in
theorem dotI_le {m:Nat}:∀ (a b:List Int),(∀ x ∈ a,x.natAbs ≤ m) → (∀ x ∈ b,x.natAbs ≤ m) → (dotI a b).natAbs ≤ a.length * (m * m)
  | [],b,_,_=>by cases b <;> simp [dotI]
  | x :: a,[],_,_=>by simp [dotI]
  | x :: a,y :: b,ha,hb=>by
    have h1:=dotI_le a b (fun z hz=>ha z (.tail _ hz)) (fun z hz=>hb z (.tail _ hz))
    have h2:(x * y).natAbs ≤ m * m:=by rw [Int.natAbs_mul]; exact Nat.mul_le_mul (ha x (.head _)) (hb y (.head _))
    simp only [dotI,List.length_cons,Nat.succ_mul]
    omega
theorem i_fold (a b:List Int) (hl:a.length = b.length) (h20:a.length ≤ 1048576) (ha:∀ x ∈ a,x.natAbs ≤ 1048576) (hb:∀ x ∈ b,x.natAbs ≤ 1048576) (H:Heap) :
    call E GP 198 [.isl (a.map Z),.isl (b.map Z),zI,.fn 197 []] H = some (Z (dotI a b),H,false):=by
  let S:Nat → St:=fun i=>{ vars:=[.isl (a.map Z),.isl (b.map Z),zI,.fn 197 [],.u,.int .i64 (a.length:Nat),.int .i64 (i:Nat),.u,Z (dotI (a.take i) (b.take i)),zI],heap:=[],rs:=false }
  have hstep:∀ i,i < a.length → run E GP a198l0 (S i) = run E GP a198l0 (S (i + 1)):=by
    intro i hi
    have hib:i < b.length:=by omega
    have hs:Sz (dotI (a.take i) (b.take i)):=by
      have h1:=dotI_le (m:=1048576) (a.take i) (b.take i) (fun x hx=>ha x (List.mem_of_mem_take hx)) (fun x hx=>hb x (List.mem_of_mem_take hx))
      have h2:(a.take i).length * (1048576 * 1048576) ≤ 1048576 * (1048576 * 1048576):=Nat.mul_le_mul_right _ (by simp; omega)
      unfold Sz B32; omega
    have h1:=ha _ (List.getElem_mem hi)
    have h2:=hb _ (List.getElem_mem hib)
    have h3:(a[i] * b[i]).natAbs ≤ 1048576 * 1048576:=by rw [Int.natAbs_mul]; exact Nat.mul_le_mul h1 h2
    have hc:=fun H=>i_dot1 hE (dotI (a.take i) (b.take i)) a[i] b[i] H hs (by unfold Sz B32; omega) (by unfold Sz B32; omega) (by unfold Sz B32; omega)
    rw [← dotI_take a b i hi hib] at hc
    show run E GP a198l0 { vars:=_,heap:=_,rs:=_ } = run E GP a198l0 { vars:=_,heap:=_,rs:=_ }
    conv=>lhs; rw [a198l0_run]
    simp (maxSteps:=1000000) (disch:=first | omega | decide) only [si,sf,simprocAttr,a198b0,a198R,hi,hib,hc]
  have hlp:=loop_ind S _ a.length hstep rfl
  have he:run E GP a198l0 (S a.length) = some (.exit 0,{ vars:=[.isl (a.map Z),.isl (b.map Z),zI,.fn 197 [],.u,.int .i64 (a.length:Nat),.int .i64 (a.length:Nat),.bool false,Z (dotI a b),zI],heap:=[],rs:=false }):=by
    show run E GP a198l0 { vars:=_,heap:=_,rs:=_ } = _
    rw [a198l0_run]
    have e1:a.take a.length = a:=List.take_length
    have e2:b.take a.length = b:=by rw [hl]; exact List.take_length
    simp (maxSteps:=1000000) (disch:=first | omega | decide) only [si,sf,simprocAttr,a198b0,a198R,Nat.lt_irrefl,e1,e2]
  rw [he] at hlp
  have hlp:run E GP a198l0 { vars:=[.isl (a.map Z),.isl (b.map Z),zI,.fn 197 [],.u,.int .i64 (a.length:Nat),.int .i64 0,.u,zI,zI],heap:=[],rs:=false } = some (.exit 0,{ vars:=[.isl (a.map Z),.isl (b.map Z),zI,.fn 197 [],.u,.int .i64 (a.length:Nat),.int .i64 (a.length:Nat),.bool false,Z (dotI a b),zI],heap:=[],rs:=false }):=by
    have e:Z (dotI (a.take 0) (b.take 0)) = zI:=by simp [dotI]; rfl
    have h0:=hlp
    simp only [S,e] at h0
    exact h0
  unfold zI at hlp
  rw [call_fun (hE _ _ _ (by decide)) (f:=a198) rfl rfl]
  simp (maxSteps:=1000000) (disch:=first | omega | decide) only [si,sf,simprocAttr,a198,a198R,hlp]
theorem i_dot (a b:List Int) (hl:a.length = b.length) (h20:a.length ≤ 1048576) (ha:∀ x ∈ a,x.natAbs ≤ 1048576) (hb:∀ x ∈ b,x.natAbs ≤ 1048576) (H:Heap) :
    call E GP 184 [.isl (a.map Z),.isl (b.map Z)] H = some (Z (dotI a b),H,false):=by
  have hc:=fun H=>i_fold hE a b hl h20 ha hb H
  rw [call_fun (hE _ _ _ (by decide)) (f:=a184) rfl rfl]
  unfold zI at hc
  simp (maxSteps:=1000000) (disch:=first | omega | decide) only [si,sf,simprocAttr,a184,a184R,hc]
theorem i_length (a:List Int) (h20:a.length ≤ 1048576) (ha:∀ x ∈ a,x.natAbs ≤ 1048576) (H:Heap) :
    call E GP 169 [.isl (a.map Z)] H = some (Z (dotI a a),H,false):=by
  have hc:=fun H=>i_dot hE a a rfl h20 ha ha H
  have hD:∀ H,call E GP 176 [.isl (a.map Z),.isl (a.map Z)] H = some (.tup [Z (dotI a a),.int .i64 0],H,false):=fun H=>by
    rw [call_fun (hE _ _ _ (by decide)) (f:=a176) rfl rfl]
    have hn:¬ ((a.length:Int) ≠ a.length):=by simp
    simp (maxSteps:=1000000) (disch:=first | omega | decide) only [si,sf,simprocAttr,a176,a176R,hc,hn,Z_plain]
  rw [call_fun (hE _ _ _ (by decide)) (f:=a169) rfl rfl]
  simp (maxSteps:=1000000) (disch:=first | omega | decide) only [si,sf,simprocAttr,a169,a169R,hD,Z_plain]
theorem i_less (x y:Int) (H:Heap) (hx:Sz x) (hy:Sz y):call E GP 170 [Z x,Z y] H = some (.int .i64 (cmp3 y x),H,false):=by
  have hc:=fun H=>b_cmp hE y x H hy hx
  rw [call_fun (hE _ _ _ (by decide)) (f:=a170) rfl rfl]
  simp (maxSteps:=1000000) (disch:=first | omega | decide) only [si,sf,simprocAttr,a170,a170R,hc]
end Tor
namespace Tor
open Go
def lenS:ByteArray:=⟨#[0,1,2,2,3,3,3,3,4,4,4,4,4,4,4,4,5,5,5,5,5,5,5,5,5,5,5,5,5,5,5,5,6,6,6,6,6,6,6,6,6,6,6,6,6,6,6,6,6,6,6,6,6,6,6,6,6,6,6,6,6,6,6,6,7,7,7,7,7,7,7,7,7,7,7,7,7,7,7,7,7,7,7,7,7,7,7,7,7,7,7,7,7,7,7,7,7,7,7,7,7,7,7,7,7,7,7,7,7,7,7,7,7,7,7,7,7,7,7,7,7,7,7,7,7,7,7,7,8,8,8,8,8,8,8,8,8,8,8,8,8,8,8,8,8,8,8,8,8,8,8,8,8,8,8,8,8,8,8,8,8,8,8,8,8,8,8,8,8,8,8,8,8,8,8,8,8,8,8,8,8,8,8,8,8,8,8,8,8,8,8,8,8,8,8,8,8,8,8,8,8,8,8,8,8,8,8,8,8,8,8,8,8,8,8,8,8,8,8,8,8,8,8,8,8,8,8,8,8,8,8,8,8,8,8,8,8,8,8,8,8,8,8,8,8,8,8,8,8,8,8,8,8,8,8,8]⟩
set_option maxRecDepth 100000 in
theorem lenS_ok:∀ i,i < 256 → ∃ b:UInt8,lenS[i]? = some b ∧ b.toNat ≤ 8 ∧ i < 2 ^ b.toNat ∧ (b.toNat = 0 ∨ 2 ^ (b.toNat - 1) ≤ i):=by
  intro i hi
  have h:((List.range 256).all fun i=>match lenS[i]? with | some b=>decide (b.toNat ≤ 8 ∧ i < 2 ^ b.toNat ∧ (b.toNat = 0 ∨ 2 ^ (b.toNat - 1) ≤ i)) | none=>false) = true:=by decide +kernel
  have:=List.all_eq_true.1 h i (List.mem_range.2 hi)
  split at this
  · rename_i b hb
    exact ⟨b,hb,of_decide_eq_true this⟩
  · cases this
theorem a107R10:a107R 10 () = [mV 1,mV 0,oN (.conv .u8 (.l 1)),oN (.indexStr (.c (.a (.string lenS))) (.l 2)),oN (.conv .i64 (.l 3)),oN (.bin .add (.l 0) (.l 4)),sL 1 5]:=rfl
theorem a106R7:a106R 7 () = [mV 1,mV 0,oN (.conv .u8 (.l 1)),oN (.indexStr (.c (.a (.string lenS))) (.l 2)),oN (.conv .i64 (.l 3)),oN (.bin .add (.l 0) (.l 4)),sL 1 5]:=rfl
variable {E:CallF} (hE:Free E)
include hE
theorem b_len (n:Nat) (hn:n < 256):∃ k,∀ H,call E GP 84 [.int .u64 (n:Int)] H = some (.int .i64 k,H,false):=by
  obtain ⟨b,hb,h8,h1,h2⟩:=lenS_ok n hn
  have g1:¬ ((n:Int) ≥ 4294967296):=by omega
  have g2:¬ ((n:Int) ≥ 65536):=by omega
  have g3:¬ ((n:Int) ≥ 256):=by omega
  have w8:IntKind.u8.wrap (n:Int) = n:=by show (n:Int) % 256 = n; omega
  have wb:IntKind.i64.wrap (b.toNat:Int) = b.toNat:=i64w (by omega)
  have wb0:IntKind.i64.wrap (0 + (b.toNat:Int)) = b.toNat:=by rw [Int.zero_add]; exact wb
  have h107:∀ H,call E GP 107 [.int .u64 (n:Int)] H = some (.int .i64 (b.toNat:Nat),H,false):=fun H=>by
    rw [call_fun (hE _ _ _ (by decide)) (f:=a107) rfl rfl]
    simp (maxSteps:=1000000) (disch:=first | omega | decide) only [si,sf,simprocAttr,a107,a107R.eq_1,a107R.eq_2,a107R.eq_3,a107R.eq_4,a107R.eq_5,a107R.eq_6,a107R.eq_7,a107R.eq_8,a107R.eq_9,a107R.eq_10,a107R10,g1,g2,g3,w8,wb,wb0,hb]
  refine ⟨(b.toNat:Nat),fun H=>?_⟩
  rw [call_fun (hE _ _ _ (by decide)) (f:=a84) rfl rfl]
  simp (maxSteps:=1000000) (disch:=first | omega | decide) only [si,sf,simprocAttr,a84,a84R,h107]
omit hE in
theorem fdiv16 (y:Nat):((y:Nat):Int).fdiv (2 ^ Nat.min 16 IntKind.u32.bits) = ((y / 65536:Nat):Int):=by
  show ((y:Nat):Int).fdiv 65536 = _
  rw [Int.fdiv_eq_ediv_of_nonneg _ (by decide)]; rfl
omit hE in
theorem fdiv8 (y:Nat):((y:Nat):Int).fdiv (2 ^ Nat.min 8 IntKind.u32.bits) = ((y / 256:Nat):Int):=by
  show ((y:Nat):Int).fdiv 256 = _
  rw [Int.fdiv_eq_ediv_of_nonneg _ (by decide)]; rfl
omit hE in
theorem len_up (x y c b:Nat) (hy:y = x / 2 ^ c) (h1:y < 2 ^ b) (h2:b = 0 ∨ 2 ^ (b - 1) ≤ y) (hy0:y ≠ 0):x < 2 ^ (c + b) ∧ (c + b = 0 ∨ 2 ^ (c + b - 1) ≤ x):=by
  have hc:0 < 2 ^ c:=Nat.two_pow_pos c
  refine ⟨?_,.inr ?_⟩
  · rw [Nat.pow_add,Nat.mul_comm]
    subst hy
    exact (Nat.div_lt_iff_lt_mul hc).1 h1
  · rcases h2 with rfl | h2
    · simp at h1; omega
    · cases b with
      | zero=>simp at h1; omega
      | succ b =>
        rw [Nat.add_sub_cancel] at h2
        rw [show c + (b + 1) - 1 = c + b by omega,Nat.pow_add,Nat.mul_comm]
        rw [hy] at h2
        exact (Nat.le_div_iff_mul_le hc).1 h2
theorem b_len32 (x:Nat) (hx:x < 4294967296):∃ r:Nat,(∀ H,call E GP 106 [.int .u32 (x:Int)] H = some (.int .i64 (r:Nat),H,false)) ∧ x < 2 ^ r ∧ (r = 0 ∨ 2 ^ (r - 1) ≤ x) ∧ r ≤ 32:=by
  have w8:∀ y:Nat,y < 256 → IntKind.u8.wrap (y:Int) = y:=fun y hy=>by show (y:Int) % 256 = y; omega
  by_cases g1:((x:Int) ≥ 65536)
  · by_cases g2:(((x / 65536:Nat):Int) ≥ 256)
    · obtain ⟨b,hb,h8,h1,h2⟩:=lenS_ok (x / 65536 / 256) (by omega)
      have hu:=len_up x (x / 65536 / 256) 24 b.toNat (by rw [Nat.div_div_eq_div_mul]) h1 h2 (by omega)
      have w:=w8 (x / 65536 / 256) (by omega)
      have wb:IntKind.i64.wrap (b.toNat:Int) = b.toNat:=i64w (by omega)
      have wc:IntKind.i64.wrap (24 + (b.toNat:Int)) = 24 + b.toNat:=i64w (by omega)
      have wd:IntKind.i64.wrap (16 + 8) = 24:=by decide
      refine ⟨24 + b.toNat,fun H=>?_,hu.1,hu.2,by omega⟩
      rw [call_fun (hE _ _ _ (by decide)) (f:=a106) rfl rfl]
      simp (maxSteps:=1000000) (disch:=first | omega | decide) only [si,sf,simprocAttr,a106,a106R.eq_1,a106R.eq_2,a106R.eq_3,a106R.eq_4,a106R.eq_5,a106R.eq_6,a106R.eq_7,a106R7,g1,g2,fdiv16,fdiv8,w,wb,wc,wd,hb]
    · obtain ⟨b,hb,h8,h1,h2⟩:=lenS_ok (x / 65536) (by omega)
      have hu:=len_up x (x / 65536) 16 b.toNat rfl h1 h2 (by omega)
      have w:=w8 (x / 65536) (by omega)
      have wb:IntKind.i64.wrap (b.toNat:Int) = b.toNat:=i64w (by omega)
      have wc:IntKind.i64.wrap (16 + (b.toNat:Int)) = 16 + b.toNat:=i64w (by omega)
      refine ⟨16 + b.toNat,fun H=>?_,hu.1,hu.2,by omega⟩
      rw [call_fun (hE _ _ _ (by decide)) (f:=a106) rfl rfl]
      simp (maxSteps:=1000000) (disch:=first | omega | decide) only [si,sf,simprocAttr,a106,a106R.eq_1,a106R.eq_2,a106R.eq_3,a106R.eq_4,a106R.eq_5,a106R.eq_6,a106R.eq_7,a106R7,g1,g2,fdiv16,fdiv8,w,wb,wc,hb]
  · by_cases g2:((x:Int) ≥ 256)
    · obtain ⟨b,hb,h8,h1,h2⟩:=lenS_ok (x / 256) (by omega)
      have hu:=len_up x (x / 256) 8 b.toNat rfl h1 h2 (by omega)
      have w:=w8 (x / 256) (by omega)
      have wb:IntKind.i64.wrap (b.toNat:Int) = b.toNat:=i64w (by omega)
      have wc:IntKind.i64.wrap (8 + (b.toNat:Int)) = 8 + b.toNat:=i64w (by omega)
      have wd:IntKind.i64.wrap (0 + 8) = 8:=by decide
      refine ⟨8 + b.toNat,fun H=>?_,hu.1,hu.2,by omega⟩
      rw [call_fun (hE _ _ _ (by decide)) (f:=a106) rfl rfl]
      simp (maxSteps:=1000000) (disch:=first | omega | decide) only [si,sf,simprocAttr,a106,a106R.eq_1,a106R.eq_2,a106R.eq_3,a106R.eq_4,a106R.eq_5,a106R.eq_6,a106R.eq_7,a106R7,g1,g2,fdiv16,fdiv8,w,wb,wc,wd,hb]
    · obtain ⟨b,hb,h8,h1,h2⟩:=lenS_ok x (by omega)
      have w:=w8 x (by omega)
      have wb:IntKind.i64.wrap (b.toNat:Int) = b.toNat:=i64w (by omega)
      have wc:IntKind.i64.wrap (0 + (b.toNat:Int)) = b.toNat:=by rw [Int.zero_add]; exact wb
      refine ⟨b.toNat,fun H=>?_,h1,h2,by omega⟩
      rw [call_fun (hE _ _ _ (by decide)) (f:=a106) rfl rfl]
      simp (maxSteps:=1000000) (disch:=first | omega | decide) only [si,sf,simprocAttr,a106,a106R.eq_1,a106R.eq_2,a106R.eq_3,a106R.eq_4,a106R.eq_5,a106R.eq_6,a106R.eq_7,a106R7,g1,g2,fdiv16,fdiv8,w,wb,wc,hb]
end Tor
namespace Tor
open Go
variable {E:CallF} (hE:Free E)
include hE
def sortSt (n i:Nat) (j:AV) (b6 b7:AV) (L:List Int):St:={ vars:=[.sl 0 n 2 0 n,.int .i64 0,.int .i64 (n:Nat),.fn 170 [],.int .i64 (i:Nat),j,b6,b7],heap:=[.arr n 2 (L.map Z)],rs:=false }
theorem ins_inner (n i:Nat) (hn:n < 1048576) (x:Int) (hx:Sz x) (rest:List Int) (b6:AV):∀ (k:Nat) (s1 s2:List Int),s1.length = k → (∀ z ∈ s1 ++ s2,Sz z) → (s1 ++ s2).Pairwise (fun a b=>b ≤ a) → (∀ z ∈ s2,z < x) → (s1 ++ x :: (s2 ++ rest)).length = n → ∀ b7,∃ (s':List Int) (j:AV),s'.Perm (x :: (s1 ++ s2)) ∧ s'.Pairwise (fun a b=>b ≤ a) ∧
    run E GP a185l1 (sortSt n i (.int .i64 (s1.length:Nat)) b6 b7 (s1 ++ x :: (s2 ++ rest))) = some (.exit 2,sortSt n i j b6 (.bool false) (s' ++ rest)):=by
  intro k
  induction k with
  | zero =>
    intro s1 s2 hk hz hp hlt hlen b7
    obtain rfl:s1 = []:=List.length_eq_zero_iff.1 hk
    refine ⟨x :: s2,.int .i64 0,.refl _,List.pairwise_cons.2 ⟨fun z h=>by have:=hlt z h; omega,hp⟩,?_⟩
    unfold sortSt
    have h0:¬ ((0:Int) > 0):=by decide
    conv=>lhs; rw [a185l1_run]
    simp only [List.nil_append,List.length_nil,List.cons_append]
    simp (maxSteps:=1000000) (disch:=first | omega | decide) only [si,sf,simprocAttr,a185b1,a185R,h0]
  | succ k ih =>
    intro s1 s2 hk hz hp hlt hlen b7
    obtain ⟨t,y,rfl⟩:∃ t y,s1 = t ++ [y]:=⟨s1.dropLast,s1.getLast (by intro e; rw [e] at hk; cases hk),(List.dropLast_concat_getLast _).symm⟩
    have ht:t.length = k:=by simpa using hk
    obtain ⟨L,hL⟩:∃ L,t ++ [y] ++ x :: (s2 ++ rest) = L:=⟨_,rfl⟩
    obtain ⟨p,hpk⟩:∃ p,p = k + 1:=⟨_,rfl⟩
    rw [← hpk] at hk
    have hl1:L[p]? = some x:=by rw [← hL,hpk,← ht]; simp
    have hl0:L[k]? = some y:=by rw [← hL,← ht]; simp
    have hLn:L.length = n:=by rw [← hL]; exact hlen
    have hkn:p < n:=by rw [← hlen]; simp; omega
    have hkn2:k < n:=by omega
    have m1:(L.map Z)[p]? = some (Z x):=by rw [List.getElem?_map,hl1]; rfl
    have m0:(L.map Z)[k]? = some (Z y):=by rw [List.getElem?_map,hl0]; rfl
    have m2:((L.map Z).set p (Z y))[k]? = some (Z y):=by rw [List.getElem?_set_ne (by omega)]; exact m0
    have hy:Sz y:=hz y (by simp)
    have hc:=fun H=>i_less hE x y H hx hy
    have h0:((p:Int) > 0):=by omega
    have ws:IntKind.i64.wrap ((p:Int) - 1) = (k:Int):=by rw [show (p:Int) - 1 = k by omega]; exact i64w (by omega)
    by_cases hxy:y < x
    · have hcm:cmp3 y x < 0:=by unfold cmp3; rw [if_pos hxy]; decide
      have hset:((L.map Z).set p (Z y)).set k (Z x) = (t ++ x :: ((y :: s2) ++ rest)).map Z:=by
        rw [← List.map_set,← List.map_set,← hL,hpk,← ht]
        congr 1
        simp
      obtain ⟨s',j,p1,p2,p3⟩:=ih t (y :: s2) ht (by simpa using hz) (by simpa using hp) (fun z hz'=>by
        cases hz' with
        | head=>exact hxy
        | tail _ h=>exact hlt z h) (by rw [← hlen]; simp) .u
      refine ⟨s',j,p1.trans (by simp),p2,?_⟩
      rw [← p3]
      unfold sortSt
      rw [hk,hL,ht]
      conv=>lhs; rw [a185l1_run]
      simp (maxSteps:=1000000) (disch:=first | omega | decide) only [si,sf,simprocAttr,a185b1,a185R,h0,ws,m1,m0,hc,hcm,hLn,hkn,hkn2,m2,hset]
    · have hcm:¬ cmp3 y x < 0:=by unfold cmp3; rw [if_neg hxy]; split <;> decide
      refine ⟨t ++ [y] ++ x :: s2,.int .i64 (p:Int),List.perm_middle,?_,?_⟩
      · have hp':=List.pairwise_append.1 hp
        refine List.pairwise_append.2 ⟨hp'.1,List.pairwise_cons.2 ⟨fun z h=>by have:=hlt z h; omega,hp'.2.1⟩,?_⟩
        intro a ha b hb
        have hya:y ≤ a:=by
          have h1:=(List.pairwise_append.1 hp'.1).2.2
          rcases List.mem_append.1 ha with h | h
          · exact h1 a h y (by simp)
          · simp at h; omega
        cases hb with
        | head=>omega
        | tail _ h=>have:=hlt b h; omega
      · unfold sortSt
        have e:t ++ [y] ++ x :: s2 ++ rest = L:=by rw [← hL]; simp
        rw [hk,hL,e]
        conv=>lhs; rw [a185l1_run]
        simp (maxSteps:=1000000) (disch:=first | omega | decide) only [si,sf,simprocAttr,a185b1,a185R,h0,ws,m1,m0,hc,hcm,hLn,hkn,hkn2]
theorem ins_outer (n:Nat) (hn:n < 1048576):∀ (rest s:List Int) (i:Nat),i = s.length → 0 < i → (∀ z ∈ s ++ rest,Sz z) → s.Pairwise (fun a b=>b ≤ a) → (s ++ rest).length = n → ∀ j b6 b7,∃ (s':List Int) (j' b7':AV),s'.Perm (s ++ rest) ∧ s'.Pairwise (fun a b=>b ≤ a) ∧
    run E GP a185l0 (sortSt n i j b6 b7 (s ++ rest)) = some (.exit 0,sortSt n n j' (.bool false) b7' s')
  | [],s,i,hi,h0,hz,hp,hlen,j,b6,b7=>by
    refine ⟨s,j,b7,by simp,hp,?_⟩
    have e:i = n:=by rw [← hlen,hi]; simp
    subst e
    unfold sortSt
    rw [List.append_nil]
    conv=>lhs; rw [a185l0_run]
    simp (maxSteps:=1000000) (disch:=first | omega | decide) only [si,sf,simprocAttr,a185b0,a185R,Int.lt_irrefl]
  | x :: rest,s,i,hi,h0,hz,hp,hlen,j,b6,b7=>by
    have hin:i < n:=by rw [← hlen,hi]; simp
    have hin':(i:Int) < (n:Int):=by omega
    obtain ⟨s1,j1,p1,p2,p3⟩:=ins_inner hE n i hn x (hz x (by simp)) rest (.bool true) s.length s [] rfl (fun z h=>hz z (by simp at h; simp [h])) (by simpa using hp) (fun z h=>by cases h) (by simpa using hlen) b7
    have hl1:i + 1 = s1.length:=by rw [p1.length_eq]; simp; omega
    have hz1:∀ z ∈ s1 ++ rest,Sz z:=fun z h=>by
      rcases List.mem_append.1 h with h | h
      · have:=p1.mem_iff.1 h
        refine hz z ?_
        simp only [List.append_nil,List.mem_cons,List.mem_append] at this ⊢
        rcases this with h | h
        · exact .inr (.inl h)
        · exact .inl h
      · exact hz z (by simp [h])
    obtain ⟨s2,j2,b2,q1,q2,q3⟩:=ins_outer n hn rest s1 (i + 1) hl1 (by omega) hz1 p2 (by rw [← hlen]; simp; omega) .u .u .u
    refine ⟨s2,j2,b2,q1.trans ?_,q2,?_⟩
    · have h1:(s1 ++ rest).Perm (x :: s ++ rest):=List.Perm.append_right _ (by simpa using p1)
      exact h1.trans (by simpa using List.perm_middle.symm)
    · rw [← q3]
      rw [← hi] at p3
      rw [List.nil_append] at p3
      unfold sortSt at p3 ⊢
      conv=>lhs; rw [a185l0_run]
      simp (maxSteps:=1000000) (disch:=first | omega | decide) only [si,sf,simprocAttr,a185b0,a185R,hin',p3]
theorem i_sort (L:List Int) (hn:L.length ≤ 12) (hz:∀ z ∈ L,Sz z):∃ s:List Int,s.Perm L ∧ s.Pairwise (fun a b=>b ≤ a) ∧
    call E GP 171 [.sl 0 L.length 2 0 L.length,.fn 170 []] [.arr L.length 2 (L.map Z)] = some (.tup [],[.arr L.length 2 (s.map Z)],false):=by
  have key:∃ s:List Int,s.Perm L ∧ s.Pairwise (fun a b=>b ≤ a) ∧ call E GP 185 [.sl 0 L.length 2 0 L.length,.int .i64 0,.int .i64 (L.length:Nat),.fn 170 []] [.arr L.length 2 (L.map Z)] = some (.tup [],[.arr L.length 2 (s.map Z)],false):=by
    cases L with
    | nil =>
      refine ⟨[],.refl _,.nil,?_⟩
      rw [call_fun (hE _ _ _ (by decide)) (f:=a185) rfl rfl]
      rw [show (([]:List Int).length:Int) = 0 from rfl]
      have h0:¬ ((1:Int) < 0):=by decide
      have hl:run E GP a185l0 { vars:=[.sl 0 0 2 0 0,.int .i64 0,.int .i64 0,.fn 170 [],.int .i64 1,.u,.u,.u],heap:=[.arr 0 2 []],rs:=false } = some (.exit 0,{ vars:=[.sl 0 0 2 0 0,.int .i64 0,.int .i64 0,.fn 170 [],.int .i64 1,.u,.bool false,.u],heap:=[.arr 0 2 []],rs:=false }):=by
        rw [a185l0_run]
        simp (maxSteps:=1000000) (disch:=first | omega | decide) only [si,sf,simprocAttr,a185b0,a185R,h0]
      simp (maxSteps:=1000000) (disch:=first | omega | decide) only [si,sf,simprocAttr,a185,a185R,hl]
    | cons x r =>
      obtain ⟨s,j,b,p1,p2,p3⟩:=ins_outer hE (x :: r).length (by omega) r [x] 1 rfl (by decide) hz (List.pairwise_singleton _ _) rfl .u .u .u
      refine ⟨s,p1,p2,?_⟩
      rw [call_fun (hE _ _ _ (by decide)) (f:=a185) rfl rfl]
      obtain ⟨n,hn'⟩:∃ n,(x :: r).length = n:=⟨_,rfl⟩
      obtain ⟨L,hL⟩:∃ L,x :: r = L:=⟨_,rfl⟩
      unfold sortSt at p3
      rw [List.singleton_append] at p3
      rw [hn'] at p3 ⊢
      rw [hL] at p3 ⊢
      have p3:run E GP a185l0 { vars:=[.sl 0 n 2 0 n,.int .i64 0,.int .i64 (n:Nat),.fn 170 [],.int .i64 1,.u,.u,.u],heap:=[.arr n 2 (L.map Z)],rs:=false } = some (.exit 0,{ vars:=[.sl 0 n 2 0 n,.int .i64 0,.int .i64 (n:Nat),.fn 170 [],.int .i64 (n:Nat),j,.bool false,b],heap:=[.arr n 2 (s.map Z)],rs:=false }):=p3
      simp (maxSteps:=1000000) (disch:=first | omega | decide) only [si,sf,simprocAttr,a185,a185R,p3]
  obtain ⟨s,p1,p2,p3⟩:=key
  refine ⟨s,p1,p2,?_⟩
  obtain ⟨n,hn'⟩:∃ n,L.length = n:=⟨_,rfl⟩
  rw [hn'] at p3 hn ⊢
  obtain ⟨k,hk⟩:∃ k,∀ H,call E GP 84 [.int .u64 (n:Int)] H = some (.int .i64 k,H,false):=by
    exact b_len hE n (by omega)
  have hw:IntKind.u64.wrap (n:Int) = n:=by show (n:Int) % 18446744073709551616 = n; omega
  have hi:IntKind.i64.wrap ((n:Int) - 0) = n:=by rw [Int.sub_zero]; exact i64w (by omega)
  have h12:(n:Int) ≤ 12:=by omega
  have h177:call E GP 177 [.sl 0 n 2 0 n,.int .i64 0,.int .i64 (n:Int),.int .i64 k,.fn 170 []] [.arr n 2 (L.map Z)] = some (.tup [],[.arr n 2 (s.map Z)],false):=by
    have hl:run E GP a177l0 { vars:=[.sl 0 n 2 0 n,.int .i64 0,.int .i64 (n:Nat),.int .i64 k,.fn 170 [],.bool true,.bool true,.u,.u,.u,.u,.u,.u,.u,.u,.u,.u,.u,.u,.u,.u,.u,.u,.u],heap:=[.arr n 2 (L.map Z)],rs:=false } = some (.ret,{ vars:=[.sl 0 n 2 0 n,.int .i64 0,.int .i64 (n:Nat),.int .i64 k,.fn 170 [],.bool true,.bool true,.int .i64 (n:Nat),.u,.u,.u,.u,.u,.u,.u,.u,.bool true,.u,.u,.u,.u,.u,.u,.u],heap:=[.arr n 2 (s.map Z)],rs:=false }):=by
      rw [a177l0_run]
      simp (maxSteps:=1000000) (disch:=first | omega | decide) only [si,sf,simprocAttr,a177b0,a177R,p3,hi,h12]
    rw [call_fun (hE _ _ _ (by decide)) (f:=a177) rfl rfl]
    simp (maxSteps:=1000000) (disch:=first | omega | decide) only [si,sf,simprocAttr,a177,a177R,hl]
  rw [call_fun (hE _ _ _ (by decide)) (f:=a171) rfl rfl]
  simp (maxSteps:=1000000) (disch:=first | omega | decide) only [si,sf,simprocAttr,a171,a171R,h177,hk,hw]
end Tor
namespace Tor
open Go
def tzTab:List Int:=[0,1,56,2,57,49,28,3,61,58,42,50,38,29,17,4,62,47,59,36,45,43,51,22,53,39,33,30,24,18,12,5,63,55,48,27,60,41,37,16,46,35,44,21,52,32,23,11,54,26,40,15,34,20,31,10,25,14,19,9,13,8,7,6]
def tzF (n:Nat):Nat:=if n = 0 then 64 else (tzTab.getD (((n &&& (18446744073709551616 - n)) * 285870213051353865 % 18446744073709551616) / 288230376151711744) 0).toNat
def powN (p:Nat):Nat → Nat → Nat → Nat → Nat
  | 0,out,_,_=>out
  | f + 1,out,a,e=>if e = 0 then out else powN p f (if e % 2 = 1 then out * a % p else out) (a * a % p) (e / 2)
def sqN (n:Nat):Nat → Nat → Bool
  | 0,_=>false
  | k + 1,x=>if x * x % n = n - 1 then true else sqN n k (x * x % n)
def strongF (n b:Nat):Bool :=
  if powN n 64 (1 % n) (b % n) ((n - 1) / 2 ^ tzF (n - 1)) = 1 ∨ powN n 64 (1 % n) (b % n) ((n - 1) / 2 ^ tzF (n - 1)) = n - 1 then true
  else sqN n (tzF (n - 1) - 1) (powN n 64 (1 % n) (b % n) ((n - 1) / 2 ^ tzF (n - 1)))
def basesF (n:Nat):List Nat → Bool
  | []=>true
  | b :: r=>if n = b then true else if n % b = 0 then false else if strongF n b then basesF n r else false
def primeF (n:Nat):Bool:=decide (2 ≤ n) && decide (n < 2147483648) && basesF n [2,3,5,7]
def uA (n:Nat):AV:=.int .u64 (n:Int)
structure FreeT (E:CallF):Prop where
  tz:∀ (n:Nat) H,n < 18446744073709551616 → E 207 [.int .u64 (n:Int)] H = some (.int .i64 (tzF n:Nat),H,false)
  no:∀ g,g ∈ [202,206,208,209] → ∀ a H,E g a H = none
theorem i64w' {n:Int} (h:-9223372036854775808 ≤ n ∧ n < 9223372036854775808):IntKind.i64.wrap n = n:=by
  unfold IntKind.wrap
  simp only [IntKind.signed,IntKind.bits]
  simp
  omega
theorem u64w {n:Int} (h:0 ≤ n ∧ n < 18446744073709551616):IntKind.u64.wrap n = n:=by
  show n % 18446744073709551616 = n
  omega
section
variable {E:CallF} (hE:FreeT E)
include hE
theorem m_mul (p a b:Nat) (hp:0 < p) (h:a * b < 18446744073709551616) (H:Heap):call E GP 209 [.int .u64 (p:Int),.int .u64 (a:Int),.int .u64 (b:Int)] H = some (.int .u64 ((a * b % p:Nat):Int),H,false):=by
  rw [call_fun (hE.no _ (by decide) _ _) (f:=a209) rfl rfl]
  have w:IntKind.u64.wrap ((a:Int) * (b:Int)) = ((a * b:Nat):Int):=by rw [← Int.natCast_mul]; exact u64w (by omega)
  have r:((a * b:Nat):Int).tmod (p:Int) = ((a * b % p:Nat):Int):=by rw [Int.tmod_eq_emod_of_nonneg (by omega)]; omega
  have h0:¬ (p:Int) = 0:=by omega
  simp (maxSteps:=1000000) only [si,simprocAttr,a209,a209R,w,r,h0]
def pwst (p:Nat) (a e out:Nat) (b5 b6:AV):St:={ vars:=[.int .u64 (p:Int),.int .u64 (a:Int),.int .u64 (e:Int),.int .u64 0,.int .u64 (out:Int),b5,b6],heap:=[],rs:=false }
omit hE in
theorem band1 (e:Nat):IntKind.u64.wrap (((BitVec.ofInt IntKind.u64.bits (e:Int) &&& BitVec.ofInt IntKind.u64.bits 1).toNat:Nat):Int) = ((e % 2:Nat):Int):=by
  have h:(BitVec.ofInt IntKind.u64.bits (e:Int) &&& BitVec.ofInt IntKind.u64.bits 1).toNat = e % 2:=by
    show (BitVec.ofInt 64 (e:Int) &&& BitVec.ofInt 64 1).toNat = e % 2
    rw [BitVec.toNat_and,BitVec.toNat_ofInt,BitVec.toNat_ofInt]
    have:((1:Int) % ((2 ^ 64:Nat):Int)).toNat = 1:=rfl
    rw [this,Nat.and_one_is_mod]
    omega
  rw [h]
  exact u64w (by omega)
theorem m_pow_loop (p:Nat) (hp:0 < p) (hp2:p ≤ 2147483648):∀ (f a e out:Nat),a < p → out < p → e < 2 ^ f → ∃ a',run E GP a208l0 (pwst p a e out .u .u) = some (.exit 0,pwst p a' 0 (powN p f out a e) (.bool false) .u):=by
  have hend:∀ a out,run E GP a208l0 (pwst p a 0 out .u .u) = some (.exit 0,pwst p a 0 out (.bool false) .u):=by
    intro a out
    have k:¬ (0:Int) > 0:=by decide
    unfold pwst
    rw [a208l0_run]
    simp (maxSteps:=1000000) only [si,simprocAttr,a208b0,a208R]
  intro f
  induction f with
  | zero =>
    intro a e out ha ho he
    have:e = 0:=by simpa using he
    subst this
    exact ⟨a,hend a out⟩
  | succ f ih =>
    intro a e out ha ho he
    by_cases h0:e = 0
    · subst h0
      exact ⟨a,by rw [powN,if_pos rfl]; exact hend a out⟩
    · rw [powN,if_neg h0]
      have hm:∀ x y:Nat,x < p → y < p → x * y < 18446744073709551616:=fun x y hx hy=>by
        have:=Nat.mul_le_mul (Nat.le_of_lt hx) (Nat.le_of_lt hy)
        have:=Nat.mul_le_mul hp2 hp2
        omega
      have m1:=fun H=>m_mul hE p a a hp (hm a a ha ha) H
      have he2:e / 2 < 2 ^ f:=by rw [Nat.pow_succ] at he; omega
      have k0:(e:Int) > 0:=by omega
      have hb:=band1 e
      have hs:(e:Int).fdiv (2 ^ (Nat.min 1 IntKind.u64.bits)) = ((e / 2:Nat):Int):=by
        show (e:Int).fdiv 2 = _
        rw [Int.fdiv_eq_ediv_of_nonneg _ (by decide)]; omega
      by_cases h1:e % 2 = 1
      · rw [if_pos h1]
        rw [h1] at hb
        have m2:=fun H=>m_mul hE p out a hp (hm out a ho ha) H
        obtain ⟨a',hr⟩:=ih (a * a % p) (e / 2) (out * a % p) (Nat.mod_lt _ hp) (Nat.mod_lt _ hp) he2
        refine ⟨a',?_⟩
        rw [← hr]
        unfold pwst
        conv=>lhs; rw [a208l0_run]
        simp (maxSteps:=1000000) only [si,simprocAttr,a208b0,a208R,k0,hb,hs,m1,m2]
      · rw [if_neg h1]
        have h1':e % 2 = 0:=by omega
        rw [h1'] at hb
        obtain ⟨a',hr⟩:=ih (a * a % p) (e / 2) out (Nat.mod_lt _ hp) ho he2
        refine ⟨a',?_⟩
        rw [← hr]
        unfold pwst
        conv=>lhs; rw [a208l0_run]
        simp (maxSteps:=1000000) only [si,simprocAttr,a208b0,a208R,k0,hb,hs,m1]
theorem m_pow (p a e:Nat) (hp:0 < p) (hp2:p ≤ 2147483648) (ha:a < p) (he:e < 18446744073709551616) (H:Heap) :
    call E GP 208 [.int .u64 (p:Int),.int .u64 (a:Int),.int .u64 (e:Int)] H = some (.int .u64 ((powN p 64 (1 % p) a e:Nat):Int),H,false):=by
  rw [call_fun (hE.no _ (by decide) _ _) (f:=a208) rfl rfl]
  obtain ⟨a',hr⟩:=m_pow_loop hE p hp hp2 64 a e (1 % p) ha (Nat.mod_lt _ hp) he
  have r:(1:Int).tmod (p:Int) = ((1 % p:Nat):Int):=rfl
  have h0:¬ (p:Int) = 0:=by omega
  unfold pwst at hr
  simp (maxSteps:=1000000) only [si,simprocAttr,a208,a208R,r,h0,hr]
omit hE in
theorem powN_lt (p:Nat) (hp:0 < p):∀ f out a e,out < p → powN p f out a e < p
  | 0,out,_,_,h=>h
  | f + 1,out,a,e,h=>by
    unfold powN
    split
    · exact h
    · refine powN_lt p hp f _ _ _ ?_
      split
      · exact Nat.mod_lt _ hp
      · exact h
omit hE in
theorem tzF_le (n:Nat):tzF n ≤ 64:=by
  unfold tzF
  split
  · exact Nat.le_refl _
  · have h:∀ x ∈ tzTab,x.toNat ≤ 64:=by decide
    rw [List.getD_eq_getElem?_getD]
    cases hx:tzTab[((n &&& (18446744073709551616 - n)) * 285870213051353865 % 18446744073709551616) / 288230376151711744]? with
    | none=>simp
    | some y=>exact h y (List.mem_of_getElem? hx)
theorem m_sq_loop (n b:Nat) (hn:0 < n) (hn2:n ≤ 2147483648) (k:Nat) (hk:k < 1000):∀ (t j x:Nat),k = j + t → x < n →
    (sqN n t x = true → ∃ L,run E GP a206l0 { vars:=[.int .u64 (n:Int),.int .u64 (b:Int),.bool false,.int .i64 ((k + 1:Nat):Int),.int .u64 (x:Int),.bool false,.int .i64 (k:Int),.int .i64 (j:Int),.u,.u],heap:=[],rs:=false } = some (.ret,{ vars:=.int .u64 (n:Int) :: .int .u64 (b:Int) :: .bool true :: L,heap:=[],rs:=false })) ∧
    (sqN n t x = false → ∃ L,run E GP a206l0 { vars:=[.int .u64 (n:Int),.int .u64 (b:Int),.bool false,.int .i64 ((k + 1:Nat):Int),.int .u64 (x:Int),.bool false,.int .i64 (k:Int),.int .i64 (j:Int),.u,.u],heap:=[],rs:=false } = some (.exit 0,{ vars:=.int .u64 (n:Int) :: .int .u64 (b:Int) :: .bool false :: L,heap:=[],rs:=false })):=by
  intro t
  induction t with
  | zero =>
    intro j x hj hx
    have hjk:j = k:=by omega
    subst hjk
    refine ⟨fun h=>by simp [sqN] at h,fun _=>⟨[.int .i64 ((j + 1:Nat):Int),.int .u64 (x:Int),.bool false,.int .i64 (j:Int),.int .i64 (j:Int),.bool false,.u],?_⟩⟩
    have k0:¬ (j:Int) < (j:Int):=by omega
    rw [a206l0_run]
    simp (maxSteps:=1000000) only [si,simprocAttr,a206b0,a206R,k0]
  | succ t ih =>
    intro j x hj hx
    have k0:(j:Int) < (k:Int):=by omega
    have hm:x * x < 18446744073709551616:=by
      have:=Nat.mul_le_mul (Nat.le_of_lt hx) (Nat.le_of_lt hx)
      have:=Nat.mul_le_mul hn2 hn2
      omega
    have m1:=fun H=>m_mul hE n x x hn hm H
    have w1:IntKind.u64.wrap ((n:Int) - 1) = ((n - 1:Nat):Int):=by rw [u64w (by omega)]; omega
    have w2:IntKind.i64.wrap ((j:Int) + 1) = ((j + 1:Nat):Int):=by rw [show (j:Int) + 1 = ((j + 1:Nat):Int) by omega]; exact i64w' (by omega)
    simp only [sqN]
    by_cases hc:x * x % n = n - 1
    · rw [if_pos hc]
      have kc:((x * x % n:Nat):Int) = ((n - 1:Nat):Int):=by rw [hc]
      refine ⟨fun _=>⟨[.int .i64 ((k + 1:Nat):Int),.int .u64 ((x * x % n:Nat):Int),.bool false,.int .i64 (k:Int),.int .i64 (j:Int),.bool true,.bool true],?_⟩,fun h=>by cases h⟩
      rw [a206l0_run]
      rw [hc] at m1 ⊢
      simp (maxSteps:=1000000) only [si,simprocAttr,a206b0,a206R,k0,m1,w1,w2]
    · rw [if_neg hc]
      have kc:¬ ((x * x % n:Nat):Int) = ((n - 1:Nat):Int):=by omega
      obtain ⟨i1,i2⟩:=ih (j + 1) (x * x % n) (by omega) (Nat.mod_lt _ hn)
      have hstep:run E GP a206l0 { vars:=[.int .u64 (n:Int),.int .u64 (b:Int),.bool false,.int .i64 ((k + 1:Nat):Int),.int .u64 (x:Int),.bool false,.int .i64 (k:Int),.int .i64 (j:Int),.u,.u],heap:=[],rs:=false } =
          run E GP a206l0 { vars:=[.int .u64 (n:Int),.int .u64 (b:Int),.bool false,.int .i64 ((k + 1:Nat):Int),.int .u64 ((x * x % n:Nat):Int),.bool false,.int .i64 (k:Int),.int .i64 ((j + 1:Nat):Int),.u,.u],heap:=[],rs:=false }:=by
        conv=>lhs; rw [a206l0_run]
        generalize x * x % n = y at *
        simp (maxSteps:=1000000) only [si,simprocAttr,a206b0,a206R,k0,m1,w1,w2,kc]
      rw [hstep]
      exact ⟨i1,i2⟩
theorem m_strong (n b:Nat) (hn:2 ≤ n) (hn2:n ≤ 2147483648) (hb:b < 18446744073709551616) (H:Heap):call E GP 206 [.int .u64 (n:Int),.int .u64 (b:Int)] H = some (.bool (strongF n b),H,false):=by
  rw [call_fun (hE.no _ (by decide) _ _) (f:=a206) rfl rfl]
  have w1:IntKind.u64.wrap ((n:Int) - 1) = ((n - 1:Nat):Int):=by rw [u64w (by omega)]; omega
  have m1:=fun H=>call_ext (GP:=GP) (hE.tz (n - 1) H (by omega))
  have hk:=tzF_le (n - 1)
  have r:(b:Int).tmod (n:Int) = ((b % n:Nat):Int):=rfl
  have h0:¬ (n:Int) = 0:=by omega
  have hs:∀ k:Nat,k ≤ 64 → ((n - 1:Nat):Int).fdiv (2 ^ (Nat.min k IntKind.u64.bits)) = (((n - 1) / 2 ^ k:Nat):Int):=fun k hk=>by
    have:Nat.min k IntKind.u64.bits = k:=Nat.min_eq_left hk
    rw [this,Int.fdiv_eq_ediv_of_nonneg _ (by exact Int.le_of_lt (Int.pow_pos (by decide)))]
    rw [Int.natCast_ediv,Int.natCast_pow]; rfl
  have m2:=fun k H=>m_pow hE n (b % n) ((n - 1) / 2 ^ k) (by omega) hn2 (Nat.mod_lt _ (by omega)) (Nat.lt_of_le_of_lt (Nat.div_le_self _ _) (by omega)) H
  unfold strongF
  generalize tzF (n - 1) = k at *
  have hs:=hs k hk
  have m2:=m2 k
  have kn:¬ (k:Int) < 0:=by omega
  have hx:powN n 64 (1 % n) (b % n) ((n - 1) / 2 ^ k) < n:=powN_lt n (by omega) 64 _ _ _ (Nat.mod_lt _ (by omega))
  generalize powN n 64 (1 % n) (b % n) ((n - 1) / 2 ^ k) = x at *
  by_cases c1:x = 1
  · rw [if_pos (.inl c1)]
    subst c1
    simp (maxSteps:=1000000) only [si,simprocAttr,a206,a206R,w1,m1,r,h0,hs,m2,kn,Int.toNat_natCast,Int.natCast_one]
  · have c1':¬ (x:Int) = 1:=by omega
    by_cases c2:x = n - 1
    · rw [if_pos (.inr c2)]
      rw [c2] at m2 c1'
      simp (maxSteps:=1000000) only [si,simprocAttr,a206,a206R,w1,m1,r,h0,hs,m2,kn,Int.toNat_natCast,c1']
    · have c2':¬ (x:Int) = ((n - 1:Nat):Int):=by omega
      rw [if_neg (fun h=>h.elim c1 c2)]
      rcases k with _ | k
      · have w2:IntKind.i64.wrap (-1) = -1:=by decide
        have hl:run E GP a206l0 { vars:=[.int .u64 (n:Int),.int .u64 (b:Int),.bool false,.int .i64 0,.int .u64 (x:Int),.bool false,.int .i64 (-1),.int .i64 0,.u,.u],heap:=[],rs:=false } = some (.exit 0,{ vars:=[.int .u64 (n:Int),.int .u64 (b:Int),.bool false,.int .i64 0,.int .u64 (x:Int),.bool false,.int .i64 (-1),.int .i64 0,.bool false,.u],heap:=[],rs:=false }):=by
          rw [a206l0_run]
          simp (maxSteps:=1000000) only [si,simprocAttr,a206b0,a206R]
        simp only [Nat.zero_sub,sqN]
        simp (maxSteps:=1000000) only [si,simprocAttr,a206,a206R,w1,w2,m1,r,h0,hs,m2,kn,Int.toNat_natCast,c1',c2',hl]
      · have w2:IntKind.i64.wrap (((k + 1:Nat):Int) - 1) = (k:Int):=by rw [i64w' (by omega)]; omega
        obtain ⟨l1,l2⟩:=m_sq_loop hE n b (by omega) hn2 k (by omega) k 0 x (by omega) hx
        simp only [Nat.add_sub_cancel]
        cases hq:sqN n k x with
        | true =>
          obtain ⟨L,hl⟩:=l1 hq
          simp only [Int.ofNat_zero] at hl
          simp (maxSteps:=1000000) only [si,simprocAttr,a206,a206R,w1,w2,m1,r,h0,hs,m2,kn,Int.toNat_natCast,c1',c2',hl]
        | false =>
          obtain ⟨L,hl⟩:=l2 hq
          simp only [Int.ofNat_zero] at hl
          simp (maxSteps:=1000000) only [si,simprocAttr,a206,a206R,w1,w2,m1,r,h0,hs,m2,kn,Int.toNat_natCast,c1',c2',hl]
def bsst (n:Nat) (b2:AV) (i:Int):St:={ vars:=[.int .u64 (n:Int),.bool false,b2,.bool false,.agg [.int .u64 2,.int .u64 3,.int .u64 5,.int .u64 7],.int .i64 i,.u,.u,.u,.u],heap:=[],rs:=false }
def Ans (x:Option (Ex × St)) (n:Nat):Bool → Prop
  | false=>∃ L,x = some (.ret,{ vars:=.int .u64 (n:Int) :: .bool false :: L,heap:=[],rs:=false })
  | true=>(∃ L,x = some (.ret,{ vars:=.int .u64 (n:Int) :: .bool true :: L,heap:=[],rs:=false })) ∨ ∃ L,x = some (.exit 0,{ vars:=.int .u64 (n:Int) :: .bool false :: L,heap:=[],rs:=false })
theorem m_base (n b:Nat) (hn:2 ≤ n) (hn2:n ≤ 2147483648) (i:Int) (hb0:0 < b) (hb:b < 10)
    (hget:doX (.idx 4 1 false) (.agg [.int .u64 2,.int .u64 3,.int .u64 5,.int .u64 7]) (.int .i64 i) = some (.int .u64 (b:Int))) (hi:i < 4) (hi0:0 ≤ i) (r:List Nat) (ih:Ans (run E GP a202l0 (bsst n .u (i + 1))) n (basesF n r)) :
    Ans (run E GP a202l0 (bsst n .u i)) n (basesF n (b :: r)):=by
  have hs:=fun H=>m_strong hE n b hn hn2 (by omega) H
  have w2:IntKind.i64.wrap (i + 1) = i + 1:=i64w' (by omega)
  have rr:(n:Int).tmod (b:Int) = ((n % b:Nat):Int):=rfl
  have hb0':¬ (b:Int) = 0:=by omega
  simp only [basesF]
  by_cases c1:n = b
  · rw [if_pos c1]
    subst c1
    left
    unfold bsst
    rw [a202l0_run]
    simp (maxSteps:=1000000) only [si,simprocAttr,a202b0,a202R,hi,hget]
    exact ⟨_,rfl⟩
  · have c1':¬ (n:Int) = (b:Int):=by omega
    rw [if_neg c1]
    by_cases c2:n % b = 0
    · rw [if_pos c2]
      rw [c2] at rr
      unfold bsst
      rw [a202l0_run]
      simp (maxSteps:=1000000) only [si,simprocAttr,a202b0,a202R,hi,hget,c1',rr,hb0']
      exact ⟨_,rfl⟩
    · have c2':¬ ((n % b:Nat):Int) = 0:=by omega
      rw [if_neg c2]
      cases hc:strongF n b with
      | false =>
        rw [hc] at hs
        simp only [Bool.false_eq_true,if_false]
        unfold bsst
        rw [a202l0_run]
        simp (maxSteps:=1000000) only [si,simprocAttr,a202b0,a202R,hi,hget,c1',rr,c2',hs,hb0']
        exact ⟨_,rfl⟩
      | true =>
        rw [hc] at hs
        simp only [if_true]
        have hstep:run E GP a202l0 (bsst n .u i) = run E GP a202l0 (bsst n .u (i + 1)):=by
          unfold bsst
          conv=>lhs; rw [a202l0_run]
          simp (maxSteps:=1000000) only [si,simprocAttr,a202b0,a202R,hi,hget,c1',rr,c2',hs,w2,hb0']
        rw [hstep]
        exact ih
theorem m_prime (n:Nat) (H:Heap) (hn:n < 18446744073709551616):call E GP 202 [.int .u64 (n:Int)] H = some (.bool (primeF n),H,false):=by
  rw [call_fun (hE.no _ (by decide) _ _) (f:=a202) rfl rfl]
  unfold primeF
  by_cases c1:2 ≤ n
  · by_cases c2:n < 2147483648
    · rw [decide_eq_true c1,decide_eq_true c2,Bool.true_and,Bool.true_and]
      have k1:¬ (n:Int) < 2:=by omega
      have k2:¬ (n:Int) ≥ 2147483648:=by omega
      have h4:Ans (run E GP a202l0 (bsst n .u 4)) n (basesF n []):=by
        right
        unfold bsst
        rw [a202l0_run]
        simp (maxSteps:=1000000) only [si,simprocAttr,a202b0,a202R]
        exact ⟨_,rfl⟩
      have h3:=m_base hE n 7 c1 (by omega) 3 (by omega) (by omega) rfl (by omega) (by omega) [] h4
      have h2:=m_base hE n 5 c1 (by omega) 2 (by omega) (by omega) rfl (by omega) (by omega) [7] h3
      have h1:=m_base hE n 3 c1 (by omega) 1 (by omega) (by omega) rfl (by omega) (by omega) [5,7] h2
      have h0:=m_base hE n 2 c1 (by omega) 0 (by omega) (by omega) rfl (by omega) (by omega) [3,5,7] h1
      unfold bsst at h0
      cases hb:basesF n [2,3,5,7] with
      | false =>
        rw [hb] at h0
        obtain ⟨L,h0⟩:=h0
        simp (maxSteps:=1000000) only [si,simprocAttr,a202,a202R,k1,k2,h0]
      | true =>
        rw [hb] at h0
        rcases h0 with ⟨L,h0⟩ | ⟨L,h0⟩
        · simp (maxSteps:=1000000) only [si,simprocAttr,a202,a202R,k1,k2,h0]
        · simp (maxSteps:=1000000) only [si,simprocAttr,a202,a202R,k1,k2,h0]
    · rw [decide_eq_false c2,Bool.and_false,Bool.false_and]
      have k1:¬ (n:Int) < 2:=by omega
      have k2:(n:Int) ≥ 2147483648:=by omega
      simp (maxSteps:=1000000) only [si,simprocAttr,a202,a202R,k1,k2]
  · rw [decide_eq_false c1,Bool.false_and,Bool.false_and]
    have k1:(n:Int) < 2:=by omega
    simp (maxSteps:=1000000) only [si,simprocAttr,a202,a202R,k1]
end
end Tor
namespace Tor
open Go
def shortL (d:Nat):List Nat → List Nat × Nat
  | []=>([],0)
  | x :: r=>(((shortL d r).2 * B32 + x) / d :: (shortL d r).1,((shortL d r).2 * B32 + x) % d)
theorem shortL_ok (d:Nat) (hd:0 < d) (hd2:d < B32):∀ l:List Nat,(∀ x ∈ l,x < B32) → val (shortL d l).1 = val l / d ∧ (shortL d l).2 = val l % d ∧ (∀ q ∈ (shortL d l).1,q < B32) ∧ (shortL d l).1.length = l.length
  | [],_=>by simp [shortL,val]
  | x :: r,h=>by
    obtain ⟨a1,a2,a3,a4⟩:=shortL_ok d hd hd2 r fun y hy=>h y (.tail _ hy)
    have hx:=h x (.head _)
    have hs:(shortL d r).2 < d:=by rw [a2]; exact Nat.mod_lt _ hd
    have e:val r = d * (val r / d) + val r % d:=(Nat.div_add_mod _ _).symm
    have e2:x + B32 * val r = ((shortL d r).2 * B32 + x) + d * (B32 * (val r / d)):=by
      rw [a2]
      have h1:B32 * val r = B32 * (d * (val r / d)) + B32 * (val r % d):=by rw [← Nat.mul_add,← e]
      rw [h1,Nat.mul_comm (val r % d) B32,← Nat.mul_assoc B32 d,Nat.mul_comm B32 d,Nat.mul_assoc]
      omega
    refine ⟨?_,?_,?_,by simp [shortL,a4]⟩
    · simp only [shortL,val]
      rw [e2,Nat.add_mul_div_left _ _ hd,a1]
    · simp only [shortL,val]
      rw [e2,Nat.add_mul_mod_self_left]
    · intro q hq
      simp only [shortL] at hq
      cases hq with
      | head =>
        refine (Nat.div_lt_iff_lt_mul hd).2 ?_
        have:((shortL d r).2 + 1) * B32 ≤ d * B32:=Nat.mul_le_mul_right _ hs
        rw [Nat.mul_comm B32 d]
        rw [Nat.succ_mul] at this
        omega
      | tail _ hq=>exact a3 q hq
theorem or64 (s x:Nat) (hs:s < B32) (hx:x < B32):binInt .or .u64 ((s * B32:Nat):Int) (x:Int) = some (.int .u64 ((s * B32 + x:Nat):Int)):=by
  unfold B32 at *
  show some (AV.int .u64 (IntKind.u64.wrap ((BitVec.ofInt 64 ((s * 4294967296:Nat):Int) ||| BitVec.ofInt 64 (x:Int)).toNat:Nat))) = _
  have h1:(BitVec.ofInt 64 ((s * 4294967296:Nat):Int)).toNat = s * 4294967296:=by
    rw [BitVec.toNat_ofInt,← Int.natCast_emod,Int.toNat_natCast]; exact Nat.mod_eq_of_lt (by omega)
  have h2:(BitVec.ofInt 64 (x:Int)).toNat = x:=by
    rw [BitVec.toNat_ofInt,← Int.natCast_emod,Int.toNat_natCast]; exact Nat.mod_eq_of_lt (by omega)
  rw [BitVec.toNat_or,h1,h2]
  have h3:s * 4294967296 ||| x = s * 4294967296 + x:=by
    have:=Nat.shiftLeft_add_eq_or_of_lt (i:=32) (b:=x) (by simpa using hx) s
    rw [Nat.shiftLeft_eq] at this
    exact this.symm
  rw [h3]; exact congrArg (fun n=>some (AV.int .u64 n)) (by show ((s * 4294967296 + x:Nat):Int) % 18446744073709551616 = _; omega)
variable {E:CallF} (hE:Free E)
include hE
def shT (ns:List Nat) (d k:Nat) (b7:AV):St:={ vars:=[.isl (ns.map limbA),.int .u32 (d:Nat),.isl [],.int .u32 0,.sl 0 0 1 0 ns.length,.int .u64 ((shortL d (ns.drop k)).2:Nat),.int .i64 ((k:Int) - 1),b7],heap:=[.arr 0 1 ((List.replicate k 0 ++ (shortL d (ns.drop k)).1).map limbA)],rs:=false }
theorem short_step (ns:List Nat) (d:Nat) (hd:0 < d) (hd2:d < B32) (hns:∀ x ∈ ns,x < B32) (hn:ns.length < 2147483648) (k:Nat) (hk:k < ns.length):run E GP a195l0 (shT ns d (k + 1) .u) = run E GP a195l0 (shT ns d k .u):=by
  obtain ⟨q1,q2,q3,q4⟩:=shortL_ok d hd hd2 (ns.drop (k + 1)) fun x hx=>hns x (List.mem_of_mem_drop hx)
  obtain ⟨r1,r2,r3,r4⟩:=shortL_ok d hd hd2 (ns.drop k) fun x hx=>hns x (List.mem_of_mem_drop hx)
  have hdk:ns.drop k = ns[k] :: ns.drop (k + 1):=List.drop_eq_getElem_cons hk
  have hx:=hns _ (List.getElem_mem hk)
  obtain ⟨n,hnn⟩:∃ n,ns.length = n:=⟨_,rfl⟩
  obtain ⟨s,hs⟩:∃ s,(shortL d (ns.drop (k + 1))).2 = s:=⟨_,rfl⟩
  obtain ⟨x,hx'⟩:∃ x,ns[k] = x:=⟨_,rfl⟩
  obtain ⟨Q,hQ⟩:∃ Q,(shortL d (ns.drop (k + 1))).1 = Q:=⟨_,rfl⟩
  have hsd:s < d:=by rw [← hs,q2]; exact Nat.mod_lt _ hd
  have e1:(shortL d (ns.drop k)).2 = (s * B32 + x) % d:=by rw [hdk]; simp only [shortL,hs,hx']
  have e2:(shortL d (ns.drop k)).1 = (s * B32 + x) / d :: Q:=by rw [hdk]; simp only [shortL,hs,hx',hQ]
  rw [hx'] at hx
  have hq:(s * B32 + x) / d < B32:=r3 _ (by rw [e2]; exact .head _)
  obtain ⟨R,hR⟩:∃ R,s * B32 + x = R:=⟨_,rfl⟩
  have hRl:R < 18446744073709551616:=by rw [← hR]; unfold B32 at *; omega
  rw [hR] at e1 e2 hq
  have h0:(k:Int) ≥ 0:=by omega
  have hsh:IntKind.u64.wrap ((s:Int) * 2 ^ Nat.min 32 IntKind.u64.bits) = ((s * B32:Nat):Int):=by
    show ((s:Int) * 4294967296) % 18446744073709551616 = ((s * 4294967296:Nat):Int)
    unfold B32 at hd2
    omega
  have hm:(ns.map limbA)[k]? = some (.int .u32 (x:Int)):=by rw [List.getElem?_map,List.getElem?_eq_getElem hk,hx']; rfl
  have hc:IntKind.u64.wrap (x:Int) = x:=u64w (by unfold B32 at hx; omega)
  have hcd:IntKind.u64.wrap (d:Int) = d:=u64w (by unfold B32 at hd2; omega)
  have ho:=or64 s x (by omega) hx
  rw [hR] at ho
  have hd0:¬ (d:Int) = 0:=by omega
  have hqq:IntKind.u64.wrap ((R:Int).tdiv d) = ((R / d:Nat):Int):=by
    rw [Int.tdiv_eq_ediv_of_nonneg (by omega)]
    have h2:=Nat.div_le_self R d
    show IntKind.u64.wrap ((R / d:Nat):Int) = _
    generalize R / d = q at h2 ⊢
    exact u64w (by omega)
  have hq3:IntKind.u32.wrap ((R / d:Nat):Int) = ((R / d:Nat):Int):=by
    generalize R / d = q at hq
    show (q:Int) % 4294967296 = _
    unfold B32 at hq; omega
  have hr:(R:Int).tmod d = ((R % d:Nat):Int):=by rw [Int.tmod_eq_emod_of_nonneg (by omega)]; rfl
  obtain ⟨L,hL⟩:∃ L,(List.replicate (k + 1) 0 ++ Q) = L:=⟨_,rfl⟩
  have hm2:(L.map limbA)[k]? = some (.int .u32 0):=by
    rw [List.getElem?_map,← hL,List.getElem?_append_left (by simp),List.getElem?_replicate,if_pos (by omega)]; rfl
  have hset:(L.map limbA).set k (.int .u32 ((R / d:Nat):Int)) = (List.replicate k 0 ++ (R / d) :: Q).map limbA:=by
    rw [← show limbA (R / d) = AV.int .u32 ((R / d:Nat):Int) from rfl,← List.map_set,← hL,List.replicate_succ',List.append_assoc]
    congr 1
    rw [List.set_append_right _ _ (by simp)]
    simp
  have ws:IntKind.i64.wrap ((k:Int) - 1) = (k:Int) - 1:=i64w (by omega)
  have hkn:k < n:=by omega
  unfold shT
  rw [e1,e2,hs,hQ,hL,hnn]
  rw [show (((k + 1:Nat):Int) - 1) = (k:Int) by omega]
  obtain ⟨m,hmm⟩:∃ m,ns.map limbA = m:=⟨_,rfl⟩
  have hml:m.length = n:=by rw [← hmm]; simpa using hnn
  obtain ⟨M,hMM⟩:∃ M,L.map limbA = M:=⟨_,rfl⟩
  rw [hmm] at hm ⊢
  rw [hMM] at hm2 hset ⊢
  conv=>lhs; rw [a195l0_run]
  simp (maxSteps:=1000000) (disch:=first | omega | decide) only [si,sf,simprocAttr,a195b0,a195R,h0,hsh,hm,hc,hcd,ho,hd0,hqq,hq3,hr,hm2,hset,ws,hkn,hml]
theorem i_short (ns:List Nat) (d:Nat) (hd:0 < d) (hd2:d < B32) (hns:∀ x ∈ ns,x < B32) (hn:ns.length < 16777216) (H:Heap) :
    call E GP 195 [.isl (ns.map limbA),.int .u32 (d:Nat)] H = some (.tup [.isl ((shortL d ns).1.map limbA),.int .u32 ((shortL d ns).2:Nat)],H,false):=by
  obtain ⟨q1,q2,q3,q4⟩:=shortL_ok d hd hd2 ns hns
  have hst:∀ i,i < ns.length → run E GP a195l0 (shT ns d (ns.length - i) .u) = run E GP a195l0 (shT ns d (ns.length - (i + 1)) .u):=fun i hi=>by
    have:=short_step hE ns d hd hd2 hns (by omega) (ns.length - (i + 1)) (by omega)
    rw [show ns.length - (i + 1) + 1 = ns.length - i by omega] at this
    exact this
  have hlp:=loop_ind (fun i=>shT ns d (ns.length - i) .u) _ ns.length hst rfl
  simp only [Nat.sub_self,Nat.sub_zero] at hlp
  have he:run E GP a195l0 (shT ns d 0 .u) = some (.exit 0,shT ns d 0 (.bool false)):=by
    unfold shT
    have h1:¬ ((-1:Int) ≥ 0):=by decide
    have e:((0:Nat):Int) - 1 = -1:=rfl
    rw [e,a195l0_run]
    simp (maxSteps:=1000000) (disch:=first | omega | decide) only [si,sf,simprocAttr,a195b0,a195R,h1]
  rw [he] at hlp
  unfold shT at hlp
  rw [List.drop_length,List.drop_zero] at hlp
  have hr:(shortL d ns).2 < B32:=by rw [q2]; exact Nat.lt_trans (Nat.mod_lt _ hd) hd2
  obtain ⟨Q,hQ⟩:∃ Q,(shortL d ns).1 = Q:=⟨_,rfl⟩
  obtain ⟨r,hr'⟩:∃ r,(shortL d ns).2 = r:=⟨_,rfl⟩
  obtain ⟨n,hnn⟩:∃ n,ns.length = n:=⟨_,rfl⟩
  have e0:((List.replicate n 0 ++ (shortL d []).1).map limbA) = List.replicate n (.int .u32 0):=by simp [shortL,limbA]
  have e1:((List.replicate 0 0 ++ Q).map limbA) = Q.map limbA:=by simp
  have e2:((shortL d []).2:Int) = 0:=rfl
  rw [hQ,hr',hnn,e0,e1,e2] at hlp
  rw [hQ,hr']
  rw [hr'] at hr
  rw [hQ] at q4
  rw [hnn] at q4 hn
  have ws:IntKind.i64.wrap ((n:Int) - 1) = (n:Int) - 1:=i64w (by omega)
  have wr:IntKind.u32.wrap (r:Int) = r:=by show (r:Int) % 4294967296 = r; unfold B32 at hr; omega
  obtain ⟨m,hmm⟩:∃ m,ns.map limbA = m:=⟨_,rfl⟩
  have hml:m.length = n:=by rw [← hmm]; simpa using hnn
  rw [hmm] at hlp ⊢
  have href:AV.hasRefs m = false:=by rw [← hmm]; exact refs_limbs _
  have hz:((0:Nat):Int) - 1 = -1:=rfl
  have hn0:(n:Int) ≥ 0:=by omega
  have hmx:(n:Int) ≤ (maxLenA:Int):=by unfold maxLenA; omega
  have ht:(Q.map limbA).take n = Q.map limbA:=List.take_of_length_le (by rw [List.length_map,q4]; exact Nat.le_refl _)
  have hf:=fun H=>fz_limbs 0 H 5 Q
  rw [call_fun (hE _ _ _ (by decide)) (f:=a195) rfl rfl]
  simp (maxSteps:=1000000) (disch:=first | omega | decide) only [si,sf,simprocAttr,a195,a195R,hlp,ws,wr,hml,href,hn0,hmx,q4,hn,ht,hf,refs_limbs,solids_limbs]
theorem i_clone (l:List Nat) (h0:l ≠ []) (hl:l.length < 16777216) (H:Heap):call E GP 194 [.isl (l.map limbA)] H = some (.isl (l.map limbA),H,false):=by
  obtain ⟨x,r,rfl⟩:∃ x r,l = x :: r:=by
    cases l with
    | nil=>exact absurd rfl h0
    | cons x r=>exact ⟨x,r,rfl⟩
  obtain ⟨n,hnn⟩:∃ n,(x :: r).length = n:=⟨_,rfl⟩
  have hf:=fun H=>fz_limbs 0 H 6 (x :: r)
  have hr:=refs_limbs (x :: r)
  have hs:=solids_limbs (x :: r)
  have hh:=headSize_limbs (x :: r)
  obtain ⟨X,hX⟩:∃ X,limbA x = X:=⟨_,rfl⟩
  obtain ⟨R,hR⟩:∃ R,r.map limbA = R:=⟨_,rfl⟩
  have hl2:(X :: R).length = n:=by rw [← hX,← hR,← List.map_cons,List.length_map]; exact hnn
  have ht:(X :: R).take n = X :: R:=List.take_of_length_le (by omega)
  have hmx:n ≤ maxLenA:=by unfold maxLenA; omega
  simp only [List.map_cons,hX,hR] at hf hr hs hh ⊢
  have hf':∀ H,fz 0 H 7 X :: List.map (fz 0 H 7) R = X :: R:=hf
  have hl2':R.length + 1 = n:=hl2
  rw [call_fun (hE _ _ _ (by decide)) (f:=a194) rfl rfl]
  simp (maxSteps:=1000000) (disch:=first | omega | decide) only [si,sf,simprocAttr,a194,a194R,hf,hf',hr,hs,hh,hl2,hl2',ht,hmx]
theorem i_divide (a b:Nat) (ha0:0 < a) (hb:0 < b) (hb2:b < B32) (ha:Sz a) (H:Heap):∃ q r:List Nat,val q = a / b ∧ val r = a % b ∧ (∀ x ∈ q,x < B32) ∧ (∀ x ∈ r,x < B32) ∧ q.length ≤ 8 ∧ r.length ≤ 8 ∧
    ∀ H,call E GP 182 [.isl ((limbs a).map limbA),.isl ((limbs b).map limbA)] H = some (.tup [.isl (q.map limbA),.isl (r.map limbA)],H,false):=by
  have hla:(limbs a).length ≤ 8:=by have:=ha.len; rwa [Int.natAbs_natCast] at this
  have hlb:(limbs b).length ≤ 1:=limbs_len_lt (by simpa using hb2)
  have hlb1:limbs b = [b]:=by
    rw [limbs_pos hb,Nat.mod_eq_of_lt hb2,Nat.div_eq_of_lt hb2]; rfl
  have hc:=fun H=>i_compare hE a b H (by omega) (by omega)
  by_cases h:a < b
  · have h1:cmp3 a b < 0:=by unfold cmp3; rw [if_pos (by omega)]; decide
    refine ⟨[],limbs a,by rw [Nat.div_eq_of_lt h]; rfl,by rw [val_limbs,Nat.mod_eq_of_lt h],(fun x hx=>by cases hx),limbs_lt a,by simp,hla,fun H=>?_⟩
    have hk:=fun H=>i_clone hE (limbs a) (fun e=>by rw [limbs_nil] at e; omega) (by omega) H
    rw [call_fun (hE _ _ _ (by decide)) (f:=a182) rfl rfl]
    simp (maxSteps:=1000000) (disch:=first | omega | decide) only [si,sf,simprocAttr,a182,a182R,hc,h1,hk,refs_limbs,solids_limbs]
  · have h1:¬ cmp3 a b < 0:=by unfold cmp3; rw [if_neg (by omega)]; split <;> decide
    obtain ⟨q1,q2,q3,q4⟩:=shortL_ok b hb hb2 (limbs a) (limbs_lt a)
    refine ⟨(shortL b (limbs a)).1,[(shortL b (limbs a)).2],by rw [q1,val_limbs],by simp only [val]; rw [q2,val_limbs]; simp,q3,(fun x hx=>by simp at hx; subst hx; rw [q2]; exact Nat.lt_trans (Nat.mod_lt _ hb) hb2),by omega,by simp,fun H=>?_⟩
    have hs:=fun H=>i_short hE (limbs a) b hb hb2 (limbs_lt a) (by omega) H
    rw [hlb1] at hc ⊢
    simp only [List.map_cons,List.map_nil,limbA] at hc
    rw [call_fun (hE _ _ _ (by decide)) (f:=a182) rfl rfl]
    have h11:(1:Int) = 1:=rfl
    have ef:[limbA (shortL b (limbs a)).2] = [.int .u32 ((shortL b (limbs a)).2:Nat)]:=rfl
    simp only [List.map_cons,List.map_nil,ef]
    simp (maxSteps:=1000000) (disch:=first | omega | decide) only [si,sf,simprocAttr,a182,a182R,hc,h1,hs,limbA,refs_limbs,solids_limbs]
end Tor
namespace Tor
open Go
variable {E:CallF} (hE:Free E)
include hE
theorem i_divmod (a b:Nat) (ha0:0 < a) (hb:0 < b) (hb2:b < B32) (ha:Sz a) (H:Heap):call E GP 175 [Z a,Z b] H = some (.tup [Z ((a / b:Nat):Int),Z ((a % b:Nat):Int),.int .i64 0],H,false):=by
  obtain ⟨q,r,h1,h2,h3,h4,h5,h6,h7⟩:=i_divide hE a b ha0 hb hb2 ha []
  have n1:=fun H=>i_norm_isl hE q false H h3 (by omega)
  have n2:=fun H=>i_norm_isl hE r false H h4 (by omega)
  have e1:ofL false q = ((a / b:Nat):Int):=by unfold ofL; rw [h1]; rfl
  have e2:ofL false r = ((a % b:Nat):Int):=by unfold ofL; rw [h2]; rfl
  rw [e1] at n1
  rw [e2] at n2
  have hlb:(limbs b).length = 1:=by
    rw [limbs_pos hb,Nat.div_eq_of_lt hb2]; rfl
  have hl0:¬ ((limbs b).length:Int) = 0:=by omega
  rw [Z_nat a,Z_nat b]
  rw [call_fun (hE _ _ _ (by decide)) (f:=a175) rfl rfl]
  simp (maxSteps:=1000000) (disch:=first | omega | decide) only [si,sf,simprocAttr,a175,a175R,h7,n1,n2,hl0,Z_plain]
theorem i_bits (n:Nat) (h0:0 < n) (hn:Sz n):∃ r:Nat,(∀ H,call E GP 159 [Z n] H = some (.int .i64 (r:Nat),H,false)) ∧ n < 2 ^ r ∧ 2 ^ (r - 1) ≤ n ∧ 0 < r ∧ r ≤ 256:=by
  have hlen:(limbs n).length ≤ 8:=by have:=hn.len; rwa [Int.natAbs_natCast] at this
  have hne:limbs n ≠ []:=fun e=>by rw [limbs_nil] at e; omega
  obtain ⟨lo,x,hl⟩:∃ lo x,limbs n = lo ++ [x]:=⟨(limbs n).dropLast,(limbs n).getLast hne,(List.dropLast_concat_getLast _).symm⟩
  have hx0:x ≠ 0:=by
    have:=limbs_last n hne
    simp only [hl,List.getLast_concat] at this
    exact this
  have hxl:x < B32:=limbs_lt n x (by rw [hl]; simp)
  have hlo:val lo < B32 ^ lo.length:=val_lt lo fun y hy=>limbs_lt n y (by rw [hl]; simp [hy])
  have hv:n = val lo + B32 ^ lo.length * x:=by
    have:=val_limbs n
    rw [hl,val_append] at this
    simp only [val,Nat.mul_zero,Nat.add_zero] at this
    omega
  have hb:B32 ^ lo.length = 2 ^ (32 * lo.length):=by
    rw [Nat.pow_mul]; rfl
  have hdiv:x = n / 2 ^ (32 * lo.length):=by
    rw [← hb]
    have hp:0 < B32 ^ lo.length:=Nat.lt_of_le_of_lt (Nat.zero_le _) hlo
    rw [hv,Nat.add_mul_div_left _ _ hp,Nat.div_eq_of_lt hlo]; omega
  obtain ⟨r,c1,c2,c3,c4⟩:=b_len32 hE x hxl
  have hu:=len_up n x (32 * lo.length) r hdiv c2 c3 hx0
  have hr0:r ≠ 0:=by rintro rfl; simp at c2; omega
  have hll:lo.length < 8:=by rw [hl] at hlen; simp at hlen; omega
  obtain ⟨m,hm⟩:∃ m,lo.length = m:=⟨_,rfl⟩
  rw [hm] at hu hll
  have hL:(limbs n).length = m + 1:=by rw [hl]; simp [hm]
  have hmi:((limbs n).map limbA)[m]? = some (.int .u32 (x:Int)):=by
    rw [List.getElem?_map,hl,← hm]; simp; rfl
  refine ⟨32 * m + r,fun H=>?_,hu.1,hu.2.resolve_left (by omega),by omega,by omega⟩
  obtain ⟨L,hLL⟩:∃ L,(limbs n).map limbA = L:=⟨_,rfl⟩
  have hLn:L.length = m + 1:=by rw [← hLL]; simpa using hL
  obtain ⟨p,hp⟩:∃ p,m + 1 = p:=⟨_,rfl⟩
  rw [hp] at hLn
  rw [Z_nat,hLL]
  rw [hLL] at hmi
  have g0:¬ (p:Int) = 0:=by omega
  have w1:IntKind.i64.wrap ((p:Int) - 1) = (m:Int):=by rw [show (p:Int) - 1 = m by omega]; exact i64w (by omega)
  have w2:IntKind.i64.wrap (32 * (m:Int)) = 32 * m:=i64w (by omega)
  have w3:IntKind.i64.wrap (32 * (m:Int) + r) = 32 * m + r:=i64w (by omega)
  rw [call_fun (hE _ _ _ (by decide)) (f:=a159) rfl rfl]
  simp (maxSteps:=1000000) (disch:=first | omega | decide) only [si,sf,simprocAttr,a159,a159R,hLn,g0,w1,w2,w3,hmi,c1,Int.natCast_mul]
omit hE in
theorem newton (n x:Nat) (hn:0 < n) (hx:0 < x):(x ≤ (x + n / x) / 2 → x * x ≤ n) ∧ n < ((x + n / x) / 2 + 1) * ((x + n / x) / 2 + 1) ∧ 0 < (x + n / x) / 2:=by
  have hq1:x * (n / x) ≤ n:=Nat.mul_div_le n x
  have hq2:n < x * (n / x + 1):=by rw [Nat.mul_add,Nat.mul_one]; have:=Nat.div_add_mod n x; have:=Nat.mod_lt n hx; omega
  obtain ⟨q,hq⟩:∃ q,n / x = q:=⟨_,rfl⟩
  rw [hq] at hq1 hq2 ⊢
  obtain ⟨y,hy⟩:∃ y,(x + q) / 2 = y:=⟨_,rfl⟩
  rw [hy]
  refine ⟨fun h=>?_,?_,?_⟩
  · have:x ≤ q:=by omega
    exact Nat.le_trans (Nat.mul_le_mul_left x this) hq1
  · have h1:x + (q + 1) ≤ 2 * (y + 1):=by omega
    have h2:(x + (q + 1)) * (x + (q + 1)) ≤ (2 * (y + 1)) * (2 * (y + 1)):=Nat.mul_le_mul h1 h1
    have h3:4 * (x * (q + 1)) ≤ (x + (q + 1)) * (x + (q + 1)):=by
      generalize q + 1 = p
      have e:((x + p:Nat):Int) * (x + p:Nat) = 4 * (x * p) + ((x:Int) - p) * ((x:Int) - p):=by
        push_cast
        have:∀ a b:Int,(a + b) * (a + b) = 4 * (a * b) + (a - b) * (a - b):=fun a b=>by grind
        exact this _ _
      have h:(0:Int) ≤ ((x:Int) - p) * ((x:Int) - p):=by
        rcases Int.le_total 0 ((x:Int) - p) with h | h
        · exact Int.mul_nonneg h h
        · exact Int.mul_nonneg_of_nonpos_of_nonpos h h
      have:(4 * (x * p):Int) ≤ ((x + p:Nat):Int) * (x + p:Nat):=by omega
      exact_mod_cast this
    have h4:(2 * (y + 1)) * (2 * (y + 1)) = 4 * ((y + 1) * (y + 1)):=by
      rw [Nat.mul_assoc,Nat.mul_left_comm (y + 1) 2,← Nat.mul_assoc]
    omega
  · rcases Nat.lt_or_ge 1 x with h | h
    · omega
    · obtain rfl:x = 1:=by omega
      rw [Nat.div_one] at hq
      omega
def rtT (n:Nat) (k:Int) (x:Nat):St:={ vars:=[Z n,.int .i64 0,.int .i64 k,.bool false,.bool false,.u,Z n,zI,Z x,.u,.u,.u,.u],heap:=[.dead],rs:=false }
theorem root_loop (n:Nat) (k:Int) (hn:0 < n) (hn2:n < 2 ^ 62):∀ (m x:Nat),x ≤ m → 0 < x → x < B32 → n < (x + 1) * (x + 1) → ∃ (r:Nat) (a b c d:AV),r * r ≤ n ∧ n < (r + 1) * (r + 1) ∧
    run E GP a167l0 (rtT n k x) = some (.ret,{ vars:=[Z n,.int .i64 0,.int .i64 k,.bool false,.bool false,.bool true,Z n,Z r,Z r,a,b,c,d],heap:=[.dead],rs:=false }):=by
  intro m
  induction m with
  | zero=>intro x h1 h2; omega
  | succ m ih =>
    intro x hxm hx hx32 hxn
    obtain ⟨a1,a2,a3⟩:=newton n x hn hx
    have hS:Sz (n:Int):=by unfold Sz B32; omega
    have hq:n / x ≤ n:=Nat.div_le_self _ _
    have c1:=fun H=>i_divmod hE n x hn hx hx32 hS H
    have c2:=fun H=>b_add hE (x:Int) ((n / x:Nat):Int) H (by unfold Sz; unfold B32 at *; omega) (by unfold Sz; rw [Int.natAbs_natCast]; unfold B32; omega)
    have c3:=fun H=>i_of hE 2 H (by decide) (by decide)
    have hs2:(x:Int) + ((n / x:Nat):Int) = ((x + n / x:Nat):Int):=rfl
    rw [hs2] at c2
    obtain ⟨s,hs⟩:∃ s,x + n / x = s:=⟨_,rfl⟩
    obtain ⟨q,hqq⟩:∃ q,n / x = q:=⟨_,rfl⟩
    obtain ⟨w,hw⟩:∃ w,n % x = w:=⟨_,rfl⟩
    rw [hqq] at hs c1 c2
    rw [hw] at c1
    rw [hqq,hs] at a1 a2 a3
    rw [hs] at c2
    rw [hqq] at hq
    have hs64:s < 2 ^ 64:=by unfold B32 at hx32; omega
    have c4:=fun H=>i_divmod hE s 2 (by omega) (by decide) (by decide) (by unfold Sz; rw [Int.natAbs_natCast]; unfold B32; omega) H
    obtain ⟨y,hy⟩:∃ y,s / 2 = y:=⟨_,rfl⟩
    obtain ⟨v,hv⟩:∃ v,s % 2 = v:=⟨_,rfl⟩
    rw [hy] at a1 a2 a3
    rw [hy,hv] at c4
    have c4:∀ H,call E GP 175 [Z (s:Int),Z 2] H = some (.tup [Z (y:Int),Z (v:Int),.int .i64 0],H,false):=c4
    have c5:=fun H=>b_cmp hE (y:Int) (x:Int) H (by unfold Sz; rw [Int.natAbs_natCast]; unfold B32; omega) (by unfold Sz; rw [Int.natAbs_natCast]; unfold B32 at *; omega)
    by_cases hyx:x ≤ y
    · have h5:cmp3 (y:Int) (x:Int) ≥ 0:=by unfold cmp3; rw [if_neg (by omega)]; split <;> decide
      refine ⟨x,Z q,Z w,Z y,Z v,a1 hyx,hxn,?_⟩
      unfold rtT
      rw [a167l0_run]
      simp (maxSteps:=1000000) (disch:=first | omega | decide) only [si,sf,simprocAttr,a167b0,a167R,c1,c2,c3,c4,c5,h5,Z_plain]
    · have h5:¬ cmp3 (y:Int) (x:Int) ≥ 0:=by unfold cmp3; rw [if_pos (by omega)]; decide
      obtain ⟨r,a,b,c,d,r1,r2,r3⟩:=ih y (by omega) a3 (by omega) a2
      refine ⟨r,a,b,c,d,r1,r2,?_⟩
      rw [← r3]
      unfold rtT
      conv=>lhs; rw [a167l0_run]
      simp (maxSteps:=1000000) (disch:=first | omega | decide) only [si,sf,simprocAttr,a167b0,a167R,c1,c2,c3,c4,c5,h5,Z_plain]
theorem i_root (n:Nat) (hn:0 < n) (hn2:n < 2 ^ 62):∃ r:Nat,r * r ≤ n ∧ n < (r + 1) * (r + 1) ∧ ∀ H,call E GP 167 [Z n] H = some (.tup [Z r,.int .i64 0],H,false):=by
  have hS:Sz (n:Int):=by unfold Sz B32; omega
  obtain ⟨r,c1,b1,b2,b3,b4⟩:=i_bits hE n hn hS
  have hr62:r ≤ 62:=by
    rcases Nat.lt_or_ge 62 r with h | h
    · have:2 ^ 62 ≤ 2 ^ (r - 1):=Nat.pow_le_pow_right (by decide) (by omega)
      omega
    · exact h
  obtain ⟨K,hK⟩:∃ K,(r + 1) / 2 = K:=⟨_,rfl⟩
  have hK31:K ≤ 31:=by omega
  have hx0:0 < 2 ^ K:=Nat.two_pow_pos K
  have hx31:2 ^ K ≤ 2 ^ 31:=Nat.pow_le_pow_right (by decide) hK31
  have hxn:n < (2 ^ K + 1) * (2 ^ K + 1):=by
    have h1:2 ^ r ≤ 2 ^ K * 2 ^ K:=by rw [← Nat.pow_add]; exact Nat.pow_le_pow_right (by decide) (by omega)
    have h2:2 ^ K * 2 ^ K ≤ (2 ^ K + 1) * (2 ^ K + 1):=Nat.mul_le_mul (by omega) (by omega)
    omega
  obtain ⟨x,hx⟩:∃ x,2 ^ K = x:=⟨_,rfl⟩
  rw [hx] at hx0 hx31 hxn
  obtain ⟨s,a,b,c,d,s1,s2,s3⟩:=root_loop hE n (K:Int) hn hn2 x x (Nat.le_refl _) hx0 (by unfold B32; omega) hxn
  refine ⟨s,s1,s2,fun H=>?_⟩
  have w1:IntKind.i64.wrap ((r:Int) + 1) = (r:Int) + 1:=i64w (by omega)
  have w2:IntKind.i64.wrap (((r:Int) + 1).tdiv 2) = (K:Int):=by
    rw [Int.tdiv_eq_ediv_of_nonneg (by omega),show ((r:Int) + 1) / 2 = K by omega]; exact i64w (by omega)
  have w3:IntKind.i64.wrap ((K:Int).tdiv 32) = 0:=by
    rw [Int.tdiv_eq_ediv_of_nonneg (by omega),show (K:Int) / 32 = 0 by omega]; rfl
  have w4:(K:Int).tmod 32 = K:=by rw [Int.tmod_eq_emod_of_nonneg (by omega)]; omega
  have g1:¬ ((K:Int) < 0):=by omega
  have w5:IntKind.u32.wrap (1 * 2 ^ Nat.min K IntKind.u32.bits) = (x:Int):=by
    have:Nat.min K IntKind.u32.bits = K:=Nat.min_eq_left (by show K ≤ 32; omega)
    rw [this,Int.one_mul]
    have h2:(2:Int) ^ K = (x:Int):=by rw [← hx]; simp
    rw [h2]
    show (x:Int) % 4294967296 = x
    omega
  have n1:=i_norm hE [x] false [.arr 1 1 [.int .u32 (x:Int)]] 0 1 1 0 1 rfl (fun y hy=>by simp at hy; subst hy; unfold B32; omega) (by simp)
  have hmx:1 ≤ maxLenA:=by decide
  have e1:ofL false [x] = (x:Int):=by simp [ofL,val]
  rw [e1] at n1
  have n1:call E GP 54 [.sl 0 1 1 0 1,.bool false] [.arr 1 1 [.int .u32 (x:Int)]] = some (Z x,[.dead],false):=n1
  have hl:(limbs n).length ≠ 0:=by rw [ne_eq,List.length_eq_zero_iff,limbs_nil]; omega
  have hl0:¬ ((limbs n).length:Int) = 0:=by omega
  unfold rtT zI at s3
  rw [Z_nat n] at s3 c1 ⊢
  have s3:=s3
  rw [call_fun (hE _ _ _ (by decide)) (f:=a167) rfl rfl]
  simp (maxSteps:=1000000) (disch:=first | omega | decide) only [si,sf,simprocAttr,a167,a167R,c1,w1,w2,w3,w4,w5,g1,n1,hl0,s3,hmx,Z_plain]
end Tor
