/-
  A part of the proof: an abstract machine for the program, its soundness, and what the functions compute (Main, Open, Fits, Law11, Law12, Gd7, Fl, In1, In2, In3, In4, In5, In6, In7, In8, E1).
  Conditions: none.
-/
import Derived.Test.YtejciamannpljaaGreatM06
import Derived.Test.YtejciamannpljaaGreatM07
import Derived.Test.YtejciamannpljaaGreatM08
import Derived.Test.YtejciamannpljaaGreatM11
import Derived.OpenShut
import Derived.ChangeOld
import Derived.Shelf.SlIterI.Sorted
set_option linter.unusedSectionVars false
set_option linter.unusedVariables false
set_option linter.unusedSimpArgs false
set_option linter.defProp false
namespace Tor
open Go Go.RowKit
theorem Rvs_leU {n:Nat} {C C':Cx} (h:LeU n C C') {l vs} (hu:AV.unders n l = true) (hr:Rvs C l vs):Rvs C' l vs:=by
  induction hr with
  | nil=>exact .nil
  | cons a _ ih =>
    simp only [AV.unders,Bool.and_eq_true] at hu
    exact .cons (Rv_leU h hu.1 a) (ih hu.2)
theorem shut_inv {n H o r} (h:shut n H o = some r):∃ x,o = some x ∧ r = fz n H fzDepth x ∧ (fz n H fzDepth x).under n = true ∧ (fz n H fzDepth x).solid = true:=by
  cases o with
  | none=>cases h
  | some x =>
    simp only [shut] at h
    split at h
    · rename_i hh; cases h; exact ⟨x,rfl,rfl,hh⟩
    · cases h
theorem shrEnd_inv {n rs o r} (h:shrEnd n rs o = some r):∃ st x,o = some st ∧ st.rs = false ∧ shut n st.heap (resAll st rs) = some x ∧ r = (x,st.heap.take n,false):=by
  cases o with
  | none=>cases h
  | some st =>
    simp only [shrEnd] at h
    split at h
    · cases h
    · rename_i hrs
      obtain ⟨x,hx,e⟩:=withHeap_inv h
      exact ⟨st,x,rfl,by simpa using hrs,hx,e⟩
theorem keepEnd_inv {rs o r} (h:keepEnd rs o = some r):∃ st x,o = some st ∧ resAll st rs = some x ∧ r = (x,st.heap,st.rs):=by
  cases o with
  | none=>cases h
  | some st =>
    obtain ⟨x,hx,e⟩:=withHeap_inv h
    exact ⟨st,x,rfl,hx,e⟩
theorem runIso_inv {R f args r} (h:runIso R f args = some r):AV.hasRefs args = false ∧ ∃ st,ended (R f.body (start f args [])) = some st ∧ shut 0 st.heap (resAll st f.results) = some r:=by
  unfold runIso at h
  split at h
  · cases h
  · rename_i hh
    refine ⟨by simpa using hh,?_⟩
    cases he:ended (R f.body (start f args [])) with
    | none=>rw [he] at h; cases h
    | some st=>rw [he] at h; exact ⟨st,rfl,h⟩
section
variable {k:Ck} {base:Nat} {C:Cx}
theorem iso_ok {R:AIR → St → Option (Ex × St)} {f:AFun} {fn:Func} {g:Nat} {args:List AV} {H:Heap} {vals:List Value} {r:AV} (hR:RS k R) (hfn:k.P.funcs[k.ι g]? = some fn) (hok:funOk k fn f = true)
    (hι:C.ι = k.ι) (hs:Sim base C H) (hr:Rvs C args vals) (hl:args.length = f.params) (h:runIso R f args = some r):Called k.P (k.ι g) vals.toArray C.w (CPost base C H r H):=by
  obtain ⟨hnr,st,he,hsh⟩:=runIso_inv h
  obtain ⟨x,hx,rfl,hun,hso⟩:=shut_inv hsh
  let C0:Cx:={ C with β:=fun _ _=>none }
  have hC0:Sim C.w.heap.size C0 []:=⟨hs.fsz,fun _ _ _=>rfl,fun o ob ho=>by simp at ho,fun o o' ob ob' b ho=>by simp at ho,Nat.le_refl _⟩
  have hl0:LeU 0 C C0:=⟨rfl,fun _ h=>h,fun o g q ho=>by omega,fun _ _=>rfl,fun _ _ h=>h⟩
  have hr0:Rvs C0 args vals:=Rvs_leU hl0 (noRefs_unders 0 args hnr) hr
  refine body_ok (C:=C0) hR hfn hok hι hC0 hr0 hl he hx fun v C1 hst hv=>?_
  -- the objects are given up; their blocks stay
  have hu0:HUnder 0 st.heap:=fun o ob ho=>by omega
  have hst2:OStep C.w.heap.size C0 [] (C1.fzn 0 st.heap) (st.heap.take 0):=hst.dropTo hC0 hu0 (leU_fzn C1 0 st.heap) rfl (fun _ _=>rfl) (fun _ h=>h)
  have hv2:=fz_Rv hst.sim 0 fzDepth hv hso hun
  let C3:Cx:={ C1.fzn 0 st.heap with β:=C.β }
  have hle:Le C C3:=⟨hst2.le.ι,hst2.le.F,fun _ _ _ h=>h,hst2.le.mem,hst2.le.shp⟩
  have hl3:LeU 0 (C1.fzn 0 st.heap) C3:=⟨rfl,fun _ h=>h,fun o g q ho=>by omega,fun _ _=>rfl,fun _ _ h=>h⟩
  have hfg:∀ b,C3.F b → C.F b ∨ C.w.heap.size ≤ b:=hst2.fgr
  refine ⟨C3,rfl,⟨hle,hs.world hle (fun b hb=>⟨hst2.sim.fsz b hb,hfg b hb⟩) (fun _ _=>rfl) hst2.below.4 (fun b hb _ _=>hst2.below.5 b hb),
    ⟨hst2.below.1,hst2.below.2,hst2.below.3,hst2.below.4,fun b hb=>hst2.below.5 b (Nat.lt_of_lt_of_le hb hs.bsz)⟩,fun b hb=>?_,fun b hb hF hno=>⟨hst2.below.5 b hb,fun h=>(hfg b h).elim hF (fun h=>by omega),hno⟩⟩,Rv_leU hl3 hun hv2⟩
  rcases hfg b hb with hb | hb
  · exact .inl hb
  · exact .inr (Nat.le_trans hs.bsz hb)
theorem consume_ok:∀ (args:List AV) (vals:List Value) (C:Cx) (H:Heap) (args':List AV) (H':Heap),Sim base C H → Rvs C args vals → consume H args = some (args',H') →
    ∃ C',C'.w = C.w ∧ OStep base C H C' H' ∧ Rvs C' args' vals ∧ args'.length = args.length
  | [],vals,C,H,args',H',hs,hr,h=>by
    simp only [consume] at h; cases h
    cases hr
    exact ⟨C,rfl,Step.refl hs,.nil,rfl⟩
  | x :: r,_,C,H,args',H',hs,hr,h=>by
    cases hr with
    | cons hx hr =>
      rename_i v vs
      have keep:∀ y H0,(∀ z,x ≠ z ∨ True) → consume1 y (consume H0 r) = some (args',H') → ∃ l',consume H0 r = some (l',H') ∧ args' = y :: l':=by
        intro y H0 _ h
        cases hc:consume H0 r with
        | none=>rw [hc] at h; cases h
        | some q=>obtain ⟨l',H2⟩:=q; rw [hc] at h; cases h; exact ⟨l',rfl,rfl⟩
      by_cases hsl:∃ o g sz st len,x = .sl o g sz st len
      · obtain ⟨o,g,sz,st,len,rfl⟩:=hsl
        simp only [consume] at h
        cases hel:elems H (.sl o g sz st len) with
        | none=>rw [hel] at h; cases h
        | some l =>
          rw [hel] at h
          simp only at h
          split at h
          · cases h
          · rename_i hnr
            obtain ⟨l',hc,rfl⟩:=keep _ _ (fun _=>.inr trivial) h
            obtain ⟨a,cap,ob,rfl,hob,hcs⟩:=sl_cells hs hx hel
            let C1:Cx:={ C with F:=fun b=>C.F b ∨ blk C o ob = some b }
            have hle:Le C C1:=⟨rfl,fun _ h=>.inl h,fun _ _ _ h=>h,fun _ _=>rfl,fun _ _ h=>h⟩
            have hbl:=fun b (hb:blk C o ob = some b)=>blk_heap (hs.obj o ob hob).1 hb
            have hst:OStep base C H C1 (H.set o .dead):=by
              refine ⟨hle,hs.set hob hle (fun b hb=>?_) (Nat.le_refl _) (fun _ _ _=>rfl) (fun _ _ _=>rfl) trivial trivial (fun b hb=>by cases hb),(Grow.refl C.w).below hs.bsz,fun b hb=>?_,fun b hb hF hno=>⟨rfl,fun h=>h.elim hF (hno o ob hob),fun o1 ob1 h1 hbk=>?_⟩⟩
              · rcases hb with hb | hb
                · exact ⟨hs.fsz b hb,.inl hb⟩
                · exact ⟨(hbl b hb).2.2,.inr (.inr hb)⟩
              · rcases hb with hb | hb
                · exact .inl hb
                · exact .inr (hbl b hb).1
              · rw [List.getElem?_set] at h1
                split at h1
                · split at h1
                  · cases h1; cases hbk
                  · cases h1
                · have:blk C1 o1 ob1 = blk C o1 ob1:=by cases ob1 <;> rfl
                  rw [this] at hbk
                  exact hno o1 ob1 h1 hbk
            obtain ⟨C2,hw,hst2,hr2,hl2⟩:=consume_ok r vs C1 _ _ _ hst.sim (Rvs_le hle hr) hc
            refine ⟨C2,hw,hst.trans hst2,.cons (Rv_le hst2.le (Rv_one ?_ rfl rfl)) hr2,by simp [hl2]⟩
            simp only [Rc]
            refine ⟨by simpa using hnr,_,rfl,a,cap,rfl,?_⟩
            rcases hcs with rfl | ⟨b,off,css,rfl,hb,hcap,h1,h2,h3⟩
            · exact .inl rfl
            · exact .inr ⟨b,off,css,sz,rfl,.inr hb,hcap,Rcl_le hle _ _ h1,h2,h3⟩
      · have h':consume1 x (consume H r) = some (args',H'):=by
          cases x <;> first | exact h | exact absurd ⟨_,_,_,_,_,rfl⟩ hsl
        obtain ⟨l',hc,rfl⟩:=keep _ _ (fun _=>.inr trivial) h'
        obtain ⟨C2,hw,hst2,hr2,hl2⟩:=consume_ok r vs C _ _ _ hs hr hc
        exact ⟨C2,hw,hst2,.cons (Rv_le hst2.le hx) hr2,by simp [hl2]⟩
end
structure Tied (P:Program) (ι:Nat → FuncId) (pureF:Nat → Bool) (E:CallF) (GP:Nat → Option AFun):Prop where
  funs:∀ g f,GP g = some f → ∃ k fn,k.P = P ∧ k.ι = ι ∧ k.pureF = pureF ∧ P.funcs[ι g]? = some fn ∧ funOk k fn f = true
  pureG:∀ g,pureF g = true → (∀ f,GP g = some f → f.mode = .iso) ∧ ∀ args H H2,E g args H = none → E g args H2 = none
  pureE:PureC pureF E
  soundE:SoundC P ι E
  keepE:CKeeps E
theorem Called.mono {P f args w} {R R':Value → World → Prop} (h:Called P f args w R) (hR:∀ v w',R v w' → R' v w'):Called P f args w R':=by
  unfold Called at h ⊢
  split
  · rename_i e; rw [e] at h; exact hR _ _ h
  · rename_i e
    rw [e] at h
    refine Calls.mono h fun e' w' he=>?_
    cases e' with
    | returned v=>exact hR _ _ he
    | panicked _=>exact he.elim
    | outgrown=>exact he.elim
  · rename_i h1 h2
    split at h
    · rename_i e; exact absurd e (h1 _ _)
    · rename_i e; exact absurd e (h2 _ _ _)
    · exact h
section
variable {P:Program} {ι:Nat → FuncId} {pureF:Nat → Bool} {E:CallF} {GP:Nat → Option AFun}
theorem stepCall_pure (T:Tied P ι pureF E GP) (R:AIR → St → Option (Ex × St)):PureC pureF (stepCall E GP R):=by
  intro g hg args H r H' b h
  obtain ⟨h1,h2⟩:=T.pureG g hg
  unfold stepCall at h ⊢
  cases hE:E g args H with
  | some q =>
    rw [hE] at h
    simp only [callE] at h
    cases h
    obtain ⟨a1,a2,a3⟩:=T.pureE g hg args H _ _ _ hE
    exact ⟨a1,a2,fun H2=>by rw [a3 H2]; rfl⟩
  | none =>
    rw [hE] at h
    simp only [callE] at h
    have hE2:=fun H2=>h2 args H H2 hE
    cases hf:GP g with
    | none=>rw [hf] at h; cases h
    | some f =>
      rw [hf] at h
      simp only [callG,h1 f hf] at h
      split at h
      · rename_i hl
        simp only [callFun] at h
        obtain ⟨x,hx,e⟩:=withHeap_inv h
        cases e
        refine ⟨rfl,rfl,fun H2=>?_⟩
        rw [hE2 H2]
        simp only [callE]
        rw [hf]
        simp only [callG,hl,if_true,h1 f hf,callFun,hx,withHeap]
      · cases h
theorem stepCall_ok (T:Tied P ι pureF E GP) {R:AIR → St → Option (Ex × St)} (hK:RKeeps R) (hR:∀ k:Ck,k.P = P → k.ι = ι → k.pureF = pureF → nodupB (k.slots ++ k.cells) = true → RS k R):SoundC P ι (stepCall E GP R):=by
  intro g args H r H' b h base C vals hι hs hr
  unfold stepCall at h
  cases hE:E g args H with
  | some q =>
    rw [hE] at h
    simp only [callE] at h
    cases h
    exact T.soundE g args H _ _ _ hE base C vals hι hs hr
  | none =>
    rw [hE] at h
    simp only [callE] at h
    cases hf:GP g with
    | none=>rw [hf] at h; cases h
    | some f =>
      rw [hf] at h
      simp only [callG] at h
      split at h
      case isFalse=>cases h
      rename_i hl
      obtain ⟨k,fn,rfl,rfl,rfl,hfn,hok⟩:=T.funs g f hf
      have hnd:nodupB (k.slots ++ k.cells) = true:=by
        have:=hok
        unfold funOk at this
        simp only [Bool.and_eq_true] at this
        exact this.1.1.1.1.1.1.2
      have hRk:=hR k rfl rfl rfl hnd
      cases hm:f.mode with
      | iso =>
        rw [hm] at h
        simp only [callFun] at h
        obtain ⟨x,hx,e⟩:=withHeap_inv h
        cases e
        exact iso_ok hRk hfn hok hι hs hr hl hx
      | con =>
        rw [hm] at h
        simp only [callFun] at h
        cases hc:consume H args with
        | none=>rw [hc] at h; cases h
        | some q =>
          obtain ⟨args',H2⟩:=q
          rw [hc] at h
          simp only [conCall] at h
          obtain ⟨x,hx,e⟩:=withHeap_inv h
          cases e
          obtain ⟨C2,hw,hst,hr2,hl2⟩:=consume_ok args vals C H _ _ hs hr hc
          rw [← hw]
          refine (iso_ok hRk hfn hok (hst.le.ι.trans hι) hst.sim hr2 (hl2.trans hl) hx).mono ?_
          rintro v w' ⟨C',hw',hst',hv⟩
          exact ⟨C',hw',hst.trans (hst'.ent_le (by rw [hw]; exact Nat.le_refl _)),hv⟩
      | shr =>
        rw [hm] at h
        simp only [callFun] at h
        obtain ⟨st,x,he,hrs,hsh,e⟩:=shrEnd_inv h
        cases e
        obtain ⟨y,hy,rfl,hun,hso⟩:=shut_inv hsh
        obtain ⟨e,hbody⟩:=ended_inv he
        have hu:HUnder H.length st.heap:=((hK _ _ _ _ hbody hrs).2).2 _ (Nat.le_refl _) (HUnder_sim hs)
        refine body_ok hRk hfn hok hι hs hr hl he hy fun v C1 hst hv=>?_
        exact ⟨C1.fzn H.length st.heap,rfl,hst.dropTo hs hu (leU_fzn C1 _ st.heap) rfl (fun _ _=>rfl) (fun _ h=>h),fz_Rv hst.sim _ fzDepth hv hso hun⟩
      | keep =>
        rw [hm] at h
        simp only [callFun] at h
        obtain ⟨st,x,he,hx,e⟩:=keepEnd_inv h
        cases e
        exact body_ok hRk hfn hok hι hs hr hl he hx fun v C1 hst hv=>⟨C1,rfl,hst,hv⟩
theorem machine_ok (T:Tied P ι pureF E GP) (n:Nat):(∀ k:Ck,k.P = P → k.ι = ι → k.pureF = pureF → nodupB (k.slots ++ k.cells) = true → RS k (Tor.runN E GP n)) ∧ SoundC P ι (callN E GP n) ∧ PureC pureF (callN E GP n):=by
  induction n with
  | zero =>
    refine ⟨fun k _ _ _ _=>⟨fun air code st e st' _ h=>?_,fun gc keep x body st e st' _ h=>?_⟩,fun g args H r H' b h=>?_,fun g _ args H r H' b h=>?_⟩
    · rw [Tor.runN] at h; cases h
    · rw [Tor.runN] at h; cases h
    · rw [callN] at h; cases h
    · rw [callN] at h; cases h
  | succ n ih =>
    obtain ⟨h1,h2,h3⟩:=ih
    have hK:=runN_keeps (E:=E) (GP:=GP) T.keepE n
    refine ⟨?_,?_,?_⟩
    · rintro k rfl rfl rfl hnd
      rw [Tor.runN]
      exact stepRun_ok h2 h3 hnd hK.1 (h1 k rfl rfl rfl hnd)
    · rw [callN]; exact stepCall_ok T hK.1 h1
    · rw [callN]; exact stepCall_pure T _
theorem call_sound (T:Tied P ι pureF E GP):SoundC P ι (call E GP):=by
  intro g args H r H' b h
  obtain ⟨n,hn⟩:=call_ex h
  exact (machine_ok T n).2.1 g args H r H' b hn
end
end Tor
namespace Tor
open Go Go.RowKit
inductive Shp where
  | int (k:IntKind)
  | bool
  | sl (s:Shp)
  | agg (l:List Shp)
mutual
def Fits:Shp → AV → Prop
  | .int k,x=>∃ n,x = .int k n ∧ k.min ≤ n ∧ n ≤ k.max
  | .bool,x=>∃ b,x = .bool b
  | .sl s,x=>∃ l,x = .isl l ∧ l.length ≤ maxLen ∧ ∀ y ∈ l,Fits s y
  | .agg ss,x=>∃ l,x = .agg l ∧ Fitss ss l
def Fitss:List Shp → List AV → Prop
  | [],l=>l = []
  | s :: ss,l=>∃ x r,l = x :: r ∧ Fits s x ∧ Fitss ss r
end
def partsOf (P:Program) (t:TypeId):Option (List (TypeId × Nat)) :=
  match P.underlying t with
  | some (.struct fs)=>some (fs.toList.map fun f=>(f.type,f.offset))
  | some (.array n e)=>some ((List.range n).map fun i=>(e,i * P.cellsOf e))
  | _=>none
mutual
def shpOk (P:Program) (t:TypeId):Shp → Bool
  | .int k=>(match P.underlying t with | some (.int k')=>k' == k | _=>false)
  | .bool=>(match P.underlying t with | some .bool=>true | _=>false)
  | .sl s=>(match sliceB P t with | some e=>!(P.cellsOf e == 0) && shpOk P e s | none=>false)
  | .agg ss=>(match partsOf P t with | some ps=>shpsOk P 0 (P.cellsOf t) ps ss | none=>false)
def shpsOk (P:Program) (off total:Nat):List (TypeId × Nat) → List Shp → Bool
  | [],[]=>off == total
  | (t,o) :: ps,s :: ss=>o == off && shpOk P t s && shpsOk P (off + P.cellsOf t) total ps ss
  | _,_=>false
end
def Cx.init (ι:Nat → FuncId) (w:World):Cx:={ ι:=ι,F:=fun b=>b < w.heap.size,β:=fun _ _=>none,w:=w }
theorem Sim.init (ι:Nat → FuncId) (w:World):Sim w.heap.size (Cx.init ι w) [] :=
  ⟨fun _ h=>h,fun _ _ _=>rfl,fun o ob ho=>by simp at ho,fun o o' ob ob' b ho=>by simp at ho,Nat.le_refl _⟩
section
variable {P:Program} {ι:Nat → FuncId} {w:World} {H:Type} {enc:TypeId × Value → H} {base:Nat} {spare:Nat → Bool} {held:Bool}
mutual
theorem Fits_ref:∀ (s:Shp) (x:AV),Fits s x → x.hasRef = false
  | .int k,x,h=>by simp only [Fits] at h; obtain ⟨n,rfl,_⟩:=h; rfl
  | .bool,x,h=>by simp only [Fits] at h; obtain ⟨n,rfl⟩:=h; rfl
  | .sl s,x,h=>by simp only [Fits] at h; obtain ⟨l,rfl,_⟩:=h; rfl
  | .agg ss,x,h=>by
    simp only [Fits] at h; obtain ⟨l,rfl,h⟩:=h
    simp only [AV.hasRef]; exact Fitss_ref ss l h
theorem Fitss_ref:∀ (ss:List Shp) (l:List AV),Fitss ss l → AV.hasRefs l = false
  | [],l,h=>by simp only [Fitss] at h; subst h; rfl
  | s :: ss,l,h=>by
    simp only [Fitss] at h; obtain ⟨x,r,rfl,h1,h2⟩:=h
    simp only [AV.hasRefs,Bool.or_eq_false_iff]; exact ⟨Fits_ref s x h1,Fitss_ref ss r h2⟩
end
theorem cells_at {a:Addr} {n:Nat} {cs:List Value} (h:w.cells? base a n = some cs) (hn:n ≠ 0):a.spot = none ∧ a.block < w.heap.size ∧ cs.length = n ∧ cellsAt w a.block a.off cs:=by
  have hb:=World.cells?_block h (by omega)
  have hs:=World.cells?_some h
  obtain ⟨_,hl,hc⟩:=hs
  have h0:w.cell? a = cs[0]?:=by
    have:=hc 0 (by omega)
    simpa [Addr.add] using this
  have hsp:a.spot = none:=by
    have:cs[0]? = some cs[0]:=List.getElem?_eq_getElem (by omega)
    rw [this] at h0
    exact World.cell?_spot h0
  obtain ⟨b,off,sp⟩:=a
  simp only at hsp
  subst hsp
  refine ⟨rfl,hb,hl,fun i x hx=>?_⟩
  have hi:i < n:=by rw [← hl]; exact (List.getElem?_eq_some_iff.1 hx).1
  have:=hc i hi
  rw [addr_add] at this
  exact this.trans hx
theorem trod_parts {t:TypeId} {ps:List (TypeId × Nat)} {fuel:Nat} {cs:List Value} {x:DataW H × List MemPlace} (hp:partsOf P t = some ps) (h:DataW.trod enc P w base spare held fuel t cs = some x) :
    cs.length = P.cellsOf t ∧ ∃ m,∀ (i:Nat) (e:TypeId) (o:Nat),ps[i]? = some (e,o) → ∃ y,DataW.trod enc P w base spare held m e ((cs.drop o).take (P.cellsOf e)) = some y:=by
  unfold partsOf at hp
  split at hp
  · rename_i fs ht
    cases hp
    obtain ⟨xs,n,_,_,hl,hx,hi⟩:=DataW.trod_struct ht h
    refine ⟨hl,n,fun i e o he=>?_⟩
    rw [List.getElem?_map] at he
    cases hf:fs.toList[i]? with
    | none=>rw [hf] at he; cases he
    | some f =>
      rw [hf] at he
      cases he
      have hf':fs[i]? = some f:=by simpa using hf
      have:=hi i f hf'
      have hlt:i < xs.length:=by rw [hx]; exact (Array.getElem?_eq_some_iff.1 hf').1
      exact ⟨xs[i],by rw [this]; exact List.getElem?_eq_getElem hlt⟩
  · rename_i n e ht
    cases hp
    obtain ⟨xs,m,_,_,hl,hx,hi⟩:=DataW.trod_array ht h
    refine ⟨hl,m,fun i e' o he=>?_⟩
    rw [List.getElem?_map] at he
    by_cases hin:i < n
    · rw [List.getElem?_range hin] at he
      cases he
      have:=hi i hin
      exact ⟨xs[i],by rw [this]; exact List.getElem?_eq_getElem (by omega)⟩
    · rw [List.getElem?_eq_none (by simpa using hin)] at he; cases he
  · cases hp
mutual
theorem open_ok:∀ (s:Shp) (t:TypeId) (fuel:Nat) (cs:List Value) (x:DataW H × List MemPlace),shpOk P t s = true → DataW.trod enc P w base spare held fuel t cs = some x →
    ∃ y,Fits s y ∧ Rc (Cx.init ι w) y cs
  | .int k,t,fuel,cs,x,hs,h=>by
    simp only [shpOk] at hs
    split at hs
    · rename_i k' ht
      simp only [beq_iff_eq] at hs
      subst hs
      obtain ⟨n,rfl,_,hw⟩:=DataW.trod_int ht h
      simp only [Lit.wf,Bool.and_eq_true,decide_eq_true_eq] at hw
      exact ⟨.int k' n,by simp only [Fits]; exact ⟨n,rfl,hw⟩,by simp [Rc]⟩
    · cases hs
  | .bool,t,fuel,cs,x,hs,h=>by
    simp only [shpOk] at hs
    split at hs
    · rename_i ht
      cases fuel with
      | zero=>simp [DataW.trod] at h
      | succ n =>
        unfold DataW.trod at h
        rw [ht] at h
        split at h <;> simp_all
        rename_i b
        exact ⟨.bool b,by simp only [Fits]; exact ⟨_,rfl⟩,by simp [Rc]⟩
    · cases hs
  | .sl s,t,fuel,cs,x,hs,h=>by
    simp only [shpOk] at hs
    split at hs
    · rename_i e he
      simp only [Bool.and_eq_true,Bool.not_eq_true',beq_eq_false_iff_ne] at hs
      rcases DataW.trod_slice (sliceB_inv he) h with ⟨rfl,_⟩ | ⟨a,len,cap,elems,rest,n,_,rfl,_,hb,hl,hm,hlen,hel,_,_⟩
      · exact ⟨.isl [],by simp only [Fits]; exact ⟨[],rfl,Nat.zero_le _,fun y hy=>by cases hy⟩,by simp only [Rc]; exact ⟨rfl,_,rfl,none,0,rfl,.inl rfl⟩⟩
      · have each:∀ i,i < len → ∃ cs' y,w.cells? base (a.add (i * P.cellsOf e)) (P.cellsOf e) = some cs' ∧ Fits s y ∧ Rc (Cx.init ι w) y cs':=by
          intro i hi
          have h1:=hel i hi
          have h2:elems[i]? = some elems[i]:=List.getElem?_eq_getElem (by omega)
          rw [h2] at h1
          cases hc:w.cells? base (a.add (i * P.cellsOf e)) (P.cellsOf e) with
          | none=>rw [hc] at h1; cases h1
          | some cs' =>
            rw [hc] at h1
            obtain ⟨y,hy1,hy2⟩:=open_ok s e n cs' _ hs.2 h1
            exact ⟨cs',y,rfl,hy1,hy2⟩
        have hrow:∀ k,k ≤ len → ∃ (l:List AV) (css:List (List Value)),l.length = k ∧ (∀ y ∈ l,Fits s y) ∧ Rcl (Cx.init ι w) l css ∧ (∀ c ∈ css,c.length = P.cellsOf e) ∧
            (k = 0 ∨ (a.spot = none ∧ a.block < w.heap.size)) ∧ cellsAt w a.block a.off css.flatten:=by
          intro k
          induction k with
          | zero=>intro _; exact ⟨[],[],rfl,fun y hy=>(by cases hy),rfl,fun c hc=>(by cases hc),.inl rfl,fun i x hx=>by simp at hx⟩
          | succ k ih =>
            intro hk
            obtain ⟨l,css,i1,i2,i3,i4,i5,i6⟩:=ih (by omega)
            obtain ⟨cs',y,h1,h2,h3⟩:=each k (by omega)
            obtain ⟨s1,s2,s3,s4⟩:=cells_at h1 hs.1
            have hsp:a.spot = none:=by
              obtain ⟨b,off,sp⟩:=a
              cases sp with
              | none=>rfl
              | some q=>simp [Addr.add] at s1; split at s1 <;> simp_all
            obtain ⟨b,off,sp⟩:=a
            simp only at hsp
            subst hsp
            rw [addr_add] at s2 s4
            have hcl:=Rcl_count _ _ i3
            refine ⟨l ++ [y],css ++ [cs'],by simp [i1],fun z hz=>?_,Rcl_append _ _ _ _ i3 (by simp only [Rcl]; exact ⟨cs',[],rfl,h3,rfl⟩),fun c hc=>?_,.inr ⟨rfl,s2⟩,?_⟩
            · rcases List.mem_append.1 hz with hz | hz
              · exact i2 z hz
              · simp at hz; subst hz; exact h2
            · rcases List.mem_append.1 hc with hc | hc
              · exact i4 c hc
              · simp at hc; subst hc; exact s3
            · intro i x hx
              rw [List.flatten_append,List.flatten_singleton] at hx
              have hfl:=uniform_len css i4
              rw [hcl,i1] at hfl
              by_cases hi:i < css.flatten.length
              · rw [List.getElem?_append_left hi] at hx
                exact i6 i x hx
              · rw [List.getElem?_append_right (by omega)] at hx
                have:=s4 (i - css.flatten.length) x hx
                rw [← this]
                simp only
                congr 2
                omega
        obtain ⟨l,css,i1,i2,i3,i4,i5,i6⟩:=hrow len (Nat.le_refl _)
        refine ⟨.isl l,by simp only [Fits]; exact ⟨l,rfl,by omega,i2⟩,?_⟩
        simp only [Rc]
        refine ⟨hasRefs_of_mem fun y hy=>Fits_ref s y (i2 y hy),_,rfl,some a,cap,by rw [i1],?_⟩
        rcases i5 with h0 | ⟨h1,h2⟩
        · exact .inl (by omega)
        · obtain ⟨b,off,sp⟩:=a
          simp only at h1
          subst h1
          exact .inr ⟨b,off,css,P.cellsOf e,rfl,h2,by omega,i3,i4,i6⟩
    · cases hs
  | .agg ss,t,fuel,cs,x,hs,h=>by
    simp only [shpOk] at hs
    split at hs
    · rename_i ps hp
      obtain ⟨hl,m,hi⟩:=trod_parts hp h
      obtain ⟨ys,css,h1,h2,h3⟩:=opens_ok ss ps 0 (P.cellsOf t) m cs hs hl hi
      refine ⟨.agg ys,by simp only [Fits]; exact ⟨ys,rfl,h1⟩,?_⟩
      simp only [Rc]
      exact ⟨css,h2,by simpa using h3⟩
    · cases hs
theorem opens_ok:∀ (ss:List Shp) (ps:List (TypeId × Nat)) (off total m:Nat) (cs:List Value),shpsOk P off total ps ss = true → cs.length = total →
    (∀ (i:Nat) (e:TypeId) (o:Nat),ps[i]? = some (e,o) → ∃ y:DataW H × List MemPlace,DataW.trod enc P w base spare held m e ((cs.drop o).take (P.cellsOf e)) = some y) →
    ∃ ys css,Fitss ss ys ∧ Rcl (Cx.init ι w) ys css ∧ cs.drop off = css.flatten
  | [],[],off,total,m,cs,hs,hl,_=>by
    simp only [shpsOk,beq_iff_eq] at hs
    exact ⟨[],[],rfl,rfl,by rw [hs,← hl]; simp⟩
  | [],_ :: _,off,total,m,cs,hs,hl,_=>by simp [shpsOk] at hs
  | _ :: _,[],off,total,m,cs,hs,hl,_=>by simp [shpsOk] at hs
  | s :: ss,(t,o) :: ps,off,total,m,cs,hs,hl,hi=>by
    simp only [shpsOk,Bool.and_eq_true,beq_iff_eq] at hs
    obtain ⟨⟨rfl,h1⟩,h2⟩:=hs
    obtain ⟨y,hy⟩:=hi 0 t o rfl
    obtain ⟨z,z1,z2⟩:=open_ok s t m _ y h1 hy
    obtain ⟨ys,css,e1,e2,e3⟩:=opens_ok ss ps _ total m cs h2 hl fun i e o' he=>hi (i + 1) e o' (by simpa using he)
    refine ⟨z :: ys,_ :: css,by simp only [Fitss]; exact ⟨z,ys,rfl,z1,e1⟩,by simp only [Rcl]; exact ⟨_,css,rfl,z2,e2⟩,?_⟩
    rw [List.flatten_cons,← e3,← List.drop_drop,List.take_append_drop]
end
theorem open_arg {s:Shp} {r:Reach} {b0:Nat} {t:TypeId} {v:Value} {d:DataW H} {ps:List MemPlace} (hs:shpOk P t s = true) (hv:Value.okWide P w r b0 t v)
    (h:DataW.Trod enc P w base spare held t v d ps):∃ y,Fits s y ∧ Rv (Cx.init ι w) y v:=by
  obtain ⟨fuel,hf⟩:=h
  obtain ⟨y,h1,h2⟩:=open_ok (ι:=ι) s t fuel _ _ hs hf
  refine ⟨y,h1,?_⟩
  have hno:∀ (v:Value),vIsA v = false → y.isA = false → Rc (Cx.init ι w) y v.cells.toList → Rv (Cx.init ι w) y v:=fun v h3 h4 h5=>by
    rw [cells_one h3] at h5; exact Rv_one h5 h4 h3
  cases s with
  | int k =>
    simp only [Fits] at h1
    obtain ⟨n,rfl,_⟩:=h1
    simp only [shpOk] at hs
    split at hs
    · rename_i k' hk
      refine hno v ?_ rfl h2
      cases v <;> first | rfl | (simp only [Value.okWide,hk,Cell.okWide,Cell.ok] at hv)
    · cases hs
  | bool =>
    simp only [Fits] at h1
    obtain ⟨n,rfl⟩:=h1
    simp only [shpOk] at hs
    split at hs
    · rename_i hk
      refine hno v ?_ rfl h2
      cases v <;> first | rfl | (simp only [Value.okWide,hk,Cell.okWide,Cell.ok] at hv)
    · cases hs
  | sl s =>
    simp only [Fits] at h1
    obtain ⟨l,rfl,_⟩:=h1
    simp only [shpOk] at hs
    split at hs
    · rename_i e he
      obtain ⟨a,len,cap,rfl⟩:=Go.WideShapes.okWide_slice (sliceB_inv he) hv
      exact hno _ rfl rfl h2
    · cases hs
  | agg ss =>
    simp only [Fits] at h1
    obtain ⟨l,rfl,_⟩:=h1
    simp only [shpOk] at hs
    have:∃ cs,v = .agg cs:=by
      split at hs
      · rename_i ps hp
        unfold partsOf at hp
        split at hp
        · rename_i fs ht
          simp only [Value.okWide,ht] at hv
          obtain ⟨cs,e,_⟩:=hv; exact ⟨cs,e⟩
        · rename_i n e ht
          simp only [Value.okWide,ht] at hv
          obtain ⟨cs,e,_⟩:=hv; exact ⟨cs,e⟩
        · cases hp
      · cases hs
    obtain ⟨cs,rfl⟩:=this
    exact Rv_of h2 rfl
end
theorem law_calls {P:Program} {ι:Nat → FuncId} {pureF:Nat → Bool} {E:CallF} {GP:Nat → Option AFun} (T:Tied P ι pureF E GP) {g:Nat} {xs:List AV} {H':Heap} {b:Bool} {vals:List Value} {W:World}
    (h:call E GP g xs [] = some (.bool true,H',b)) (hr:Rvs (Cx.init ι W) xs vals) (henter:∀ args w,(callFunc (ι g) args).run P w = .ok (.enter (ι g) args) w) :
    Calls P (ι g) vals.toArray W fun e w'=>e = .returned (.bool true) ∧ Below W.heap.size W w':=by
  have hc:=call_sound T g xs [] _ _ _ h W.heap.size (Cx.init ι W) vals rfl (Sim.init ι W) hr
  have hw:(Cx.init ι W).w = W:=rfl
  rw [hw] at hc
  unfold Called at hc
  rw [henter] at hc
  refine Calls.mono hc fun e w' he=>?_
  cases e with
  | returned v =>
    obtain ⟨C',rfl,hst,hv⟩:=he
    exact ⟨by rw [Rv_bool hv],hst.below⟩
  | panicked _=>exact he.elim
  | outgrown=>exact he.elim
end Tor
namespace Tor
open Go
theorem fits_list {S:Shp} {α:Type} {f:α → AV} {Q:α → Prop} (h:∀ y,Fits S y → ∃ p,y = f p ∧ Q p):∀ (l:List AV),(∀ y ∈ l,Fits S y) → ∃ m:List α,l = m.map f ∧ ∀ p ∈ m,Q p
  | [],_=>⟨[],rfl,fun p hp=>by cases hp⟩
  | y :: r,hl=>by
    obtain ⟨p,rfl,hp⟩:=h y (hl y (.head _))
    obtain ⟨m,rfl,hm⟩:=fits_list h r fun z hz=>hl z (.tail _ hz)
    exact ⟨p :: m,rfl,fun q hq=>by
      cases hq with
      | head=>exact hp
      | tail _ hq=>exact hm q hq⟩
end Tor
namespace Tor
open Go
def dS:Shp:=.agg [.int .i8,.int .i8,.int .i8,.int .i8]
theorem fits_gA {y:AV} (h:Fits dS y):∃ p:Dg,y = gA p ∧ p.ok:=by
  simp only [dS,Fits,Fitss] at h
  obtain ⟨l,rfl,x,r,rfl,⟨a,rfl,ha⟩,x2,r2,rfl,⟨b,rfl,hb⟩,x3,r3,rfl,⟨c,rfl,hc⟩,x4,r4,rfl,⟨d,rfl,hd⟩,rfl⟩:=h
  exact ⟨⟨a,b,c,d⟩,rfl,ha,hb,hc,hd⟩
end Tor
namespace Tor
open Go
theorem fits_bA {y:AV} (h:Fits (.int .i8) y):∃ p:Int,y = bA p ∧ (-128 ≤ p ∧ p ≤ 127):=by
  simp only [Fits] at h
  obtain ⟨n,rfl,hn⟩:=h
  exact ⟨n,rfl,hn⟩
end Tor
namespace Tor
open Go
theorem bnd_look (c:List Cel) (hc:∀ id,Canon none (cellOf? c id).b) (k:Int):∀ (x a:List (Int × Int)),Canon none a → lookL k (x.foldl (bndF c) a) = lookL k a + lin (fun i=>lookL k (cellOf? c i).b) x
  | [],a,_=>by simp [lin]
  | p :: r,a,h=>by
    obtain ⟨h1,h2⟩:=add_law p.2 (cellOf? c p.1).b a h
    rw [List.foldl_cons,bnd_look c hc k r (bndF c a p) h1,show bndF c a p = add26 a (cellOf? c p.1).b p.2 from rfl,h2,tot_canon k _ none (hc p.1)]
    simp only [lin]; omega
theorem bnd_lin (c:List Cel) (f:Int → Int):∀ (x a:List (Int × Int)),lin f (x.foldl (bndF c) a) = lin f a + lin (fun i=>lin f (cellOf? c i).b) x
  | [],a=>by simp [lin]
  | p :: r,a=>by
    rw [List.foldl_cons,bnd_lin c f r]
    unfold bndF
    rw [lin_add]
    simp only [lin]; omega
theorem lin_zero {f:Int → Int}:∀ {x:List (Int × Int)},(∀ p ∈ x,f p.1 = 0) → lin f x = 0
  | [],_=>rfl
  | p :: r,h=>by simp only [lin]; rw [h p (.head _),lin_zero (fun q hq=>h q (.tail _ hq))]; simp
theorem canon_zero {l:List (Int × Int)} (h:Canon none l) (hz:∀ k,lookL k l = 0):l = [] :=
  canon_ext l [] none none h trivial fun k=>by rw [hz]; rfl
theorem dim_of {c:List Cel} {s:GS} {m:Nat} (g:Good c s m) {k:Int} {x:List (Int × Int)} (hx:∀ p ∈ x,p.1 ∈ cellsC c k):dim26 c x = (if x = [] then -1 else k,0):=by
  have hf:∀ p ∈ x,(findC c p.1).isSome = true ∧ (cellOf? c p.1).dim = k:=fun p hp=>by
    obtain ⟨y,hy,hd,hid⟩:=cells_mem.1 (hx p hp)
    rw [← hid]
    exact ⟨by rw [find_mem g.ids hy]; rfl,by rw [cellC_mem g.ids hy]; exact hd⟩
  unfold dim26
  rw [dim_all c k x true (-1) false (fun p hp=>(hf p hp).1) (fun p hp=>(hf p hp).2) (.inl rfl)]
  rfl
theorem cn_of {c:List Cel} {s:GS} {m:Nat} (g:Good c s m) (id:Int):Canon none (cellOf? c id).b:=by
  unfold cellOf?
  cases hf:findC c id with
  | none=>trivial
  | some y=>exact g.cn y (List.mem_of_find?_eq_some hf)
theorem bnd_down {c:List Cel} {s:GS} {m:Nat} (g:Good c s m) {k:Int} {x:List (Int × Int)} (hx:∀ p ∈ x,p.1 ∈ cellsC c k):∀ p ∈ bnd26 c x,p.1 ∈ cellsC c (k - 1) :=
  bnd_keys c (· ∈ cellsC c (k - 1)) x [] (fun p hp q hq=>by
    obtain ⟨y,hy,hd,hid⟩:=cells_mem.1 (hx p hp)
    rw [← hid,cellC_mem g.ids hy] at hq
    have:=g.key y hy q hq
    rw [hd] at this; exact this) (fun p hp=>by cases hp)
theorem bnd_bnd {c:List Cel} {s:GS} {m:Nat} (g:Good c s m) {k:Int} {x:List (Int × Int)} (hx:∀ p ∈ x,p.1 ∈ cellsC c k):bnd26 c (bnd26 c x) = []:=by
  refine canon_zero (bnd_canon c _) fun id=>?_
  unfold bnd26
  rw [bnd_look c (cn_of g) id _ [] trivial,bnd_lin]
  have:lin (fun i=>lin (fun i=>lookL id (cellOf? c i).b) (cellOf? c i).b) x = 0:=lin_zero fun p hp=>by
    obtain ⟨y,hy,hd,hid⟩:=cells_mem.1 (hx p hp)
    rw [← hid,cellC_mem g.ids hy]
    exact g.bb y hy id
  rw [this]; rfl
theorem bnd_one {c:List Cel} {s:GS} {m:Nat} (g:Good c s m) {y:Cel} (hy:y ∈ c):bnd26 c [(y.id,1)] = y.b:=by
  refine canon_ext _ _ none none (bnd_canon c _) (g.cn y hy) fun k=>?_
  unfold bnd26
  rw [bnd_look c (cn_of g) k _ [] trivial]
  simp [lookL,lin,cellC_mem g.ids hy]
end Tor
namespace Tor
open Go
class Fl {α:Type} (e:α → AV) where
  d:Nat
  s:Nat
  ref:∀ x,(e x).hasRef = false
  sol:∀ x,(e x).solid = true
  fz:∀ n H k x,fz n H (k + d) (e x) = e x
  sz:∀ x,(e x).size = s
section
variable {α:Type} {e:α → AV} [F:Fl e]
theorem fl_ref:∀ l:List α,AV.hasRefs (l.map e) = false
  | []=>rfl
  | x :: r=>by simp only [List.map_cons,AV.hasRefs,F.ref,fl_ref r,Bool.or_self]
theorem fl_sol:∀ l:List α,AV.solids (l.map e) = true
  | []=>rfl
  | x :: r=>by simp only [List.map_cons,AV.solids,F.sol,fl_sol r,Bool.and_self]
theorem fl_fz {n H k} {l:List α} (h:Fl.d e ≤ k):(l.map e).map (fz n H k) = l.map e:=by
  obtain ⟨j,rfl⟩:=Nat.exists_eq_add_of_le' h
  rw [List.map_map]; apply List.map_congr_left; intro y _; exact F.fz n H j y
theorem fl_hd {s:Nat} {l:List α} (h:s = Fl.s e):headSize s (l.map e) = true:=by
  subst h
  cases l with
  | nil=>rfl
  | cons x r=>simp [headSize,F.sz]
end
theorem gM {α:Type} {f:α → AV} {l:List α} {i:Nat} (h:i < l.length):(l.map f)[i]? = some (f l[i]):=by simp [h]
theorem w64 {n:Int} (h:-9223372036854775808 ≤ n ∧ n ≤ 9223372036854775807):IntKind.i64.wrap n = n:=i64w h
instance flfA:Fl fA where
  d:=3
  s:=3
  ref:=fA_ref
  sol p:=by simp [fA,AV.solid,AV.solids,Z_solid]
  fz n H k p:=fz_fA n H k p
  sz p:=by simp [fA,AV.size,AV.sizes,Z_size]
instance flcA:Fl cA where
  d:=6
  s:=3
  ref:=cA_ref
  sol x:=by simp [cA,AV.solid,AV.solids,refs_fA,solids_fA]
  fz:=fz_cA
  sz x:=by simp [cA,AV.size,AV.sizes]
instance fliA:Fl iA where
  d:=1
  s:=1
  ref _:=rfl
  sol _:=rfl
  fz _ _ _ _:=rfl
  sz _:=rfl
instance flbA:Fl bA where
  d:=1
  s:=1
  ref _:=rfl
  sol _:=rfl
  fz _ _ _ _:=rfl
  sz _:=rfl
def mA (p:Int × List (Int × Int)):AV:=.agg [.int .i64 p.1,.isl (p.2.map fA)]
instance flmA:Fl mA where
  d:=2
  s:=2
  ref p:=by simp [mA,AV.hasRef,AV.hasRefs]
  sol p:=by simp [mA,AV.solid,AV.solids,refs_fA,solids_fA]
  fz n H k p:=by simp only [mA,fz,List.map_cons,List.map_nil]
  sz p:=by simp [mA,AV.size,AV.sizes]
theorem loop_ind {E:CallF} {GP:Nat → Option AFun} {l:AIR} (S:Nat → St) (r:Option (Ex × St)):∀ n,(∀ i,i < n → run E GP l (S i) = run E GP l (S (i + 1))) → run E GP l (S n) = r → run E GP l (S 0) = r
  | 0,_,h=>h
  | n + 1,hs,h=>loop_ind S r n (fun i hi=>hs i (by omega)) ((hs n (by omega)).trans h)
theorem sf:type_of% (And.intro (And.intro (And.intro (@fl_ref) (@fl_sol)) (And.intro (@fl_fz) (@fl_hd))) (And.intro (And.intro (@gM) (@w64)) (And.intro (@Int.ofNat_lt) (@Int.natCast_add)))):=And.intro (And.intro (And.intro (@fl_ref) (@fl_sol)) (And.intro (@fl_fz) (@fl_hd))) (And.intro (And.intro (@gM) (@w64)) (And.intro (@Int.ofNat_lt) (@Int.natCast_add)))
end Tor
namespace Tor
open Go
abbrev Mp:=List (Int × List (Int × Int))
def findM (m:Mp) (id:Int):Option (List (Int × Int)):=(m.find? fun p=>decide (p.1 = id)).map (·.2)
def imgF (m:Mp) (id:Int):List (Int × Int):=(findM m id).getD []
variable {E:CallF} (hE:Free E)
include hE
def fst242 (m:Mp) (id:Int) (i:Nat) (w5:AV):St:={ vars:=[.isl (m.map mA),.int .i64 id,.isl [],.bool false,.int .i64 (i:Nat),w5,.u],heap:=[],rs:=false }
theorem find242_loop (m:Mp) (id:Int) (hm:m.length < 2147483648):∀ (n i:Nat),m.length = i + n →
    (findM (m.drop i) id = none → run E GP a242l0 (fst242 m id i .u) = some (.exit 0,fst242 m id m.length (.bool false))) ∧
    (∀ y,findM (m.drop i) id = some y → ∃ w4,run E GP a242l0 (fst242 m id i .u) = some (.ret,{ vars:=[.isl (m.map mA),.int .i64 id,.isl (y.map fA),.bool true,w4,.bool true,.bool true],heap:=[],rs:=false })):=by
  intro n
  induction n with
  | zero =>
    intro i h
    have hi:i = m.length:=by omega
    subst hi
    rw [List.drop_length]
    refine ⟨fun _=>?_,fun y hy=>by cases hy⟩
    unfold fst242
    rw [a242l0_run]
    simp (maxSteps:=1000000) (disch:=first | omega | decide) only [si,sf,simprocAttr,a242b0,a242R,Nat.lt_irrefl]
  | succ n ih =>
    intro i h
    have hi:i < m.length:=by omega
    obtain ⟨ih1,ih2⟩:=ih (i + 1) (by omega)
    rw [List.drop_eq_getElem_cons hi]
    have e1:∀ r,findM (m[i] :: r) id = if m[i].1 = id then some m[i].2 else findM r id:=fun r=>by
      unfold findM
      by_cases hq:m[i].1 = id <;> simp [hq]
    rw [e1]
    by_cases hq:m[i].1 = id
    · rw [if_pos hq]
      refine ⟨fun h=>(by cases h),fun y hy=>?_⟩
      cases hy
      refine ⟨.int .i64 i,?_⟩
      unfold fst242
      rw [a242l0_run]
      simp (maxSteps:=1000000) (disch:=first | omega | decide) only [si,sf,simprocAttr,a242b0,a242R,hi,mA,hq]
    · rw [if_neg hq]
      have key:run E GP a242l0 (fst242 m id i .u) = run E GP a242l0 (fst242 m id (i + 1) .u):=by
        unfold fst242
        conv=>lhs; rw [a242l0_run]
        simp (maxSteps:=1000000) (disch:=first | omega | decide) only [si,sf,simprocAttr,a242b0,a242R,hi,mA,hq]
      rw [key]
      exact ⟨ih1,ih2⟩
theorem r29_find (m:Mp) (id:Int) (hm:m.length < 2147483648) (H:Heap) :
    call E GP 242 [.isl (m.map mA),.int .i64 id] H = some (.tup [.isl ((imgF m id).map fA),.bool (findM m id).isSome],H,false):=by
  rw [call_fun (hE _ _ _ (by decide)) (f:=a242) rfl rfl]
  obtain ⟨h1,h2⟩:=find242_loop hE m id hm m.length 0 (by omega)
  unfold fst242 at h1 h2
  simp only [List.drop_zero,Int.ofNat_zero] at h1 h2
  unfold imgF
  cases hf:findM m id with
  | none =>
    have h1:=h1 hf
    simp only [Option.getD_none,Option.isSome_none,List.map_nil]
    simp (maxSteps:=1000000) (disch:=first | omega | decide) only [si,sf,simprocAttr,a242,a242R,h1]
  | some y =>
    obtain ⟨w,h2⟩:=h2 y hf
    simp only [Option.getD_some,Option.isSome_some]
    simp (maxSteps:=1000000) (disch:=first | omega | decide) only [si,sf,simprocAttr,a242,a242R,h2]
omit hE in
theorem first_bad (P:Nat → Prop):∀ n,(∀ i,i < n → P i) ∨ ∃ j,j < n ∧ ¬ P j ∧ ∀ i,i < j → P i
  | 0=>.inl fun i h=>by omega
  | n + 1=>by
    rcases first_bad P n with h | ⟨j,h1,h2,h3⟩
    · by_cases hn:P n
      · exact .inl fun i hi=>by
          by_cases e:i = n
          · subst e; exact hn
          · exact h i (by omega)
      · exact .inr ⟨n,by omega,hn,h⟩
    · exact .inr ⟨j,by omega,h2,h3⟩
def appF (F:Int → List (Int × Int)) (x:List (Int × Int)):List (Int × Int):=x.foldl (fun a p=>add26 a (F p.1) p.2) []
omit hE in
theorem appF_succ (F:Int → List (Int × Int)) {x:List (Int × Int)} {i:Nat} (hi:i < x.length):appF F (x.take (i + 1)) = add26 (appF F (x.take i)) (F x[i].1) x[i].2:=by
  unfold appF
  rw [List.take_succ_eq_append_getElem hi,List.foldl_append]; rfl
omit hE in
theorem appF_bd (F:Int → List (Int × Int)) (A N L:Nat) (hF:∀ id,Bd N (F id) ∧ (F id).length ≤ L):∀ (x a:List (Int × Int)) (M K:Nat),(∀ p ∈ x,p.2.natAbs ≤ A) → Bd M a → a.length ≤ K →
    Bd (M + A * N * L * x.length) (x.foldl (fun a p=>add26 a (F p.1) p.2) a) ∧ (x.foldl (fun a p=>add26 a (F p.1) p.2) a).length ≤ K + L * x.length
  | [],a,M,K,_,h1,h2=>by simpa using ⟨h1,h2⟩
  | p :: r,a,M,K,hx,h1,h2=>by
    obtain ⟨n1,n2⟩:=hF p.1
    have hp:∀ q ∈ F p.1,(p.2 * q.2).natAbs ≤ A * N:=fun q hq=>by
      rw [Int.natAbs_mul]; exact Nat.mul_le_mul (hx p (.head _)) (n1 q hq)
    obtain ⟨b1,b2⟩:=add_bd p.2 (F p.1) a M hp h1
    have hL:A * N * (F p.1).length ≤ A * N * L:=Nat.mul_le_mul_left _ n2
    obtain ⟨c1,c2⟩:=appF_bd F A N L hF r _ (M + A * N * L) (K + L) (fun q hq=>hx q (.tail _ hq)) (bd_mono (by omega) b1) (by omega)
    rw [List.foldl_cons,List.length_cons,Nat.mul_succ,Nat.mul_succ]
    exact ⟨bd_mono (by omega) c1,by omega⟩
theorem r29_apply (m:Mp) (x:List (Int × Int)) (A N L:Nat) (hm:m.length < 2147483648) (hxl:x.length < 100000) (hx:∀ p ∈ x,p.2.natAbs ≤ A) (hF:∀ id,Bd N (imgF m id) ∧ (imgF m id).length ≤ L) (hL:L < 10000)
    (hA:A < BIG) (hN:N < BIG) (hB:A * N * (L + 1) * (x.length + 1) < BIG) (H:Heap) :
    call E GP 243 [.isl (m.map mA),.isl (x.map fA)] H = some (if (∀ p ∈ x,(findM m p.1).isSome = true) then .tup [.isl ((appF (imgF m) x).map fA),.int .i64 0] else .tup [.isl [],.int .i64 290],H,false):=by
  rw [call_fun (hE _ _ _ (by decide)) (f:=a243) rfl rfl]
  have hfind:=fun id H=>r29_find hE m id hm H
  let S:Nat → St:=fun i=>{ vars:=[.isl (m.map mA),.isl (x.map fA),.isl [],.int .i64 0,.isl ((appF (imgF m) (x.take i)).map fA),.int .i64 (i:Nat),.u,.u,.u,.u],heap:=[],rs:=false }
  have hstep:∀ i,i < x.length → (∀ hi:i < x.length,(findM m x[i].1).isSome = true) → run E GP a243l0 (S i) = run E GP a243l0 (S (i + 1)):=by
    intro i hi hs
    have hs:=hs hi
    have hxi:=hx x[i] (List.getElem_mem hi)
    obtain ⟨n1,n2⟩:=hF x[i].1
    have lt:(x.take i).length = i:=by simp; omega
    obtain ⟨b1,b2⟩:=appF_bd (imgF m) A N L hF (x.take i) [] 0 0 (fun p hp=>hx p (List.mem_of_mem_take hp)) (fun p hp=>by cases hp) (Nat.le_refl _)
    rw [lt] at b1 b2
    have q1:A * N * (L + 1) * (x.length + 1) = A * N * (L + 1) * x.length + A * N * (L + 1):=Nat.mul_succ _ _
    have q2:A * N * L * i ≤ A * N * (L + 1) * x.length:=Nat.mul_le_mul (Nat.mul_le_mul_left _ (by omega)) (by omega)
    have q3:A * N * ((imgF m x[i].1).length + 1) ≤ A * N * (L + 1):=Nat.mul_le_mul_left _ (by omega)
    have q4:L * i ≤ 10000 * 100000:=Nat.mul_le_mul (by omega) (by omega)
    have hadd:=fun H=>r26_add hE (appF (imgF m) (x.take i)) (imgF m x[i].1) x[i].2 _ (A * N) b1 (sm_of hA (by simpa using hxi)) (fun p hp=>sm_of hN (n1 p hp)) (fun q hq=>by rw [Int.natAbs_mul]; exact Nat.mul_le_mul hxi (n1 q hq)) (by unfold appF; omega) (by omega) (by omega) H
    rw [← appF_succ _ hi] at hadd
    have hfi:=hfind x[i].1
    rw [hs] at hfi
    show run E GP a243l0 { vars:=_,heap:=_,rs:=_ } = run E GP a243l0 { vars:=_,heap:=_,rs:=_ }
    generalize imgF m x[i].1 = y at *
    generalize appF (imgF m) (x.take (i + 1)) = a2 at *
    generalize appF (imgF m) (x.take i) = a1 at *
    conv=>lhs; rw [a243l0_run]
    simp (maxSteps:=1000000) (disch:=first | omega | decide) only [si,sf,simprocAttr,a243b0,a243R,hi,fA,hfi,hadd]
  rcases first_bad (fun i=>∀ hi:i < x.length,(findM m x[i].1).isSome = true) x.length with hall | ⟨j,hj,hbad,hbefore⟩
  · have hp:∀ p ∈ x,(findM m p.1).isSome = true:=fun p hp=>by
      obtain ⟨i,hi,rfl⟩:=List.getElem_of_mem hp
      exact hall i hi hi
    rw [if_pos hp]
    have hl:=loop_ind S _ x.length (fun i hi=>hstep i hi (hall i hi)) rfl
    have he:run E GP a243l0 (S x.length) = some (.exit 0,{ vars:=[.isl (m.map mA),.isl (x.map fA),.isl [],.int .i64 0,.isl ((appF (imgF m) x).map fA),.int .i64 x.length,.u,.u,.bool false,.u],heap:=[],rs:=false }):=by
      show run E GP a243l0 { vars:=_,heap:=_,rs:=_ } = _
      rw [List.take_length]
      rw [a243l0_run]
      simp (maxSteps:=1000000) (disch:=first | omega | decide) only [si,sf,simprocAttr,a243b0,a243R,Nat.lt_irrefl]
    rw [he] at hl
    have hl:run E GP a243l0 { vars:=[.isl (m.map mA),.isl (x.map fA),.isl [],.int .i64 0,.isl [],.int .i64 0,.u,.u,.u,.u],heap:=[],rs:=false } = _:=hl
    simp (maxSteps:=1000000) (disch:=first | omega | decide) only [si,sf,simprocAttr,a243,a243R,hl]
  · have hnp:¬ ∀ p ∈ x,(findM m p.1).isSome = true:=fun h=>hbad fun hi=>h _ (List.getElem_mem hi)
    rw [if_neg hnp]
    have hl:=loop_ind S _ j (fun i hi=>hstep i (by omega) (hbefore i hi)) rfl
    have hfi:=hfind x[j].1
    have hno:(findM m x[j].1).isSome = false:=by
      cases h:(findM m x[j].1).isSome with
      | false=>rfl
      | true=>exact absurd (fun _=>h) hbad
    rw [hno] at hfi
    have he:∃ w1 w2,run E GP a243l0 (S j) = some (.ret,{ vars:=[.isl (m.map mA),.isl (x.map fA),.isl [],.int .i64 290,w1,.int .i64 j,w2,.bool false,.bool true,.bool true],heap:=[],rs:=false }):=by
      show ∃ w1 w2,run E GP a243l0 { vars:=_,heap:=_,rs:=_ } = _
      generalize imgF m x[j].1 = y at *
      generalize appF (imgF m) (x.take j) = a1 at *
      rw [a243l0_run]
      refine ⟨.isl (a1.map fA),.isl (y.map fA),?_⟩
      simp (maxSteps:=1000000) (disch:=first | omega | decide) only [si,sf,simprocAttr,a243b0,a243R,hj,fA,hfi]
    obtain ⟨w1,w2,he⟩:=he
    rw [he] at hl
    have hl:run E GP a243l0 { vars:=[.isl (m.map mA),.isl (x.map fA),.isl [],.int .i64 0,.isl [],.int .i64 0,.u,.u,.u,.u],heap:=[],rs:=false } = _:=hl
    simp (maxSteps:=1000000) (disch:=first | omega | decide) only [si,sf,simprocAttr,a243,a243R,hl]
end Tor
namespace Tor
open Go
def idsC (c:List Cel):List Int:=c.map (·.id)
structure GC (S:List Int) (u:Nat) (x:List (Int × Int)):Prop where
  can:Canon none x
  bd:Bd (2 ^ u) x
  key:∀ p ∈ x,p.1 ∈ S
theorem canon_lt:∀ (x:List (Int × Int)) (b:Option Int),Canon b x → (∀ p ∈ x,∀ m,b = some m → m < p.1) ∧ (x.map (·.1)).Pairwise (· < ·)
  | [],b,_=>⟨fun p hp=>(by cases hp),.nil⟩
  | (j,v) :: r,b,h=>by
    obtain ⟨h1,h2⟩:=canon_lt r (some j) h.2.2
    refine ⟨fun p hp m hm=>?_,List.pairwise_cons.2 ⟨fun k hk=>?_,h2⟩⟩
    · have:=h.1 m hm
      cases hp with
      | head=>exact this
      | tail _ hp=>have:=h1 p hp j rfl; omega
    · obtain ⟨p,hp,rfl⟩:=List.mem_map.1 hk
      exact h1 p hp j rfl
theorem sub_len:∀ (l S:List Int),l.Nodup → (∀ k ∈ l,k ∈ S) → l.length ≤ S.length
  | [],_,_,_=>Nat.zero_le _
  | k :: r,S,h,hs=>by
    obtain ⟨h1,h2⟩:=List.nodup_cons.1 h
    have hk:=hs k (.head _)
    have:=sub_len r (S.erase k) h2 fun j hj=>(List.mem_erase_of_ne (fun e=>h1 (by rw [← e]; exact hj))).2 (hs j (.tail _ hj))
    rw [List.length_erase_of_mem hk] at this
    have:=List.length_pos_of_mem hk
    simp only [List.length_cons]; omega
theorem GC.len {S u x} (h:GC S u x):x.length ≤ S.length:=by
  have h1:=(canon_lt x none h.can).2
  have h2:(x.map (·.1)).Nodup:=h1.imp fun h=>by omega
  have:=sub_len (x.map (·.1)) S h2 fun k hk=>by
    obtain ⟨p,hp,rfl⟩:=List.mem_map.1 hk
    exact h.key p hp
  simpa using this
theorem GC.mono {S u v x} (h:GC S u x) (huv:u ≤ v):GC S v x:=⟨h.can,fun p hp=>Nat.le_trans (h.bd p hp) (Nat.pow_le_pow_right (by decide) huv),h.key⟩
theorem GC.sub {S S' u x} (h:GC S u x) (hs:∀ k ∈ S,k ∈ S'):GC S' u x:=⟨h.can,h.bd,fun p hp=>hs _ (h.key p hp)⟩
theorem GC.nil {S u}:GC S u []:=⟨trivial,fun p hp=>(by cases hp),fun p hp=>(by cases hp)⟩
theorem GC.one {S:List Int} {u:Nat} {k n:Int} (hk:k ∈ S) (hn:n ≠ 0) (hb:n.natAbs ≤ 2 ^ u):GC S u [(k,n)] :=
  ⟨⟨fun m hm=>(by cases hm),hn,trivial⟩,fun p hp=>(by rw [List.mem_singleton] at hp; subst hp; exact hb),fun p hp=>(by rw [List.mem_singleton] at hp; subst hp; exact hk)⟩
theorem pow_le {a b:Nat} (h:a ≤ b):2 ^ a ≤ 2 ^ b:=Nat.pow_le_pow_right (by decide) h
theorem pow5_big {a:Nat} (h:a ≤ 15000000000):2 ^ a < BIG:=Nat.lt_of_lt_of_le (Nat.pow_lt_pow_right (by decide) (Nat.lt_succ_self a)) (two_big (by omega))
theorem GC.sm {S u x} (h:GC S u x) (hu:u ≤ 15000000000):∀ p ∈ x,Sm p:=fun p hp=>sm_of (pow5_big hu) (h.bd p hp)
theorem GC.ch {S u x L} (h:GC S u x) (hS:S.length ≤ L) (hi:∀ k ∈ S,in64 k = true):Ch (2 ^ u) L x:=⟨h.can,h.bd,Nat.le_trans h.len hS,fun p hp=>hi _ (h.key p hp)⟩
theorem gadd {S:List Int} {s t r u:Nat} {a b:List (Int × Int)} {n:Int} (hS:S.length ≤ 11) (ha:GC S s a) (hb:GC S t b) (hn:n.natAbs ≤ 2 ^ r) (h1:s + 1 ≤ u) (h2:r + t + 5 ≤ u) (hu:u ≤ 15000000000) :
    (∀ (E:CallF),Free E → ∀ H,call E GP 16 [.isl (a.map fA),.isl (b.map fA),Z n] H = some (.isl ((add26 a b n).map fA),H,false)) ∧ GC S u (add26 a b n):=by
  have hp:∀ p ∈ b,(n * p.2).natAbs ≤ 2 ^ (r + t):=fun p hp=>by
    rw [Int.natAbs_mul,Nat.pow_add]; exact Nat.mul_le_mul hn (hb.bd p hp)
  have lb:=hb.len
  have la:=ha.len
  have e1:2 ^ (r + t) * (b.length + 1) ≤ 2 ^ (r + t) * 16:=Nat.mul_le_mul_left _ (by omega)
  have e3:2 ^ (r + t + 5) = 2 ^ (r + t) * 32:=by rw [Nat.pow_add 2 (r + t) 5]
  have e4:2 ^ s + 2 ^ s = 2 ^ (s + 1):=by rw [Nat.pow_succ]; omega
  have e5:=pow_le h1
  have e6:=pow_le h2
  have e7:2 ^ (r + t) * b.length ≤ 2 ^ (r + t) * 16:=Nat.mul_le_mul_left _ (by omega)
  refine ⟨fun E hE H=>r26_add hE a b n _ (2 ^ (r + t)) ha.bd (sm_of (pow5_big (a:=r) (by omega)) (by simpa using hn)) (hb.sm (by omega)) hp (by omega) (by omega) (by have:=pow5_big hu; omega) H,?_⟩
  obtain ⟨b1,_⟩:=add_bd n b a (2 ^ s) hp ha.bd
  exact ⟨(add_law n b a ha.can).1,bd_mono (by omega) b1,add_keys n b a hb.key ha.key⟩
theorem gapp {S S':List Int} {F:Int → List (Int × Int)} {s t u:Nat} {x:List (Int × Int)} (hS:S.length ≤ 11) (hS':S'.length ≤ 11) (hx:GC S' s x) (hF:∀ id,GC S t (F id)) (h1:s + t + 7 ≤ u) :
    GC S u (appF F x):=by
  obtain ⟨b1,_⟩:=appF_bd F (2 ^ s) (2 ^ t) 11 (fun id=>⟨(hF id).bd,Nat.le_trans (hF id).len hS⟩) x [] 0 0 hx.bd (fun p hp=>by cases hp) (Nat.le_refl _)
  have lx:=hx.len
  have e1:2 ^ s * 2 ^ t * 11 * x.length ≤ 2 ^ s * 2 ^ t * 11 * 11:=Nat.mul_le_mul_left _ (by omega)
  have e2:2 ^ s * 2 ^ t * 11 * 11 ≤ 2 ^ (s + t + 7):=by
    rw [Nat.pow_add,Nat.pow_add,Nat.mul_assoc]; exact Nat.mul_le_mul_left _ (by decide)
  have e3:=pow_le h1
  have hc:∀ (x a:List (Int × Int)),Canon none a → (∀ p ∈ a,p.1 ∈ S) → Canon none (x.foldl (fun a p=>add26 a (F p.1) p.2) a) ∧ ∀ p ∈ x.foldl (fun a p=>add26 a (F p.1) p.2) a,p.1 ∈ S:=by
    intro x
    induction x with
    | nil=>exact fun a h1 h2=>⟨h1,h2⟩
    | cons p r ih=>exact fun a h1 h2=>ih _ (add_law p.2 (F p.1) a h1).1 (add_keys p.2 (F p.1) a (hF p.1).key h2)
  obtain ⟨c1,c2⟩:=hc x [] trivial (fun p hp=>by cases hp)
  exact ⟨c1,bd_mono (by omega) b1,c2⟩
theorem app_canon (F:Int → List (Int × Int)) (x:List (Int × Int)):Canon none (appF F x):=by
  have hc:∀ (x a:List (Int × Int)),Canon none a → Canon none (x.foldl (fun a p=>add26 a (F p.1) p.2) a):=by
    intro x
    induction x with
    | nil=>exact fun a h1=>h1
    | cons p r ih=>exact fun a h1=>ih _ (add_law p.2 (F p.1) a h1).1
  exact hc x [] trivial
theorem app_lin (f:Int → Int) (F:Int → List (Int × Int)):∀ (x a:List (Int × Int)),lin f (x.foldl (fun a p=>add26 a (F p.1) p.2) a) = lin f a + lin (fun i=>lin f (F i)) x
  | [],a=>by simp [lin]
  | p :: r,a=>by
    rw [List.foldl_cons,app_lin f F r,lin_add]
    simp only [lin]; omega
variable {E:CallF} (hE:Free E)
include hE
theorem r29_image (m:Mp) (x:List (Int × Int)) (A N L:Nat) (hm:m.length < 2147483648) (hxl:x.length < 100000) (hx:∀ p ∈ x,p.2.natAbs ≤ A) (hF:∀ id,Bd N (imgF m id) ∧ (imgF m id).length ≤ L) (hL:L < 10000)
    (hA:A < BIG) (hN:N < BIG) (hB:A * N * (L + 1) * (x.length + 1) < BIG) (hall:∀ p ∈ x,(findM m p.1).isSome = true) (H:Heap) :
    call E GP 221 [.isl (m.map mA),.isl (x.map fA)] H = some (.isl ((appF (imgF m) x).map fA),H,false):=by
  rw [call_fun (hE _ _ _ (by decide)) (f:=a221) rfl rfl]
  have h:=fun H=>r29_apply hE m x A N L hm hxl hx hF hL hA hN hB H
  rw [if_pos hall] at h
  generalize appF (imgF m) x = y at *
  simp (maxSteps:=1000000) (disch:=first | omega | decide) only [si,sf,simprocAttr,a221,a221R,h]
theorem r26_scale {S:List Int} {t r:Nat} {b:List (Int × Int)} {n:Int} (hS:S.length ≤ 11) (hb:GC S t b) (hn:n.natAbs ≤ 2 ^ r) (hu:r + t ≤ 14000000000) (H:Heap) :
    call E GP 246 [.isl (b.map fA),Z n] H = some (.isl ((add26 [] b n).map fA),H,false):=by
  rw [call_fun (hE _ _ _ (by decide)) (f:=a246) rfl rfl]
  have h:=(gadd hS (GC.nil (u:=0)) hb hn (u:=r + t + 5) (by omega) (by omega) (by omega)).1 E hE
  simp only [List.map_nil] at h
  generalize add26 [] b n = y at *
  simp (maxSteps:=1000000) (disch:=first | omega | decide) only [si,sf,simprocAttr,a246,a246R,h]
theorem r26_edge {c:List Cel} {x y:List (Int × Int)} {e:Int} (h:∀ H,call E GP 7 [.isl (c.map cA),.isl (x.map fA)] H = some (.tup [.isl (y.map fA),.int .i64 e],H,false)) (H:Heap) :
    call E GP 244 [.isl (c.map cA),.isl (x.map fA)] H = some (.isl (y.map fA),H,false):=by
  rw [call_fun (hE _ _ _ (by decide)) (f:=a244) rfl rfl]
  simp (maxSteps:=1000000) (disch:=first | omega | decide) only [si,sf,simprocAttr,a244,a244R,h]
end Tor
namespace Tor
open Go
def coefR (l:List Int) (i j:Nat):Int:=(l.getD ((i + 3 * j) % l.length) 0).tmod 3
def raiseN (ids l:List Int) (i n:Nat):List (Int × Int):=(List.range n).foldl (fun a j=>add26 a [(ids.getD j 0,1)] (coefR l i j)) []
def upIds (c:List Cel) (i:Nat):List Int:=cellsC c ((c.getD i zC).dim + 1)
def raise (c:List Cel) (l:List Int) (i:Nat):List (Int × Int):=if l = [] then [] else raiseN (upIds c i) l i (upIds c i).length
theorem raiseN_succ (ids l:List Int) (i n:Nat):raiseN ids l i (n + 1) = add26 (raiseN ids l i n) [(ids.getD n 0,1)] (coefR l i n):=by
  unfold raiseN; rw [List.range_succ,List.foldl_append]; rfl
theorem coefR_bd (l:List Int) (i j:Nat):-2 ≤ coefR l i j ∧ coefR l i j ≤ 2:=by
  unfold coefR
  have t1:=Int.tmod_lt_of_pos (l.getD ((i + 3 * j) % l.length) 0) (show (0:Int) < 3 by omega)
  have t2:=Int.lt_tmod_of_pos (l.getD ((i + 3 * j) % l.length) 0) (show (0:Int) < 3 by omega)
  omega
theorem raiseN_gc {S ids:List Int} (hS:S.length ≤ 11) (hid:∀ k ∈ ids,k ∈ S) (l:List Int) (i:Nat):∀ n,n ≤ ids.length → n ≤ 1000 → GC S (6 + n) (raiseN ids l i n)
  | 0,_,_=>GC.nil
  | n + 1,h,h2=>by
    rw [raiseN_succ]
    have hc:=coefR_bd l i n
    have hk:ids.getD n 0 ∈ S:=hid _ (by simp [List.getD,show n < ids.length by omega])
    exact (gadd hS (raiseN_gc hS hid l i n (by omega) (by omega)) (GC.one (u:=0) hk (n:=1) (by decide) (by decide)) (r:=1) (by omega) (by omega) (by omega) (by omega)).2
theorem raiseN_key (ids l:List Int) (i:Nat):∀ n,n ≤ ids.length → ∀ p ∈ raiseN ids l i n,p.1 ∈ ids
  | 0,_=>fun p hp=>(by cases hp)
  | n + 1,h=>by
    rw [raiseN_succ]
    refine add_keys _ _ _ (fun p hp=>?_) (raiseN_key ids l i n (by omega))
    rw [List.mem_singleton] at hp; subst hp
    simp [List.getD,show n < ids.length by omega]
theorem cells_ids {c:List Cel} {k:Int}:∀ x ∈ cellsC c k,x ∈ idsC c:=fun x hx=>by
  obtain ⟨y,hy,_,rfl⟩:=cells_mem.1 hx
  exact List.mem_map_of_mem hy
theorem raise_gc {c:List Cel} (hc:c.length ≤ 11) (l:List Int) (i:Nat):GC (idsC c) 17 (raise c l i):=by
  unfold raise
  split
  · exact GC.nil
  · have h:(upIds c i).length ≤ c.length:=cellsC_len c ((c.getD i zC).dim + 1)
    exact (raiseN_gc (ids:=upIds c i) (by simpa [idsC] using hc) (fun k hk=>cells_ids k hk) l i (upIds c i).length (Nat.le_refl _) (by omega)).mono (by omega)
theorem raise_key (c:List Cel) (l:List Int) (i:Nat):∀ p ∈ raise c l i,p.1 ∈ upIds c i:=by
  unfold raise
  split
  · exact fun p hp=>(by cases hp)
  · exact raiseN_key _ l i _ (Nat.le_refl _)
variable {E:CallF} (hE:Free E)
include hE
theorem r29_raised (c:List Cel) (hc:c.length ≤ 11) (hd:∀ x ∈ c,0 ≤ x.dim ∧ x.dim ≤ 3) (l:List Int) (hl:l.length ≤ 9223372036854775807) (hl8:∀ x ∈ l,-128 ≤ x ∧ x ≤ 127) (i:Nat) (hi:i < c.length) (H:Heap) :
    call E GP 255 [.isl (c.map cA),.int .i64 i,.isl (l.map bA)] H = some (.isl ((raise c l i).map fA),H,false):=by
  rw [call_fun (hE _ _ _ (by decide)) (f:=a255) rfl rfl]
  have hcells:=fun H=>r25_cells hE c (c[i].dim + 1) (by omega) H
  have hdi:=hd c[i] (List.getElem_mem hi)
  have hup:upIds c i = cellsC c (c[i].dim + 1):=by unfold upIds; simp [List.getD,hi]
  rw [← hup] at hcells
  have hlen:(upIds c i).length ≤ 11:=by have:=cellsC_len c ((c.getD i zC).dim + 1); unfold upIds; omega
  have hsub:∀ k ∈ upIds c i,k ∈ idsC c:=fun k hk=>cells_ids k hk
  by_cases hl0:l = []
  · subst hl0
    have hr:raise c [] i = []:=rfl
    rw [hr]
    generalize upIds c i = ids at *
    have h0:run E GP a255l0 { vars:=[.isl (c.map cA),.int .i64 i,.isl [],.isl [],.isl [],.isl (ids.map iA),.int .i64 0,.u,.u,cA c[i]],heap:=[],rs:=false } = some (.exit 0,{ vars:=[.isl (c.map cA),.int .i64 i,.isl [],.isl [],.isl [],.isl (ids.map iA),.int .i64 0,.u,.bool false,cA c[i]],heap:=[],rs:=false }):=by
      rw [a255l0_run]
      by_cases hq:0 < ids.length
      · have hq':(0:Int) < (ids.length:Int):=by omega
        simp (maxSteps:=1000000) (disch:=first | omega | decide) only [si,sf,simprocAttr,a255b0,a255R,hq',cA]
      · have hq':¬ (0:Int) < (ids.length:Int):=by omega
        simp (maxSteps:=1000000) (disch:=first | omega | decide) only [si,sf,simprocAttr,a255b0,a255R,hq',cA]
    simp only [cA] at h0
    simp (maxSteps:=1000000) (disch:=first | omega | decide) only [si,sf,simprocAttr,a255,a255R,hi,cA,hcells,h0,List.map_nil]
  · have hlp:0 < l.length:=List.length_pos_iff.2 hl0
    have hr:raise c l i = raiseN (upIds c i) l i (upIds c i).length:=by unfold raise; rw [if_neg hl0]
    rw [hr]
    generalize hg:upIds c i = ids at *
    let S:Nat → St:=fun j=>{ vars:=[.isl (c.map cA),.int .i64 i,.isl (l.map bA),.isl [],.isl ((raiseN ids l i j).map fA),.isl (ids.map iA),.int .i64 (j:Nat),.u,.u,cA c[i]],heap:=[],rs:=false }
    have hstep:∀ j,j < ids.length → run E GP a255l0 (S j) = run E GP a255l0 (S (j + 1)):=by
      intro j hj
      have g0:=raiseN_gc (S:=idsC c) (by simpa [idsC] using hc) hsub l i j (by omega) (by omega)
      have hk:ids[j] ∈ idsC c:=hsub _ (List.getElem_mem hj)
      have hcf:=coefR_bd l i j
      have hadd:=(gadd (by simpa [idsC] using hc) g0 (GC.one (u:=0) hk (n:=1) (by decide) (by decide)) (n:=coefR l i j) (r:=1) (by omega) (u:=7 + j) (by omega) (by omega) (by omega)).1 E hE
      have e0:ids.getD j 0 = ids[j]:=by simp [List.getD,hj]
      rw [← e0,← raiseN_succ,e0] at hadd
      simp only [List.map_cons,List.map_nil,fA] at hadd
      have hm:(i + 3 * j) % l.length < l.length:=Nat.mod_lt _ hlp
      have hmod:((i:Int) + 3 * (j:Int)).tmod (l.length:Int) = (((i + 3 * j) % l.length:Nat):Int):=by
        rw [Int.tmod_eq_emod_of_nonneg (by omega)]; push_cast; rfl
      have hne:¬ ((l.length:Int) = 0):=by omega
      have hcf':coefR l i j = (l[(i + 3 * j) % l.length]).tmod 3:=by unfold coefR; simp [List.getD,hm]
      rw [hcf'] at hadd hcf
      have ho1:=fun H=>r1_of hE 1 H (by omega) (by omega)
      have ho2:=fun H=>r1_of hE ((l[(i + 3 * j) % l.length]).tmod 3) H (by omega) (by omega)
      have hlp':(l.length:Int) > 0:=by omega
      show run E GP a255l0 { vars:=_,heap:=_,rs:=_ } = run E GP a255l0 { vars:=_,heap:=_,rs:=_ }
      generalize raiseN ids l i j = a1 at *
      generalize raiseN ids l i (j + 1) = a2 at *
      have w3:IntKind.i64.wrap (3 * (j:Int)) = 3 * (j:Int):=i64w (by omega)
      have w4:IntKind.i64.wrap ((i:Int) + 3 * (j:Int)) = (i:Int) + 3 * (j:Int):=i64w (by omega)
      have w5:IntKind.i64.wrap ((l[(i + 3 * j) % l.length]).tmod 3) = (l[(i + 3 * j) % l.length]).tmod 3:=i64w (by omega)
      conv=>lhs; rw [a255l0_run]
      simp (maxSteps:=1000000) (disch:=first | omega | decide) only [si,sf,simprocAttr,a255b0,a255R,hj,hm,hlp',hne,hmod,w3,w4,w5,ho1,ho2,hadd,bA,iA,cA]
    have hl:=loop_ind S _ ids.length hstep rfl
    have he:run E GP a255l0 (S ids.length) = some (.exit 0,{ vars:=[.isl (c.map cA),.int .i64 i,.isl (l.map bA),.isl [],.isl ((raiseN ids l i ids.length).map fA),.isl (ids.map iA),.int .i64 ids.length,.u,.bool false,cA c[i]],heap:=[],rs:=false }):=by
      show run E GP a255l0 { vars:=_,heap:=_,rs:=_ } = _
      rw [a255l0_run]
      simp (maxSteps:=1000000) (disch:=first | omega | decide) only [si,sf,simprocAttr,a255b0,a255R,Nat.lt_irrefl,cA]
    rw [he] at hl
    have hl:run E GP a255l0 { vars:=[.isl (c.map cA),.int .i64 i,.isl (l.map bA),.isl [],.isl [],.isl (ids.map iA),.int .i64 0,.u,.u,cA c[i]],heap:=[],rs:=false } = _:=hl
    simp only [cA] at hl
    simp (maxSteps:=1000000) (disch:=first | omega | decide) only [si,sf,simprocAttr,a255,a255R,hi,cA,hcells,hl]
def liftI (c:List Cel) (l:List Int) (i:Nat) (x a:List (Int × Int)):List (Int × Int):=x.foldl (fun a p=>if p.1 = (c.getD i zC).id then add26 a (raise c l i) p.2 else a) a
def liftN (c:List Cel) (l:List Int) (x:List (Int × Int)) (n:Nat):List (Int × Int):=(List.range n).foldl (fun a i=>liftI c l i x a) []
def lift (c:List Cel) (l:List Int) (x:List (Int × Int)):List (Int × Int):=liftN c l x c.length
omit hE in
theorem liftN_succ (c:List Cel) (l:List Int) (x:List (Int × Int)) (n:Nat):liftN c l x (n + 1) = liftI c l n x (liftN c l x n):=by
  unfold liftN; rw [List.range_succ,List.foldl_append]; rfl
omit hE in
theorem liftI_succ (c:List Cel) (l:List Int) (i:Nat) {x:List (Int × Int)} (a:List (Int × Int)) {j:Nat} (hj:j < x.length) :
    liftI c l i (x.take (j + 1)) a = if x[j].1 = (c.getD i zC).id then add26 (liftI c l i (x.take j) a) (raise c l i) x[j].2 else liftI c l i (x.take j) a:=by
  unfold liftI; rw [List.take_succ_eq_append_getElem hj,List.foldl_append]; rfl
omit hE in
theorem liftI_gc {c:List Cel} (hc:c.length ≤ 11) (l:List Int) (i:Nat) {r u:Nat} (hu:u + 2000 ≤ 15000000000) (hr:r + 22 ≤ u) {a:List (Int × Int)} (ha:GC (idsC c) u a):∀ (x:List (Int × Int)),Bd (2 ^ r) x → x.length ≤ 1000 → GC (idsC c) (u + x.length) (liftI c l i x a):=by
  have key:∀ (x:List (Int × Int)) (v:Nat) (a:List (Int × Int)),v + x.length ≤ 15000000000 → r + 22 ≤ v → GC (idsC c) v a → Bd (2 ^ r) x → GC (idsC c) (v + x.length) (liftI c l i x a):=by
    intro x
    induction x with
    | nil=>intro v a _ _ ha _; exact ha
    | cons p q ih =>
      intro v a hv hr ha hx
      simp only [List.length_cons] at hv
      have:v + (p :: q).length = v + 1 + q.length:=by simp only [List.length_cons]; omega
      rw [this]
      have hq:Bd (2 ^ r) q:=fun y hy=>hx y (.tail _ hy)
      show GC (idsC c) (v + 1 + q.length) (liftI c l i q (if p.1 = (c.getD i zC).id then add26 a (raise c l i) p.2 else a))
      refine ih (v + 1) _ (by omega) (by omega) ?_ hq
      split
      · exact (gadd (by simpa [idsC] using hc) ha (raise_gc hc l i) (hx p (.head _)) (by omega) (by omega) (by omega)).2
      · exact ha.mono (by omega)
  exact fun x hx hl=>key x u a (by omega) hr ha hx
omit hE in
theorem liftN_gc {c:List Cel} (hc:c.length ≤ 11) (l:List Int) {r:Nat} (hr:r ≤ 14000000000) {x:List (Int × Int)} (hx:Bd (2 ^ r) x) (hxl:x.length ≤ 1000):∀ n,n ≤ 11 → GC (idsC c) (r + 22 + n * x.length) (liftN c l x n)
  | 0,_=>GC.nil
  | n + 1,h=>by
    have ih:=liftN_gc hc l hr hx hxl n (by omega)
    have hb:n * x.length ≤ 11 * 1000:=Nat.mul_le_mul (by omega) hxl
    rw [liftN_succ,Nat.succ_mul,← Nat.add_assoc]
    exact liftI_gc hc l n (r:=r) (by omega) (by omega) ih x hx hxl
theorem r29_lifted (c:List Cel) (hc:c.length ≤ 11) (hd:∀ x ∈ c,0 ≤ x.dim ∧ x.dim ≤ 3) (l:List Int) (hl:l.length ≤ 9223372036854775807) (hl8:∀ x ∈ l,-128 ≤ x ∧ x ≤ 127) {r:Nat} (hr:r ≤ 14000000000) (x:List (Int × Int)) (hx:Bd (2 ^ r) x) (hxl:x.length ≤ 1000) (H:Heap) :
    call E GP 247 [.isl (c.map cA),.isl (x.map fA),.isl (l.map bA)] H = some (.isl ((lift c l x).map fA),H,false):=by
  rw [call_fun (hE _ _ _ (by decide)) (f:=a247) rfl rfl]
  let S:Nat → St:=fun i=>{ vars:=[.isl (c.map cA),.isl (x.map fA),.isl (l.map bA),.isl [],.isl ((liftN c l x i).map fA),.int .i64 (i:Nat),.u,.u,.u,.u],heap:=[],rs:=false }
  have hstep:∀ i,i < c.length → run E GP a247l0 (S i) = run E GP a247l0 (S (i + 1)):=by
    intro i hi
    have g0:=liftN_gc hc l hr hx hxl i (by omega)
    have hb:i * x.length ≤ 11 * 1000:=Nat.mul_le_mul (by omega) hxl
    have hra:=fun H=>r29_raised hE c hc hd l hl hl8 i hi H
    let T:Nat → St:=fun j=>{ vars:=[.isl (c.map cA),.isl (x.map fA),.isl (l.map bA),.isl [],.isl ((liftI c l i (x.take j) (liftN c l x i)).map fA),.int .i64 (i:Nat),.int .i64 (j:Nat),.bool true,.u,.u],heap:=[],rs:=false }
    have eid:(c.getD i zC).id = c[i].id:=by simp [List.getD,hi]
    have tstep:∀ j,j < x.length → run E GP a247l1 (T j) = run E GP a247l1 (T (j + 1)):=by
      intro j hj
      have lt:(x.take j).length = j:=by simp; omega
      have g1:=liftI_gc hc l i (r:=r) (by omega) (by omega) g0 (x.take j) (fun p hp=>hx p (List.mem_of_mem_take hp)) (by omega)
      have hadd:=(gadd (by simpa [idsC] using hc) g1 (raise_gc hc l i) (hx x[j] (List.getElem_mem hj)) (Nat.le_succ _) (by omega) (by omega)).1 E hE
      have es:=liftI_succ c l i (liftN c l x i) hj
      rw [eid] at es
      show run E GP a247l1 { vars:=_,heap:=_,rs:=_ } = run E GP a247l1 { vars:=_,heap:=_,rs:=_ }
      by_cases hq:x[j].1 = c[i].id
      · rw [if_pos hq] at es
        rw [← es] at hadd
        generalize liftI c l i (x.take (j + 1)) (liftN c l x i) = a2 at *
        generalize liftI c l i (x.take j) (liftN c l x i) = a1 at *
        generalize raise c l i = q at *
        conv=>lhs; rw [a247l1_run]
        simp (maxSteps:=1000000) (disch:=first | omega | decide) only [si,sf,simprocAttr,a247b1,a247R,hi,hj,hra,hadd,fA,cA,hq]
      · rw [if_neg hq] at es
        rw [es]
        generalize liftI c l i (x.take j) (liftN c l x i) = a1 at *
        conv=>lhs; rw [a247l1_run]
        simp (maxSteps:=1000000) (disch:=first | omega | decide) only [si,sf,simprocAttr,a247b1,a247R,hi,hj,fA,cA,hq]
    have tl:=loop_ind T _ x.length tstep rfl
    have te:run E GP a247l1 (T x.length) = some (.exit 2,{ vars:=[.isl (c.map cA),.isl (x.map fA),.isl (l.map bA),.isl [],.isl ((liftN c l x (i + 1)).map fA),.int .i64 (i:Nat),.int .i64 x.length,.bool true,.bool false,.u],heap:=[],rs:=false }):=by
      show run E GP a247l1 { vars:=_,heap:=_,rs:=_ } = _
      rw [List.take_length,← liftN_succ]
      rw [a247l1_run]
      simp (maxSteps:=1000000) (disch:=first | omega | decide) only [si,sf,simprocAttr,a247b1,a247R,Nat.lt_irrefl]
    rw [te] at tl
    have tl:run E GP a247l1 { vars:=[.isl (c.map cA),.isl (x.map fA),.isl (l.map bA),.isl [],.isl ((liftN c l x i).map fA),.int .i64 (i:Nat),.int .i64 0,.bool true,.u,.u],heap:=[],rs:=false } = _:=tl
    show run E GP a247l0 { vars:=_,heap:=_,rs:=_ } = run E GP a247l0 { vars:=_,heap:=_,rs:=_ }
    generalize liftN c l x (i + 1) = a2 at *
    generalize liftN c l x i = a1 at *
    conv=>lhs; rw [a247l0_run]
    simp (maxSteps:=1000000) (disch:=first | omega | decide) only [si,sf,simprocAttr,a247b0,a247R,hi,tl]
  have hl:=loop_ind S _ c.length hstep rfl
  have he:run E GP a247l0 (S c.length) = some (.exit 0,{ vars:=[.isl (c.map cA),.isl (x.map fA),.isl (l.map bA),.isl [],.isl ((lift c l x).map fA),.int .i64 c.length,.u,.bool false,.u,.u],heap:=[],rs:=false }):=by
    show run E GP a247l0 { vars:=_,heap:=_,rs:=_ } = _
    rw [show liftN c l x c.length = lift c l x from rfl]
    rw [a247l0_run]
    simp (maxSteps:=1000000) (disch:=first | omega | decide) only [si,sf,simprocAttr,a247b0,a247R,Nat.lt_irrefl]
  rw [he] at hl
  have hl:run E GP a247l0 { vars:=[.isl (c.map cA),.isl (x.map fA),.isl (l.map bA),.isl [],.isl [],.int .i64 0,.u,.u,.u,.u],heap:=[],rs:=false } = _:=hl
  simp (maxSteps:=1000000) (disch:=first | omega | decide) only [si,sf,simprocAttr,a247,a247R,hl]
end Tor
namespace Tor
open Go
def homC (c:List Cel) (l:List Int) (n:Int) (i:Nat):List (Int × Int) :=
  add26 (add26 (add26 [] [((c.getD i zC).id,1)] n) (bz c (lift c l [((c.getD i zC).id,1)])) 1) (lift c l (c.getD i zC).b) 1
def homI (c:List Cel) (l:List Int) (n:Int) (i:Nat):Int × List (Int × Int):=((c.getD i zC).id,homC c l n i)
def hom (c:List Cel) (l:List Int) (n:Int):Mp:=(List.range c.length).map (homI c l n)
theorem Good.len11 {c s m} (g:Good c s m) (hm:m ≤ 11):(idsC c).length ≤ 11:=by have:=g.len; simp [idsC]; omega
theorem Good.ids64 {c s m} (g:Good c s m) (hm:m ≤ 11):∀ k ∈ idsC c,in64 k = true:=fun k hk=>by
  obtain ⟨x,hx,rfl⟩:=List.mem_map.1 hk
  have:=g.idr x hx
  simp [in64]; omega
theorem Good.bgc {c s m e} (g:Good c s m) (he:∀ k,s.b k ≤ e) {x:Cel} (hx:x ∈ c):GC (idsC c) e x.b :=
  ⟨g.cn x hx,fun p hp=>Nat.le_trans (g.bd x hx p hp) (pow_le (he _)),fun p hp=>cells_ids _ (g.key x hx p hp)⟩
theorem lift_gc {c:List Cel} (hc:c.length ≤ 11) (l:List Int) {r:Nat} (hr:r ≤ 14000000000) {S:List Int} (hS:S.length ≤ 11) {x:List (Int × Int)} (hx:GC S r x):GC (idsC c) (r + 143) (lift c l x):=by
  have:=hx.len
  have h:=liftN_gc hc l hr hx.bd (by omega) c.length hc
  have hb:c.length * x.length ≤ 11 * 11:=Nat.mul_le_mul hc (by omega)
  exact h.mono (by omega)
theorem bz_gc {c s m e} (g:Good c s m) (hm:m ≤ 11) (he:∀ k,s.b k ≤ e) {u:Nat} {x:List (Int × Int)} (hx:GC (idsC c) u x) (hu:e + u ≤ 14000000000) :
    (∀ H,call E1 GP 7 [.isl (c.map cA),.isl (x.map fA)] H = some (.tup [.isl ((bz c x).map fA),.int .i64 (dim26 c x).2],H,false)) ∧ GC (idsC c) (e + u + 11) (bz c x):=by
  have hl:=g.len11 hm
  have b7:=good_b7 g (by omega) he (hx.ch hl (g.ids64 hm)) (e2:=u) (Nat.le_refl _) (by omega) (by omega)
  have cd:=good_ch g (by omega) he (hx.ch hl (g.ids64 hm)) (e2:=u) (Nat.le_refl _) (by omega) (by omega)
  refine ⟨b7,cd.can,fun p hp=>Nat.le_trans (cd.bd p hp) ?_,?_⟩
  · have e1:2 ^ (e + u + 11) = 2 ^ u * 2 ^ e * 2048:=by rw [Nat.pow_add,Nat.pow_add,Nat.mul_comm (2 ^ e)]
    rw [e1,Nat.mul_assoc (2 ^ u * 2 ^ e)]
    exact Nat.mul_le_mul_left _ (by decide)
  · unfold bz
    split
    · refine bnd_keys c (· ∈ idsC c) x [] (fun p hp q hq=>?_) (fun p hp=>by cases hp)
      obtain ⟨y,hy,hid⟩:=List.mem_map.1 (hx.key p hp)
      rw [← hid,cellC_mem g.ids hy] at hq
      exact cells_ids _ (g.key y hy q hq)
    · exact fun p hp=>(by cases hp)
theorem hom_gc {c s m e} (g:Good c s m) (hm:m ≤ 11) (he:∀ k,s.b k ≤ e) (hee:e ≤ 1000000000) (l:List Int) {n:Int} (hn:-3 ≤ n ∧ n ≤ 3) {i:Nat} (hi:i < c.length) :
    GC (idsC c) (e + 170) (homC c l n i):=by
  have hl:=g.len11 hm
  have hc:c.length ≤ 11:=by have:=g.len; omega
  have hci:c.getD i zC ∈ c:=by simp [List.getD,hi]
  have hid:(c.getD i zC).id ∈ idsC c:=List.mem_map_of_mem hci
  have g1:GC (idsC c) 0 [((c.getD i zC).id,1)]:=GC.one hid (by decide) (by decide)
  have a1:=(gadd hl (GC.nil (u:=0)) g1 (n:=n) (r:=2) (by omega) (u:=7) (by omega) (by omega) (by omega)).2
  have l1:=lift_gc hc l (by omega) hl g1
  have b1:=(bz_gc g hm he l1 (by omega)).2
  have a2:=(gadd hl a1 b1 (n:=1) (r:=0) (by decide) (u:=e + 160) (by omega) (by omega) (by omega)).2
  have l2:=lift_gc hc l (by omega) hl (g.bgc he hci)
  exact (gadd hl a2 l2 (n:=1) (r:=0) (by decide) (u:=e + 170) (by omega) (by omega) (by omega)).2
theorem r29_hom {c s m e} (g:Good c s m) (hm:m ≤ 11) (he:∀ k,s.b k ≤ e) (hee:e ≤ 1000000000) (l:List Int) (hl:l.length ≤ 9223372036854775807) (hl8:∀ x ∈ l,-128 ≤ x ∧ x ≤ 127) {n:Int} (hn:-3 ≤ n ∧ n ≤ 3) (H:Heap) :
    call E1 GP 233 [.isl (c.map cA),.int .i64 n,.isl (l.map bA)] H = some (.isl ((hom c l n).map mA),H,false):=by
  rw [call_fun (free1 _ _ _ (by decide)) (f:=a233) rfl rfl]
  have hl11:=g.len11 hm
  have hc:c.length ≤ 11:=by have:=g.len; omega
  have hd:∀ x ∈ c,0 ≤ x.dim ∧ x.dim ≤ 3:=g.dims
  let W:Nat → List AV:=fun i=>((List.range i).map (homI c l n)).map mA
  have hW:∀ i,(W i).length = i:=fun i=>by simp [W]
  have hWr:∀ i,AV.hasRefs (W i) = false:=fun i=>fl_ref _
  have hWs:∀ i,AV.solids (W i) = true:=fun i=>fl_sol _
  have hWz:∀ i n H k,2 ≤ k → (W i).map (fz n H k) = W i:=fun i n H k hk=>fl_fz (e:=mA) hk
  let S:Nat → St:=fun i=>{ vars:=[.isl (c.map cA),.int .i64 n,.isl (l.map bA),.isl [],.sl 0 i 2 0 i,.int .i64 (i:Nat),.u,.u,.u],heap:=[.arr i 2 (W i)],rs:=false }
  have hstep:∀ i,i < c.length → run E1 GP a233l0 (S i) = run E1 GP a233l0 (S (i + 1)):=by
    intro i hi
    have hci:c.getD i zC ∈ c:=by simp [List.getD,hi]
    have eci:c.getD i zC = c[i]:=by simp [List.getD,hi]
    have hid:(c.getD i zC).id ∈ idsC c:=List.mem_map_of_mem hci
    have g1:GC (idsC c) 0 [((c.getD i zC).id,1)]:=GC.one hid (by decide) (by decide)
    have f1:=fun H=>r26_scale free1 hl11 g1 (n:=n) (r:=2) (by omega) (by omega) H
    have a1:=(gadd hl11 (GC.nil (u:=0)) g1 (n:=n) (r:=2) (by omega) (u:=7) (by omega) (by omega) (by omega)).2
    have f2:=fun H=>r29_lifted free1 c hc hd l hl hl8 (r:=0) (by omega) _ g1.bd (by simp) H
    have l1:=lift_gc hc l (by omega) hl11 g1
    obtain ⟨f3,b1⟩:=bz_gc g hm he l1 (by omega)
    have f3:=fun H=>r26_edge free1 f3 H
    obtain ⟨f4,a2⟩:=gadd hl11 a1 b1 (n:=1) (r:=0) (by decide) (u:=e + 160) (by omega) (by omega) (by omega)
    have f4:=f4 E1 free1
    have gb:=g.bgc he hci
    have f5:=fun H=>r29_lifted free1 c hc hd l hl hl8 (r:=e) (by omega) _ gb.bd (by have:=gb.len; omega) H
    have l2:=lift_gc hc l (by omega) hl11 gb
    have f6:=(gadd hl11 a2 l2 (n:=1) (r:=0) (by decide) (u:=e + 170) (by omega) (by omega) (by omega)).1 E1 free1
    have eW:W (i + 1) = W i ++ [.agg [.int .i64 c[i].id,.isl ((homC c l n i).map fA)]]:=by
      simp only [W,List.range_succ,List.map_append,List.map_cons,List.map_nil,homI,mA,eci]
    have hwi:=hW i
    have hh:homC c l n i = add26 (add26 (add26 [] [((c.getD i zC).id,1)] n) (bz c (lift c l [((c.getD i zC).id,1)])) 1) (lift c l (c.getD i zC).b) 1:=rfl
    rw [← hh] at f6
    rw [eci] at f1 f2 f3 f4 f5 f6
    have ho1:=fun H=>r1_of free1 1 H (by omega) (by omega)
    have hon:=fun H=>r1_of free1 n H (by omega) (by omega)
    have hm1:i + 1 ≤ 4294967296:=by omega
    show run E1 GP a233l0 { vars:=_,heap:=_,rs:=_ } = run E1 GP a233l0 { vars:=_,heap:=_,rs:=_ }
    rw [eW]
    generalize homC c l n i = y at *
    generalize lift c l c[i].b = y1 at *
    generalize add26 (add26 [] [(c[i].id,1)] n) (bz c (lift c l [(c[i].id,1)])) 1 = y2 at *
    generalize bz c (lift c l [(c[i].id,1)]) = y3 at *
    generalize lift c l [(c[i].id,1)] = y4 at *
    generalize add26 [] [(c[i].id,1)] n = y5 at *
    generalize W i = V at *
    simp only [List.map_cons,List.map_nil,fA] at f1 f2
    conv=>lhs; rw [a233l0_run]
    simp (maxSteps:=1000000) (disch:=first | omega | decide) only [si,sf,simprocAttr,a233b0,a233R,hi,cA,ho1,hon,f1,f2,f3,f4,f5,f6,hwi,hm1,maxLenA]
  have hl:=loop_ind S _ c.length hstep rfl
  have he:run E1 GP a233l0 (S c.length) = some (.exit 0,{ vars:=[.isl (c.map cA),.int .i64 n,.isl (l.map bA),.isl [],.sl 0 c.length 2 0 c.length,.int .i64 c.length,.u,.u,.bool false],heap:=[.arr c.length 2 (W c.length)],rs:=false }):=by
    show run E1 GP a233l0 { vars:=_,heap:=_,rs:=_ } = _
    rw [a233l0_run]
    simp (maxSteps:=1000000) (disch:=first | omega | decide) only [si,sf,simprocAttr,a233b0,a233R,Nat.lt_irrefl]
  rw [he] at hl
  have h0:S 0 = { vars:=[.isl (c.map cA),.int .i64 n,.isl (l.map bA),.isl [],.sl 0 0 2 0 0,.int .i64 0,.u,.u,.u],heap:=[.arr 0 2 []],rs:=false }:=rfl
  rw [h0] at hl
  have hwl:=hW c.length
  have hwr:=hWr c.length
  have hws:=hWs c.length
  have hwz:=fun n H=>hWz c.length n H 7 (by omega)
  rw [show (hom c l n).map mA = W c.length from rfl]
  generalize W c.length = V at *
  have htk:V.take c.length = V:=List.take_of_length_le (by omega)
  have hlv:c.length ≤ V.length:=by omega
  simp (maxSteps:=1000000) (disch:=first | omega | decide) only [si,sf,simprocAttr,a233,a233R,hl,hwl,hwr,hws,hwz,htk,hlv,Nat.le_refl]
end Tor
namespace Tor
open Go
def rawA (k:Nat) (ds:List Dg) (a:Nat) (n:Int) (l:List Int):AV:=.agg [.agg [.int .u8 k,.isl (ds.map gA)],.int .u8 a,.int .i8 n,.isl (l.map bA)]
theorem r29_made (k:Nat) (hk:k < 256) (ds:List Dg) (hds:∀ x ∈ ds,x.ok) (hdl:ds.length ≤ 9223372036854775807) (a:Nat) (ha:a < 256) (N:Int) (hN:-128 ≤ N ∧ N ≤ 127) (l:List Int) (hl:l.length ≤ 9223372036854775807) (hl8:∀ x ∈ l,-128 ≤ x ∧ x ≤ 127) :
    ∃ c s m n s2 m2,Good c s m ∧ m ≤ 11 ∧ s.fin = true ∧ n ≤ c.length ∧ Good (c.take n) s2 m2 ∧ m2 ≤ 11 ∧ s2.fin = true ∧
      ∀ H,call E1 GP 212 [rawA k ds a N l] H = some (.tup [.isl ((c.take n).map cA),.isl (c.map cA),.isl (((hom c l (N.tmod 4)).take n).map mA)],H,false):=by
  obtain ⟨c,s,m,g,hm,hf,hpre,hmade⟩:=r26_made2 k hk ds hds
  obtain ⟨e,e1,e2⟩:=fin_e hf
  have hlen:=g.len
  have t1:=Int.tmod_lt_of_pos N (show (0:Int) < 4 by omega)
  have t2:=Int.lt_tmod_of_pos N (show (0:Int) < 4 by omega)
  have hhom:=fun H=>r29_hom g hm e2 e1 l hl hl8 (n:=N.tmod 4) (by omega) H
  have wN:IntKind.i64.wrap (N.tmod 4) = N.tmod 4:=i64w (by omega)
  have wa:IntKind.i64.wrap (a:Int) = a:=i64w (by omega)
  have ta:(a:Int).tmod 3 = ((a % 3:Nat):Int):=by rw [Int.tmod_eq_emod_of_nonneg (by omega)]; push_cast; rfl
  have ha3:a % 3 < 3:=Nat.mod_lt _ (by decide)
  generalize a % 3 = t at *
  obtain ⟨n,hn1,hn2,hgood⟩:∃ n:Nat,n ≤ c.length ∧ (if ((c.length:Int) - t < (c.length:Int) - ds.length ∨ (c.length:Int) - t < 0) then n = c.length else (n:Int) = (c.length:Int) - t) ∧ ∃ s2 m2,Good (c.take n) s2 m2 ∧ m2 ≤ 11 ∧ s2.fin = true:=by
    split
    · refine ⟨c.length,Nat.le_refl _,rfl,?_⟩
      have:=hpre 0 (Nat.zero_le _) (by omega)
      rwa [Nat.sub_zero] at this
    · exact ⟨c.length - t,by omega,by omega,hpre t (by omega) (by omega)⟩
  obtain ⟨s2,m2,q1,q2,q3⟩:=hgood
  refine ⟨c,s,m,n,s2,m2,g,hm,hf,hn1,q1,q2,q3,fun H=>?_⟩
  rw [call_fun (free1 _ _ _ (by decide)) (f:=a212) rfl rfl]
  have hh:(hom c l (N.tmod 4)).length = c.length:=by simp [hom]
  have hrd:=refs_gA ds
  have tk1:List.take n (c.map cA) = (c.take n).map cA:=(List.map_take ..).symm
  generalize hom c l (N.tmod 4) = M at *
  have tk2:List.take n (M.map mA) = (M.take n).map mA:=(List.map_take ..).symm
  have hnM:(n:Int) ≤ (M.length:Int):=by omega
  have hnc:(n:Int) ≤ (c.length:Int):=by omega
  have hu:∀ x:AV,x = .agg [.agg [.int .u8 k,.isl (ds.map gA)],.int .u8 a,.int .i8 N,.isl (l.map bA)] → x.hasRef = false:=fun x hx=>by subst hx; simp [AV.hasRef,AV.hasRefs]
  unfold rawA
  by_cases h1:(c.length:Int) - t < (c.length:Int) - ds.length
  · rw [if_pos (.inl h1)] at hn2
    subst hn2
    simp (maxSteps:=1000000) (disch:=first | omega | decide) only [si,sf,simprocAttr,doBox,bxOf,a212,a212R,hmade,wa,ta,wN,h1,hhom,tk1,tk2,hnM,hnc,hh,hrd]
  · by_cases h2:(c.length:Int) - t < 0
    · rw [if_pos (.inr h2)] at hn2
      subst hn2
      simp (maxSteps:=1000000) (disch:=first | omega | decide) only [si,sf,simprocAttr,doBox,bxOf,a212,a212R,hmade,wa,ta,wN,h1,h2,hhom,tk1,tk2,hnM,hnc,hh,hrd]
    · rw [if_neg (by omega)] at hn2
      rw [← hn2] at h1 h2
      simp (maxSteps:=1000000) (disch:=first | omega | decide) only [si,sf,simprocAttr,doBox,bxOf,a212,a212R,hmade,wa,ta,wN,h1,h2,hhom,← hn2,tk1,tk2,hnM,hnc,hh,hrd]
end Tor
namespace Tor
open Go
variable {E:CallF} (hE:Free E)
include hE
theorem i_cmp (m n:Int) (H:Heap) (hm:(limbs m.natAbs).length < 2147483648) (hn:(limbs n.natAbs).length < 2147483648):call E GP 168 [Z m,Z n] H = some (.int .i64 (cmp3 m n),H,false):=by
  rw [call_fun (hE _ _ _ (by decide)) (f:=a168) rfl rfl]
  have c1:=fun H=>i_compare hE m.natAbs n.natAbs H hm hn
  have c2:=fun H=>i_compare hE n.natAbs m.natAbs H hn hm
  unfold Z
  by_cases h1:m < 0
  · by_cases h2:n < 0
    · have e:cmp3 (n.natAbs:Nat) (m.natAbs:Nat) = cmp3 m n:=by unfold cmp3; split <;> split <;> (try split) <;> (try split) <;> omega
      rw [e] at c2
      simp (maxSteps:=1000000) (disch:=first | omega | decide) only [si,sf,simprocAttr,a168,a168R,h1,h2,c2]
    · have e:cmp3 m n = -1:=by unfold cmp3; rw [if_pos (by omega)]
      rw [e]
      simp (maxSteps:=1000000) (disch:=first | omega | decide) only [si,sf,simprocAttr,a168,a168R,h1,h2]
  · by_cases h2:n < 0
    · have e:cmp3 m n = 1:=by unfold cmp3; rw [if_neg (by omega),if_pos (by omega)]
      rw [e]
      simp (maxSteps:=1000000) (disch:=first | omega | decide) only [si,sf,simprocAttr,a168,a168R,h1,h2]
    · have e:cmp3 (m.natAbs:Nat) (n.natAbs:Nat) = cmp3 m n:=by unfold cmp3; split <;> split <;> (try split) <;> (try split) <;> omega
      rw [e] at c1
      simp (maxSteps:=1000000) (disch:=first | omega | decide) only [si,sf,simprocAttr,a168,a168R,h1,h2,c1]
omit hE in
theorem cmp3_zero (m n:Int):cmp3 m n = 0 ↔ m = n:=by unfold cmp3; split <;> (try split) <;> omega
theorem same1 (p q:Int × Int) (hp:Sm p) (hq:Sm q) (H:Heap):call E GP 248 [fA p,fA q] H = some (.bool (decide (p = q)),H,false):=by
  rw [call_fun (hE _ _ _ (by decide)) (f:=a248) rfl rfl]
  have hc:=fun H=>i_cmp hE p.2 q.2 H (by unfold Sm at hp; omega) (by unfold Sm at hq; omega)
  by_cases hpq:p = q
  · subst hpq
    have e:(cmp3 p.2 p.2) = 0:=(cmp3_zero _ _).2 rfl
    rw [e] at hc
    unfold fA
    simp (maxSteps:=1000000) (disch:=first | omega | decide) only [si,sf,simprocAttr,a248,a248R,hc]
  · unfold fA
    by_cases h1:p.1 = q.1
    · have h2:¬ p.2 = q.2:=fun h=>hpq (Prod.ext h1 h)
      have e:¬ cmp3 p.2 q.2 = 0:=fun h=>h2 ((cmp3_zero _ _).1 h)
      simp (maxSteps:=1000000) (disch:=first | omega | decide) only [si,sf,simprocAttr,a248,a248R,h1,hc,e,hpq]
    · simp (maxSteps:=1000000) (disch:=first | omega | decide) only [si,sf,simprocAttr,a248,a248R,h1,hpq]
theorem eq249 (a b:List (Int × Int)) (ha:∀ p ∈ a,Sm p) (hb:∀ p ∈ b,Sm p) (hs:a.length < 2147483648) (H:Heap) :
    call E GP 249 [.isl (a.map fA),.isl (b.map fA),.fn 248 []] H = some (.bool (decide (a = b)),H,false):=by
  rw [call_fun (hE _ _ _ (by decide)) (f:=a249) rfl rfl]
  by_cases hl:a.length = b.length
  case neg =>
    have e:¬ a = b:=fun h=>hl (by rw [h])
    have hl':¬ ((a.length:Int) = (b.length:Int)):=by omega
    simp (maxSteps:=1000000) (disch:=first | omega | decide) only [si,sf,simprocAttr,a249,a249R,hl',e]
  have hl':((a.length:Int) = (b.length:Int)):=by omega
  have hs1:=fun i (hi:i < a.length) (hj:i < b.length) H=>same1 hE a[i] b[i] (ha _ (List.getElem_mem hi)) (hb _ (List.getElem_mem hj)) H
  let S:Nat → St:=fun i=>{ vars:=[.isl (a.map fA),.isl (b.map fA),.fn 248 [],.bool false,.u,.bool false,.isl (a.map fA),.int .i64 a.length,.int .i64 (i:Nat),.u,.u,.u,.u],heap:=[],rs:=false }
  have hstep:∀ i,i < a.length → (∀ (hi:i < a.length) (hj:i < b.length),a[i] = b[i]) → run E GP a249l0 (S i) = run E GP a249l0 (S (i + 1)):=by
    intro i hi he
    have hj:i < b.length:=by omega
    have h1:=hs1 i hi hj
    have he:=he hi hj
    show run E GP a249l0 { vars:=_,heap:=_,rs:=_ } = run E GP a249l0 { vars:=_,heap:=_,rs:=_ }
    simp only [he,decide_true] at h1
    simp only [fA] at h1
    conv=>lhs; rw [a249l0_run]
    simp (maxSteps:=1000000) (disch:=first | omega | decide) only [si,sf,simprocAttr,a249b0,a249R,hi,hj,fA,he,h1]
  rcases first_bad (fun i=>∀ (hi:i < a.length) (hj:i < b.length),a[i] = b[i]) a.length with hall | ⟨j,hj,hbad,hbefore⟩
  · have e:a = b:=List.ext_getElem hl fun i hi hj=>hall i hi hi hj
    have hlo:=loop_ind S _ a.length (fun i hi=>hstep i hi (hall i hi)) rfl
    have hend:run E GP a249l0 (S a.length) = some (.exit 0,{ vars:=[.isl (a.map fA),.isl (b.map fA),.fn 248 [],.bool false,.u,.bool false,.isl (a.map fA),.int .i64 a.length,.int .i64 a.length,.bool false,.u,.u,.u],heap:=[],rs:=false }):=by
      show run E GP a249l0 { vars:=_,heap:=_,rs:=_ } = _
      rw [a249l0_run]
      simp (maxSteps:=1000000) (disch:=first | omega | decide) only [si,sf,simprocAttr,a249b0,a249R,Nat.lt_irrefl]
    rw [hend] at hlo
    have hlo:run E GP a249l0 { vars:=[.isl (a.map fA),.isl (b.map fA),.fn 248 [],.bool false,.u,.bool false,.isl (a.map fA),.int .i64 a.length,.int .i64 0,.u,.u,.u,.u],heap:=[],rs:=false } = _:=hlo
    have e2:decide (a = b) = true:=by simpa using e
    rw [e2]
    simp only [hl'] at hlo
    simp (maxSteps:=1000000) (disch:=first | omega | decide) only [si,sf,simprocAttr,a249,a249R,hl',hlo]
  · have hjb:j < b.length:=by omega
    have hne:¬ a[j] = b[j]:=fun h=>hbad fun _ _=>h
    have e2:decide (a = b) = false:=by
      simp only [decide_eq_false_iff_not]
      intro h; subst h; exact hne rfl
    rw [e2]
    have hlo:=loop_ind S _ j (fun i hi=>hstep i (by omega) (hbefore i hi)) rfl
    have h1:=hs1 j hj hjb
    simp only [hne,decide_false] at h1
    have hend:∃ w1 w2 w3,run E GP a249l0 (S j) = some (.ret,{ vars:=[.isl (a.map fA),.isl (b.map fA),.fn 248 [],.bool false,w1,.bool false,.isl (a.map fA),.int .i64 a.length,.int .i64 j,.bool true,.bool true,w2,w3],heap:=[],rs:=false }):=by
      refine ⟨.int .i64 j,fA a[j],fA b[j],?_⟩
      show run E GP a249l0 { vars:=_,heap:=_,rs:=_ } = _
      simp only [fA] at h1 ⊢
      rw [a249l0_run]
      simp (maxSteps:=1000000) (disch:=first | omega | decide) only [si,sf,simprocAttr,a249b0,a249R,hj,hjb,fA,h1]
    obtain ⟨w1,w2,w3,hend⟩:=hend
    rw [hend] at hlo
    have hlo:run E GP a249l0 { vars:=[.isl (a.map fA),.isl (b.map fA),.fn 248 [],.bool false,.u,.bool false,.isl (a.map fA),.int .i64 a.length,.int .i64 0,.u,.u,.u,.u],heap:=[],rs:=false } = _:=hlo
    simp only [hl'] at hlo
    simp (maxSteps:=1000000) (disch:=first | omega | decide) only [si,sf,simprocAttr,a249,a249R,hl',hlo]
theorem i_same (a b:List (Int × Int)) (ha:∀ p ∈ a,Sm p) (hb:∀ p ∈ b,Sm p) (hs:a.length < 2147483648) (H:Heap) :
    call E GP 239 [.isl (a.map fA),.isl (b.map fA)] H = some (.bool (decide (a = b)),H,false):=by
  rw [call_fun (hE _ _ _ (by decide)) (f:=a239) rfl rfl]
  have h:=fun H=>eq249 hE a b ha hb hs H
  generalize decide (a = b) = d at *
  simp (maxSteps:=1000000) (disch:=first | omega | decide) only [si,sf,simprocAttr,a239,a239R,h]
end Tor
namespace Tor
open Go
def SmM (m:Mp):Prop:=∀ p ∈ m,(∀ q ∈ p.2,Sm q) ∧ p.2.length < 2147483648
variable {E:CallF} (hE:Free E)
include hE
theorem valid1 (x:Cel) (p:Int × List (Int × Int)) (hp:(∀ q ∈ p.2,Sm q) ∧ p.2.length < 2147483648) (H:Heap) :
    call E GP 236 [cA x,mA p] H = some (.bool (decide (x.id = p.1) && valid26 p.2),H,false):=by
  rw [call_fun (hE _ _ _ (by decide)) (f:=a236) rfl rfl]
  have hv:=fun H=>c_valid hE p.2 hp.1 hp.2 H
  unfold cA mA
  generalize valid26 p.2 = v at *
  by_cases h:x.id = p.1
  · simp (maxSteps:=1000000) (disch:=first | omega | decide) only [si,sf,simprocAttr,a236,a236R,h,hv]
  · simp (maxSteps:=1000000) (disch:=first | omega | decide) only [si,sf,simprocAttr,a236,a236R,h]
def okM (c:List Cel) (m:Mp):Prop:=c.length = m.length ∧ ∀ i (hi:i < c.length) (hj:i < m.length),c[i].id = m[i].1 ∧ valid26 m[i].2 = true
noncomputable instance (c:List Cel) (m:Mp):Decidable (okM c m):=Classical.propDecidable _
theorem eq237 (c:List Cel) (m:Mp) (hm:SmM m) (hs:c.length < 2147483648) (H:Heap) :
    call E GP 237 [.isl (c.map cA),.isl (m.map mA),.fn 236 []] H = some (.bool (decide (okM c m)),H,false):=by
  rw [call_fun (hE _ _ _ (by decide)) (f:=a237) rfl rfl]
  by_cases hl:c.length = m.length
  case neg =>
    have e:¬ okM c m:=fun h=>hl h.1
    have hl':¬ ((c.length:Int) = (m.length:Int)):=by omega
    simp (maxSteps:=1000000) (disch:=first | omega | decide) only [si,sf,simprocAttr,a237,a237R,hl',e]
  have hl':((c.length:Int) = (m.length:Int)):=by omega
  have hs1:=fun i (hi:i < c.length) (hj:i < m.length) H=>valid1 hE c[i] m[i] (hm _ (List.getElem_mem hj)) H
  let S:Nat → St:=fun i=>{ vars:=[.isl (c.map cA),.isl (m.map mA),.fn 236 [],.bool false,.u,.bool false,.isl (c.map cA),.int .i64 c.length,.int .i64 (i:Nat),.u,.u,.u,.u],heap:=[],rs:=false }
  have hstep:∀ i,i < c.length → (∀ (hi:i < c.length) (hj:i < m.length),c[i].id = m[i].1 ∧ valid26 m[i].2 = true) → run E GP a237l0 (S i) = run E GP a237l0 (S (i + 1)):=by
    intro i hi he
    have hj:i < m.length:=by omega
    have h1:=hs1 i hi hj
    obtain ⟨he1,he2⟩:=he hi hj
    show run E GP a237l0 { vars:=_,heap:=_,rs:=_ } = run E GP a237l0 { vars:=_,heap:=_,rs:=_ }
    simp only [he1,he2,decide_true,Bool.and_self] at h1
    simp only [cA,mA] at h1
    conv=>lhs; rw [a237l0_run]
    simp (maxSteps:=1000000) (disch:=first | omega | decide) only [si,sf,simprocAttr,a237b0,a237R,hi,hj,cA,mA,h1]
  rcases first_bad (fun i=>∀ (hi:i < c.length) (hj:i < m.length),c[i].id = m[i].1 ∧ valid26 m[i].2 = true) c.length with hall | ⟨j,hj,hbad,hbefore⟩
  · have e:okM c m:=⟨hl,fun i hi hj=>hall i hi hi hj⟩
    have hlo:=loop_ind S _ c.length (fun i hi=>hstep i hi (hall i hi)) rfl
    have hend:run E GP a237l0 (S c.length) = some (.exit 0,{ vars:=[.isl (c.map cA),.isl (m.map mA),.fn 236 [],.bool false,.u,.bool false,.isl (c.map cA),.int .i64 c.length,.int .i64 c.length,.bool false,.u,.u,.u],heap:=[],rs:=false }):=by
      show run E GP a237l0 { vars:=_,heap:=_,rs:=_ } = _
      rw [a237l0_run]
      simp (maxSteps:=1000000) (disch:=first | omega | decide) only [si,sf,simprocAttr,a237b0,a237R,Nat.lt_irrefl]
    rw [hend] at hlo
    have hlo:run E GP a237l0 { vars:=[.isl (c.map cA),.isl (m.map mA),.fn 236 [],.bool false,.u,.bool false,.isl (c.map cA),.int .i64 c.length,.int .i64 0,.u,.u,.u,.u],heap:=[],rs:=false } = _:=hlo
    have e2:decide (okM c m) = true:=by simpa using e
    rw [e2]
    simp only [hl'] at hlo
    simp (maxSteps:=1000000) (disch:=first | omega | decide) only [si,sf,simprocAttr,a237,a237R,hl',hlo]
  · have hjb:j < m.length:=by omega
    have hne:¬ (c[j].id = m[j].1 ∧ valid26 m[j].2 = true):=fun h=>hbad fun _ _=>h
    have e2:decide (okM c m) = false:=by
      simp only [decide_eq_false_iff_not]
      exact fun h=>hne (h.2 j hj hjb)
    rw [e2]
    have hlo:=loop_ind S _ j (fun i hi=>hstep i (by omega) (hbefore i hi)) rfl
    have h1:=hs1 j hj hjb
    have hb:(decide (c[j].id = m[j].1) && valid26 m[j].2) = false:=by
      cases hv:valid26 m[j].2 with
      | false=>simp
      | true=>rw [hv] at hne; simpa using hne
    rw [hb] at h1
    have hend:∃ w1 w2 w3,run E GP a237l0 (S j) = some (.ret,{ vars:=[.isl (c.map cA),.isl (m.map mA),.fn 236 [],.bool false,w1,.bool false,.isl (c.map cA),.int .i64 c.length,.int .i64 j,.bool true,.bool true,w2,w3],heap:=[],rs:=false }):=by
      refine ⟨.int .i64 j,cA c[j],mA m[j],?_⟩
      show run E GP a237l0 { vars:=_,heap:=_,rs:=_ } = _
      simp only [cA,mA] at h1 ⊢
      rw [a237l0_run]
      simp (maxSteps:=1000000) (disch:=first | omega | decide) only [si,sf,simprocAttr,a237b0,a237R,hj,hjb,cA,mA,h1]
    obtain ⟨w1,w2,w3,hend⟩:=hend
    rw [hend] at hlo
    have hlo:run E GP a237l0 { vars:=[.isl (c.map cA),.isl (m.map mA),.fn 236 [],.bool false,.u,.bool false,.isl (c.map cA),.int .i64 c.length,.int .i64 0,.u,.u,.u,.u],heap:=[],rs:=false } = _:=hlo
    simp only [hl'] at hlo
    simp (maxSteps:=1000000) (disch:=first | omega | decide) only [si,sf,simprocAttr,a237,a237R,hl',hlo]
theorem r29_same (m n:Mp) (hm:SmM m) (hn:SmM n) (hs:m.length < 2147483648) (H:Heap) :
    call E GP 216 [.isl (m.map mA),.isl (n.map mA)] H = some (.bool (decide (m = n)),H,false):=by
  rw [call_fun (hE _ _ _ (by decide)) (f:=a216) rfl rfl]
  by_cases hl:m.length = n.length
  case neg =>
    have e:¬ m = n:=fun h=>hl (by rw [h])
    have hl':¬ ((m.length:Int) = (n.length:Int)):=by omega
    simp (maxSteps:=1000000) (disch:=first | omega | decide) only [si,sf,simprocAttr,a216,a216R,hl',e]
  have hl':((m.length:Int) = (n.length:Int)):=by omega
  have hs1:=fun i (hi:i < m.length) (hj:i < n.length) H=>r26_same hE m[i].2 n[i].2 (hm _ (List.getElem_mem hi)).1 (hn _ (List.getElem_mem hj)).1 (hm _ (List.getElem_mem hi)).2 H
  let S:Nat → St:=fun i=>{ vars:=[.isl (m.map mA),.isl (n.map mA),.bool false,.int .i64 (i:Nat),.bool false,.u,.u],heap:=[],rs:=false }
  have hstep:∀ i,i < m.length → (∀ (hi:i < m.length) (hj:i < n.length),m[i] = n[i]) → run E GP a216l0 (S i) = run E GP a216l0 (S (i + 1)):=by
    intro i hi he
    have hj:i < n.length:=by omega
    have h1:=hs1 i hi hj
    have he:=he hi hj
    show run E GP a216l0 { vars:=_,heap:=_,rs:=_ } = run E GP a216l0 { vars:=_,heap:=_,rs:=_ }
    simp only [he,decide_true] at h1
    conv=>lhs; rw [a216l0_run]
    simp (maxSteps:=1000000) (disch:=first | omega | decide) only [si,sf,simprocAttr,a216b0,a216R,hi,hj,mA,he,h1]
  rcases first_bad (fun i=>∀ (hi:i < m.length) (hj:i < n.length),m[i] = n[i]) m.length with hall | ⟨j,hj,hbad,hbefore⟩
  · have e:m = n:=List.ext_getElem hl fun i hi hj=>hall i hi hi hj
    have hlo:=loop_ind S _ m.length (fun i hi=>hstep i hi (hall i hi)) rfl
    have hend:run E GP a216l0 (S m.length) = some (.exit 0,{ vars:=[.isl (m.map mA),.isl (n.map mA),.bool false,.int .i64 m.length,.bool false,.bool false,.u],heap:=[],rs:=false }):=by
      show run E GP a216l0 { vars:=_,heap:=_,rs:=_ } = _
      rw [a216l0_run]
      simp (maxSteps:=1000000) (disch:=first | omega | decide) only [si,sf,simprocAttr,a216b0,a216R,Nat.lt_irrefl]
    rw [hend] at hlo
    have hlo:run E GP a216l0 { vars:=[.isl (m.map mA),.isl (n.map mA),.bool false,.int .i64 0,.bool false,.u,.u],heap:=[],rs:=false } = _:=hlo
    have e2:decide (m = n) = true:=by simpa using e
    rw [e2]
    simp (maxSteps:=1000000) (disch:=first | omega | decide) only [si,sf,simprocAttr,a216,a216R,hl',hlo]
  · have hjb:j < n.length:=by omega
    have hne:¬ m[j] = n[j]:=fun h=>hbad fun _ _=>h
    have e2:decide (m = n) = false:=by
      simp only [decide_eq_false_iff_not]
      intro h; subst h; exact hne rfl
    rw [e2]
    have hlo:=loop_ind S _ j (fun i hi=>hstep i (by omega) (hbefore i hi)) rfl
    have h1:=hs1 j hj hjb
    have hend:run E GP a216l0 (S j) = some (.ret,{ vars:=[.isl (m.map mA),.isl (n.map mA),.bool false,.int .i64 j,.bool false,.bool true,.bool true],heap:=[],rs:=false }):=by
      show run E GP a216l0 { vars:=_,heap:=_,rs:=_ } = _
      rw [a216l0_run]
      by_cases hq:m[j].1 = n[j].1
      · have hq2:¬ m[j].2 = n[j].2:=fun h=>hne (Prod.ext hq h)
        simp only [hq2,decide_false] at h1
        simp (maxSteps:=1000000) (disch:=first | omega | decide) only [si,sf,simprocAttr,a216b0,a216R,hj,hjb,mA,h1,hq]
      · simp (maxSteps:=1000000) (disch:=first | omega | decide) only [si,sf,simprocAttr,a216b0,a216R,hj,hjb,mA,hq]
    rw [hend] at hlo
    have hlo:run E GP a216l0 { vars:=[.isl (m.map mA),.isl (n.map mA),.bool false,.int .i64 0,.bool false,.u,.u],heap:=[],rs:=false } = _:=hlo
    simp (maxSteps:=1000000) (disch:=first | omega | decide) only [si,sf,simprocAttr,a216,a216R,hl',hlo]
end Tor
namespace Tor
open Go
variable {E:CallF} (hE:Free E)
include hE
def compM (m n:Mp):Mp:=m.map fun p=>(p.1,appF (imgF n) p.2)
theorem r29_compose (m n:Mp) (A N L:Nat) (hm:m.length < 2147483648) (hn:n.length < 2147483648) (hx:∀ p ∈ m,p.2.length < 100000 ∧ (∀ q ∈ p.2,q.2.natAbs ≤ A) ∧ A * N * (L + 1) * (p.2.length + 1) < BIG)
    (hF:∀ id,Bd N (imgF n id) ∧ (imgF n id).length ≤ L) (hL:L < 10000) (hA:A < BIG) (hN:N < BIG) (H:Heap) :
    call E GP 227 [.isl (m.map mA),.isl (n.map mA)] H = some (if (∀ p ∈ m,∀ q ∈ p.2,(findM n q.1).isSome = true) then .tup [.isl ((compM m n).map mA),.int .i64 0] else .tup [.isl [],.int .i64 290],H,false):=by
  rw [call_fun (hE _ _ _ (by decide)) (f:=a227) rfl rfl]
  let W:Nat → List AV:=fun i=>((compM m n).take i).map mA
  have hWl:∀ i,i ≤ m.length → (W i).length = i:=fun i hi=>by simp [W,compM]; omega
  let S:Nat → St:=fun i=>{ vars:=[.isl (m.map mA),.isl (n.map mA),.isl [],.int .i64 0,.sl 0 i 2 0 i,.int .i64 (i:Nat),.u,.u,.u,.u],heap:=[.arr i 2 (W i)],rs:=false }
  have hap:=fun i (hi:i < m.length) H=>r29_apply hE n m[i].2 A N L hn (hx _ (List.getElem_mem hi)).1 (hx _ (List.getElem_mem hi)).2.1 hF hL hA hN (hx _ (List.getElem_mem hi)).2.2 H
  have hstep:∀ i,i < m.length → (∀ hi:i < m.length,∀ q ∈ m[i].2,(findM n q.1).isSome = true) → run E GP a227l0 (S i) = run E GP a227l0 (S (i + 1)):=by
    intro i hi hs
    have hs:=hs hi
    have ha:=hap i hi
    rw [if_pos hs] at ha
    have eW:W (i + 1) = W i ++ [.agg [.int .i64 m[i].1,.isl ((appF (imgF n) m[i].2).map fA)]]:=by
      have:i < (compM m n).length:=by simpa [compM] using hi
      simp only [W]
      rw [List.take_succ_eq_append_getElem this]
      simp [compM,mA]
    have hwi:=hWl i (by omega)
    have hm1:i + 1 ≤ 4294967296:=by omega
    show run E GP a227l0 { vars:=_,heap:=_,rs:=_ } = run E GP a227l0 { vars:=_,heap:=_,rs:=_ }
    rw [eW]
    generalize W i = V at *
    generalize appF (imgF n) m[i].2 = y at *
    conv=>lhs; rw [a227l0_run]
    simp (maxSteps:=1000000) (disch:=first | omega | decide) only [si,sf,simprocAttr,a227b0,a227R,hi,mA,ha,hwi,hm1,maxLenA]
  rcases first_bad (fun i=>∀ hi:i < m.length,∀ q ∈ m[i].2,(findM n q.1).isSome = true) m.length with hall | ⟨j,hj,hbad,hbefore⟩
  · have hp:∀ p ∈ m,∀ q ∈ p.2,(findM n q.1).isSome = true:=fun p hp=>by
      obtain ⟨i,hi,rfl⟩:=List.getElem_of_mem hp
      exact hall i hi hi
    rw [if_pos hp]
    have hl:=loop_ind S _ m.length (fun i hi=>hstep i hi (hall i hi)) rfl
    have he:run E GP a227l0 (S m.length) = some (.exit 0,{ vars:=[.isl (m.map mA),.isl (n.map mA),.isl [],.int .i64 0,.sl 0 m.length 2 0 m.length,.int .i64 m.length,.u,.u,.bool false,.u],heap:=[.arr m.length 2 (W m.length)],rs:=false }):=by
      show run E GP a227l0 { vars:=_,heap:=_,rs:=_ } = _
      rw [a227l0_run]
      simp (maxSteps:=1000000) (disch:=first | omega | decide) only [si,sf,simprocAttr,a227b0,a227R,Nat.lt_irrefl]
    rw [he] at hl
    have hl:run E GP a227l0 { vars:=[.isl (m.map mA),.isl (n.map mA),.isl [],.int .i64 0,.sl 0 0 2 0 0,.int .i64 0,.u,.u,.u,.u],heap:=[.arr 0 2 []],rs:=false } = _:=hl
    have hwl:=hWl m.length (Nat.le_refl _)
    have hwr:AV.hasRefs (W m.length) = false:=fl_ref _
    have hws:AV.solids (W m.length) = true:=fl_sol _
    have hwz:∀ n H k,2 ≤ k → (W m.length).map (fz n H k) = W m.length:=fun n H k hk=>fl_fz (e:=mA) hk
    have e0:(compM m n).map mA = W m.length:=by
      show _ = ((compM m n).take m.length).map mA
      rw [List.take_of_length_le (by simp [compM])]
    rw [e0]
    generalize W m.length = V at *
    have htk:V.take m.length = V:=List.take_of_length_le (by omega)
    have hlv:m.length ≤ V.length:=by omega
    have hwz6:=fun n H=>hwz n H 6 (by omega)
    simp (maxSteps:=1000000) (disch:=first | omega | decide) only [si,sf,simprocAttr,a227,a227R,hl,hwl,hwr,hws,hwz6,htk,hlv,Nat.le_refl]
  · have hnp:¬ ∀ p ∈ m,∀ q ∈ p.2,(findM n q.1).isSome = true:=fun h=>hbad fun hi=>h _ (List.getElem_mem hi)
    rw [if_neg hnp]
    have hl:=loop_ind S _ j (fun i hi=>hstep i (by omega) (hbefore i hi)) rfl
    have ha:=hap j hj
    rw [if_neg (fun h=>hbad fun _=>h)] at ha
    have he:∃ w4,run E GP a227l0 (S j) = some (.ret,{ vars:=[.isl (m.map mA),.isl (n.map mA),.isl [],.int .i64 290,w4,.int .i64 j,.isl [],.int .i64 290,.bool true,.bool true],heap:=[.arr j 2 (W j)],rs:=false }):=by
      refine ⟨.sl 0 j 2 0 j,?_⟩
      show run E GP a227l0 { vars:=_,heap:=_,rs:=_ } = _
      generalize W j = V at *
      rw [a227l0_run]
      simp (maxSteps:=1000000) (disch:=first | omega | decide) only [si,sf,simprocAttr,a227b0,a227R,hj,mA,ha]
    obtain ⟨w4,he⟩:=he
    rw [he] at hl
    have hl:run E GP a227l0 { vars:=[.isl (m.map mA),.isl (n.map mA),.isl [],.int .i64 0,.sl 0 0 2 0 0,.int .i64 0,.u,.u,.u,.u],heap:=[.arr 0 2 []],rs:=false } = _:=hl
    simp (maxSteps:=1000000) (disch:=first | omega | decide) only [si,sf,simprocAttr,a227,a227R,hl]
end Tor
namespace Tor
open Go Go.RowKit Go.Maps Go.Sort Go.Shelf Go.Proofs
open Go.WideElems (Fit rd rg pl rd_val elemAt rd_mk rg_of)
def R0:Value → Option (DataW Nat × List MemPlace):=fun _=>some (.lit (.bool false),[])
theorem in64_wf {n:Int} (h:in64 n = true):(Lit.int .i64 n).wf = true:=by
  have h:-9223372036854775808 ≤ n ∧ n ≤ 9223372036854775807:=of_decide_eq_true h
  simp only [Lit.wf,Bool.and_eq_true,IntKind.min,IntKind.max]
  simp [IntKind.signed,IntKind.bits] at *
  omega
theorem MapR_rd {P:Program} {k:TypeId} (hk:P.underlying k = some (.int .i64)) {C:Cx} {kvs es} (h:MapR C kvs es) (ha:∀ p ∈ kvs,in64 p.1 = true) :
    (∀ x ∈ es,∃ y,rd P k R0 x = some y) ∧ es.map (fun x=>Go.intOf (rg P k R0 x).1) = kvs.map (·.1) ∧ es.length = kvs.length:=by
  induction h with
  | nil=>exact ⟨fun x hx=>(by cases hx),rfl,rfl⟩
  | @cons n x e r es hkey _ _ _ ih =>
    obtain ⟨i1,i2,i3⟩:=ih fun p hp=>ha p (.tail _ hp)
    have hw:=in64_wf (ha (n,x) (.head _))
    have hr:rd P k R0 e = some (.int .i64 n,.lit (.bool false)):=by
      obtain ⟨key,val,born⟩:=e
      simp only at hkey
      subst hkey
      exact rd_mk (R:=R0) (yv:=(.lit (.bool false),[])) (keyOf_int_mk hk hw) rfl
    refine ⟨fun z hz=>?_,?_,by simp [i3]⟩
    · rcases List.mem_cons.1 hz with rfl | hz
      · exact ⟨_,hr⟩
      · exact i1 z hz
    · simp only [List.map_cons,i2,rg_of hr]; rfl
theorem insI_perm (k:Int):∀ l:List Int,(insI k l).Perm (k :: l)
  | []=>.refl _
  | j :: r=>by
    simp only [insI]
    split
    · exact .refl _
    · exact ((insI_perm k r).cons j).trans (.swap k j r)
theorem sortI_perm:∀ l:List Int,(sortI l).Perm l
  | []=>.refl _
  | k :: r=>(insI_perm k _).trans ((sortI_perm r).cons k)
theorem insI_le (k:Int):∀ l:List Int,l.Pairwise (fun a b=>leI a b = true) → (insI k l).Pairwise (fun a b=>leI a b = true)
  | [],_=>by simp [insI]
  | j :: r,h=>by
    rw [List.pairwise_cons] at h
    simp only [insI]
    split
    · rename_i hkj
      refine List.pairwise_cons.2 ⟨fun q hq=>?_,List.pairwise_cons.2 h⟩
      simp only [leI,decide_eq_true_eq]
      rcases List.mem_cons.1 hq with rfl | hq
      · exact hkj
      · have:=h.1 q hq; simp only [leI,decide_eq_true_eq] at this; omega
    · refine List.pairwise_cons.2 ⟨fun q hq=>?_,insI_le k r h.2⟩
      simp only [leI,decide_eq_true_eq]
      rcases (mem_insI k q r).1 hq with e | e
      · omega
      · have:=h.1 q e; simpa only [leI,decide_eq_true_eq] using this
theorem sortI_le:∀ l:List Int,(sortI l).Pairwise (fun a b=>leI a b = true)
  | []=>.nil
  | k :: r=>insI_le k _ (sortI_le r)
theorem sortI_of_perm {l l':List Int} (h:l.Perm l'):l.mergeSort leI = sortI l':=by
  have tr:∀ a b c:Int,leI a b = true → leI b c = true → leI a c = true:=fun a b c h1 h2=>by simp only [leI,decide_eq_true_eq] at *; exact Int.le_trans h1 h2
  have to:∀ a b:Int,(leI a b || leI b a) = true:=fun a b=>by simp only [leI,Bool.or_eq_true,decide_eq_true_eq]; exact Int.le_total a b
  refine List.Perm.eq_of_pairwise (le:=fun a b=>leI a b = true) (fun a b _ _ h1 h2=>?_) (List.pairwise_mergeSort tr to l) (sortI_le l') (((List.mergeSort_perm l leI).trans h).trans (sortI_perm l').symm)
  simp only [leI,decide_eq_true_eq] at h1 h2
  exact Int.le_antisymm h1 h2
theorem E1_inv {g args H r H' b} (h:E1 g args H = some (r,H',b)) :
    g = 56 ∧ b = false ∧ H' = H ∧ ∃ o kvs,args = [.fn 72 [.bx o]] ∧ H[o]? = some (.map kvs) ∧ kvs.length ≤ 1000000 ∧ (∀ p ∈ kvs,in64 p.1 = true) ∧ r = .isl ((sortI (kvs.map (·.1))).map iA):=by
  unfold E1 at h
  split at h
  case isFalse=>cases h
  rename_i hg
  unfold sortArgs at h
  split at h
  case h_2=>cases h
  rename_i o
  unfold sortedKeys at h
  split at h
  case h_2=>cases h
  rename_i kvs ho
  split at h
  case isFalse=>cases h
  rename_i hh
  simp only [Option.some.injEq,Prod.mk.injEq] at h
  obtain ⟨rfl,rfl,rfl⟩:=h
  exact ⟨hg,rfl,rfl,o,kvs,rfl,ho,hh.1,fun p hp=>(List.all_eq_true.1 hh.2) p hp,rfl⟩
theorem E1_keeps:CKeeps E1:=by
  intro g a H x H' b h _
  obtain ⟨_,rfl,rfl,_⟩:=E1_inv h
  exact Keeps.refl _
theorem E1_sound {P:Program} {ι:Nat → FuncId} {ρ ρ':Ren} (LK:SlLaysZI.n10 P ρ) (LS:SlLaysZI.n6 P ρ') (hS:∀ m,AnyZI.SortsIn P ρ' Fence.wide m) (e6:Enters P (ρ'.f 6)) (e9:Enters P (ρ'.f 9)) (eg:Enters P (ρ.f 10))
    (h72:ι 72 = ρ.f 10) (h56:ι 56 = ρ'.f 6):SoundC P ι E1:=by
  intro g args H r H' b h base C vals hι hs hr
  obtain ⟨rfl,rfl,rfl,o,kvs,rfl,ho,hlen,hin,rfl⟩:=E1_inv h
  cases hr with
  | cons hx hr =>
    cases hr
    rename_i v
    have hv:∃ a bm,v = .func (.func (C.ι 72)) #[] #[.pointer (some ⟨a,0,none⟩)] ∧ C.β o 0 = some (some (bm,0)) ∧ C.F a ∧ cellsAt C.w a 0 [.map (some bm)]:=by
      rcases hx with (e | ⟨h1,h2⟩) | ⟨l,vs,e,_⟩
      · cases e
      · simp only [AV.isA] at h2
        rw [cells_one h2] at h1
        simp only [Rc,List.cons.injEq,and_true] at h1
        obtain ⟨_,vs,rfl,hl⟩:=h1
        simp only [Rcl,Rc] at hl
        obtain ⟨c,r,e,⟨a,bm,h3,rfl,h4,h5⟩,rfl⟩:=hl
        obtain ⟨vs⟩:=vs
        cases vs with
        | nil=>cases e
        | cons x t =>
          cases t with
          | nil=>simp at e; subst e; exact ⟨a,bm,rfl,h3,h4,h5⟩
          | cons y t=>simp at e
      · cases e
    obtain ⟨a,bm,rfl,hβ,hF,hc⟩:=hv
    obtain ⟨b2,es,clock,hβ2,hb,hm,hge,hnF⟩:=(hs.obj o _ ho).1
    rw [hβ] at hβ2
    obtain rfl:bm = b2:=by simpa using hβ2
    obtain ⟨k1,k2,k3⟩:=MapR_rd LK.t26 hm.1 hin
    have hown:C.w.ownsMap P (ρ.t 26) R0 bm 1000000 (.map ((es.toList.map (rg P (ρ.t 26) R0)).foldr DataW.insert [])) :=
      ⟨es,clock,hb,⟨by rw [← Array.length_toList,k3]; unfold maxLen; omega,hm.2,k1⟩,by rw [← Array.length_toList,k3]; exact hlen,rfl⟩
    have ha:a < C.w.heap.size:=hs.fsz a hF
    have hcell:C.w.cell? ⟨a,0,none⟩ = some (.map (some bm)):=by simpa using hc 0 _ rfl
    have hsz:Maps.size (.map ((es.toList.map (rg P (ρ.t 26) R0)).foldr DataW.insert []):DataW Nat) ≤ 1000000:=hown.size_le
    have hseq:SeqGives Fence.wide 2 P (ρ.f 10) #[.pointer (some ⟨a,0,none⟩)] encZ _ _ C.w:=AnyZI.keys_gives LK Fence.wide _ trivial rfl (by omega) a bm _ _ C.w ha hcell hown
    have cS:=AnyZI.sorted_in LS Fence.wide 5 trivial trivial trivial trivial rfl (by omega) (hS _) e9 (ρ.f 10) #[.pointer (some ⟨a,0,none⟩)] trivial eg _ _ (by unfold maxLen; omega) (by omega) _ hseq
    have cS:=callsIn_wide.1 cS
    unfold Called
    rw [h56,e6 _ C.w]
    rw [hι,h72]
    refine Calls.mono cS fun e w' he=>?_
    obtain ⟨v,ss,rfl,hp,hrow,hnil,hbel⟩:=he
    have hkeys:intKeys (.map ((es.toList.map (rg P (ρ.t 26) R0)).foldr DataW.insert []):DataW Nat) = _:=rfl
    have hperm:ss.Perm (kvs.map (·.1)):=by
      refine hp.trans ?_
      rw [← k2]
      have:=(Go.WideShapes.sorted_perm (es.toList.map (rg P (ρ.t 26) R0))).map (fun (p:Lit × DataW Nat)=>Go.intOf p.1)
      simpa [intKeys,Function.comp_def] using this
    have hsort:=sortI_of_perm hperm
    rw [show (fun x y:Int=>decide (x ≤ y)) = leI from rfl,hsort] at hrow
    have hsl:(sortI (kvs.map (·.1))).length = ss.length:=by rw [← hsort]; simp
    let C':Cx:={ C with w:=w',F:=fun x=>C.F x ∨ (C.w.heap.size ≤ x ∧ v.ownBlock = some x) }
    have hob:∀ x,v.ownBlock = some x → C.w.heap.size ≤ x ∧ x < w'.heap.size:=by
      intro x hx
      rcases hrow.2 with ⟨rfl,_⟩ | ⟨g,cap,cur,rfl,hbase,hg,_⟩
      · cases hx
      · simp only [Value.ownBlock,Option.some.injEq] at hx
        subst hx
        exact ⟨hbase,lt_of_heap hg⟩
    have hle:Le C C':=⟨rfl,fun _ h=>.inl h,fun _ _ _ h=>h,fun x hx=>hbel.block x (hs.fsz x hx),fun x s hx=>(by
      have hlt:x < C.w.heap.size:=by
        unfold World.shape? at hx
        split at hx
        · rename_i hh; exact lt_of_heap hh
        · cases hx
      rw [← hx]; show w'.shape? x = _
      unfold World.shape?
      rw [hbel.block x hlt])⟩
    have hsim:Sim base C' H':=hs.world hle (fun x hx=>by
      rcases hx with hx | ⟨h1,h2⟩
      · exact ⟨Nat.lt_of_lt_of_le (hs.fsz x hx) hbel.size,.inl hx⟩
      · exact ⟨(hob x h2).2,.inr h1⟩) (fun _ _=>rfl) hbel.size (fun x hx _ _=>hbel.block x hx)
    refine ⟨C',rfl,⟨hle,hsim,hbel.mono hs.bsz,fun x hx=>?_,fun x hx hnx hno=>⟨hbel.block x hx,fun h=>h.elim hnx (fun h=>by omega),fun o1 ob1 h1 hb1=>hno o1 ob1 h1 hb1⟩⟩,?_⟩
    · rcases hx with hx | ⟨h1,_⟩
      · exact .inl hx
      · exact .inr (Nat.le_trans hs.bsz h1)
    · have hlit:∀ (zs:List Int),Rcl C' (zs.map iA) (zs.map fun z=>[encZ z]):=by
        intro zs
        induction zs with
        | nil=>simp [Rcl]
        | cons z r ih=>simp only [List.map_cons,Rcl,Rc,iA]; exact ⟨_,_,rfl,rfl,ih⟩
      have hnr:∀ (zs:List Int),AV.hasRefs (zs.map iA) = false:=by
        intro zs
        induction zs with
        | nil=>rfl
        | cons z r ih=>simp only [List.map_cons,AV.hasRefs,iA,AV.hasRef,Bool.false_or,ih]
      rcases hrow.2 with ⟨rfl,hz⟩ | ⟨g,cap,cur,rfl,hbase,hg,hcap,hmax,hsize,htake⟩
      · refine Rv_one ?_ rfl rfl
        simp only [Rc]
        refine ⟨hnr _,_,rfl,none,0,by simp [hsl,hz],.inl (by simp [hsl,hz])⟩
      · refine Rv_one ?_ rfl rfl
        simp only [Rc]
        refine ⟨hnr _,_,rfl,_,cap,by simp [hsl],.inr ⟨g,0,(sortI (kvs.map (·.1))).map fun z=>[encZ z],1,rfl,.inr ⟨hbase,rfl⟩,by simpa [hsl] using hcap,hlit _,fun c hc=>?_,?_⟩⟩
        · obtain ⟨z,_,rfl⟩:=List.mem_map.1 hc; rfl
        · intro i x hx
          have hfl:((sortI (kvs.map (·.1))).map fun z=>[encZ z]).flatten = (sortI (kvs.map (·.1))).map encZ:=by
            induction sortI (kvs.map (·.1)) with
            | nil=>rfl
            | cons z r ih=>simp [ih]
          rw [hfl,← htake] at hx
          have h1:cur.toList[i]? = some x:=by
            rw [List.getElem?_take] at hx
            split at hx
            · exact hx
            · cases hx
          simp only [World.cell?,Nat.zero_add]
          show (match w'.heap[g]? with | _=>_) = _
          rw [hg]
          simpa using h1
end Tor
