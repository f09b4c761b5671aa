/-
  A part of the proof: an abstract machine for the program, its soundness, and what the functions compute (Ops, Ops2, Ops3, Ops4).
  Conditions: none.
-/
import Derived.Test.YtejciamannpljaaGreatM08
import GoSem.Dispatch
import Derived.Laws.MakeOwn
set_option linter.unusedSectionVars false
set_option linter.unusedVariables false
set_option linter.unusedSimpArgs false
set_option linter.defProp false
namespace Tor
open Go Go.RowKit
variable {P:Program} {base:Nat} {C:Cx} {H:Heap}
theorem addr_add (b off i:Nat):(⟨b,off,none⟩:Addr).add i = ⟨b,off + i,none⟩:=by
  unfold Addr.add; split <;> simp_all
theorem Rv_known {x v} (hk:x.known = true) (h:Rv C x v):Rc C x v.cells.toList ∧ vIsA v = x.isA:=by
  rcases h with (rfl | h) | ⟨l,vs,rfl,_⟩
  · cases hk
  · exact h
  · cases hk
theorem Rv_of {x v} (h:Rc C x v.cells.toList) (h2:vIsA v = x.isA):Rv C x v:=.inl (.inr ⟨h,h2⟩)
theorem cells_one {v:Value} (h:vIsA v = false):v.cells = #[v]:=by cases v <;> first | rfl | cases h
theorem Rv_one {x v} (h:Rc C x [v]) (hx:x.isA = false) (hv:vIsA v = false):Rv C x v:=by
  refine Rv_of ?_ (hv.trans hx.symm)
  rw [cells_one hv]; exact h
theorem Rv_bool {b v} (h:Rv C (.bool b) v):v = .bool b:=by
  obtain ⟨h1,h2⟩:=Rv_known rfl h
  rw [cells_one h2] at h1
  simpa [Rc] using h1
theorem Rv_int {k n v} (h:Rv C (.int k n) v):v = .int k n:=by
  obtain ⟨h1,h2⟩:=Rv_known rfl h
  rw [cells_one h2] at h1
  simpa [Rc] using h1
theorem Rv_a {x v} (h:Rv C (.a x) v):v = x ∧ x.oneCell' = true:=by
  obtain ⟨h1,h2⟩:=Rv_known rfl h
  rw [cells_one h2] at h1
  simpa [Rc] using h1
theorem Rv_nl {v} (h:Rv C .nl v):v = .slice none 0 0:=by
  obtain ⟨h1,h2⟩:=Rv_known rfl h
  rw [cells_one h2] at h1
  simpa [Rc] using h1
theorem Rv_isl {l v} (h:Rv C (.isl l) v):SlV C l.length (Rcl C l) v:=by
  obtain ⟨h1,h2⟩:=Rv_known rfl h
  rw [cells_one h2] at h1
  simp only [Rc] at h1
  obtain ⟨_,v',e,hv⟩:=h1
  simp at e; subst e; exact hv
theorem Rv_isl_flat {l v} (h:Rv C (.isl l) v):AV.hasRefs l = false:=by
  obtain ⟨h1,h2⟩:=Rv_known rfl h
  simp only [Rc] at h1
  exact h1.1
theorem Rv_iptr {x v} (h:Rv C (.iptr x) v):∃ b off xs,v = .pointer (some ⟨b,off,none⟩) ∧ C.F b ∧ Rc C x xs ∧ cellsAt C.w b off xs:=by
  obtain ⟨h1,h2⟩:=Rv_known rfl h
  rw [cells_one h2] at h1
  simp only [Rc] at h1
  obtain ⟨b,off,xs,e,r⟩:=h1
  simp at e; exact ⟨b,off,xs,e,r⟩
theorem Rv_ptr {o g p v} (h:Rv C (.ptr o g p) v):∃ b bs,C.β o g = some (some (b,bs)) ∧ v = .pointer (some ⟨b,bs + offs p,none⟩):=by
  obtain ⟨h1,h2⟩:=Rv_known rfl h
  rw [cells_one h2] at h1
  simp only [Rc] at h1
  obtain ⟨b,bs,hb,e⟩:=h1
  simp at e; exact ⟨b,bs,hb,e⟩
theorem Rv_sl {o g sz st len v} (h : Rv C (.sl o g sz st len) v) : (∃ b bs cap, C.β o g = some (some (b, bs)) ∧ v = .slice (some ⟨b, bs + st * sz, none⟩) len cap ∧ len ≤ cap ∧ Room C.w b (bs + st * sz) sz cap) ∨
      (∃ q,C.β o g = some q ∧ len = 0 ∧ ∃ a,v = .slice a 0 0):=by
  obtain ⟨h1,h2⟩:=Rv_known rfl h
  rw [cells_one h2] at h1
  simp only [Rc] at h1
  rcases h1 with ⟨b,bs,cap,hb,e,r⟩ | ⟨q,hb,hl,a,e⟩
  · simp at e; exact .inl ⟨b,bs,cap,hb,e,r⟩
  · simp at e; exact .inr ⟨q,hb,hl,a,e⟩
theorem Rv_mp {o v} (h:Rv C (.mp o) v):∃ b,C.β o 0 = some (some (b,0)) ∧ v = .map (some b):=by
  obtain ⟨h1,h2⟩:=Rv_known rfl h
  rw [cells_one h2] at h1
  simp only [Rc] at h1
  obtain ⟨b,hb,e⟩:=h1
  simp at e; exact ⟨b,hb,e⟩
theorem Rv_fn {f l v} (h:Rv C (.fn f l) v):∃ vs,v = .func (.func (C.ι f)) #[] vs ∧ Rcl C l (vs.toList.map fun v=>[v]) ∧ ∀ x ∈ l,x.isA = false:=by
  obtain ⟨h1,h2⟩:=Rv_known rfl h
  rw [cells_one h2] at h1
  simp only [Rc] at h1
  obtain ⟨ha,vs,e,hl⟩:=h1
  simp at e; exact ⟨vs,e,hl,ha⟩
theorem Rv_agg {l v} (h:Rv C (.agg l) v):∃ css,Rcl C l css ∧ v = .agg css.flatten.toArray:=by
  obtain ⟨h1,h2⟩:=Rv_known rfl h
  simp only [Rc] at h1
  obtain ⟨css,hl,e⟩:=h1
  refine ⟨css,hl,?_⟩
  cases v <;> simp [vIsA,AV.isA] at h2
  rename_i cs
  simp [Value.cells] at e
  rw [← e]
theorem Rv_tup {l v} (h:Rv C (.tup l) v):∃ vs,v = .tuple vs ∧ Rvl C l vs.toList:=by
  rcases h with (e | ⟨h,_⟩) | ⟨l',vs,e,e2,h⟩
  · cases e
  · exact h.elim
  · cases e; exact ⟨vs,e2,h⟩
theorem mk_bool (b:Bool):Rv C (.bool b) (.bool b):=Rv_one (by simp [Rc]) rfl rfl
theorem mk_int (k:IntKind) (n:Int):Rv C (.int k n) (.int k n):=Rv_one (by simp [Rc]) rfl rfl
theorem uniform_len {α} {sz:Nat}:∀ css:List (List α),(∀ c ∈ css,c.length = sz) → css.flatten.length = css.length * sz
  | [],_=>by simp
  | c :: r,h=>by
    have h1:=h c (by simp)
    have h2:=uniform_len r (fun d hd=>h d (by simp [hd]))
    simp only [List.flatten_cons,List.length_append,List.length_cons,h1,h2,Nat.add_mul]; omega
theorem take_uniform {α} {sz:Nat} (css:List (List α)) (h:∀ c ∈ css,c.length = sz) (i:Nat) (hi:i ≤ css.length):(css.take i).flatten.length = i * sz:=by
  rw [uniform_len _ (fun c hc=>h c (List.mem_of_mem_take hc)),List.length_take,Nat.min_eq_left hi]
theorem cellsAt_of {w:World} {b:Nat} {c:Array Value} {e:TypeId} {fr:Nat × Nat} (h:w.heap[b]? = some (.cells c e fr)) {pre ys post:List Value} (hc:c.toList = pre ++ ys ++ post) :
    cellsAt w b pre.length ys:=by
  intro i x hx
  have:c[pre.length + i]? = some x:=by
    rw [← Array.getElem?_toList,hc,List.append_assoc,List.getElem?_append_right (by omega)]
    simp only [Nat.add_sub_cancel_left]
    rw [List.getElem?_append_left]
    · exact hx
    · exact (List.getElem?_eq_some_iff.1 hx).1
  simp [World.cell?,h,this]
theorem cellsAt_part {w:World} {b off:Nat} {pre ys post:List Value} (h:cellsAt w b off (pre ++ ys ++ post)):cellsAt w b (off + pre.length) ys:=by
  intro i x hx
  have:=h (pre.length + i) x (by
    rw [List.append_assoc,List.getElem?_append_right (by omega),Nat.add_sub_cancel_left,List.getElem?_append_left]
    · exact hx
    · exact (List.getElem?_eq_some_iff.1 hx).1)
  rw [← this,Nat.add_assoc]
theorem objGet_ok (hs:Sim base C H) {o ob g p y} (ho:H[o]? = some ob) (h:objGet ob g p = some y) :
    ∃ b bs ys,C.β o g = some (some (b,bs)) ∧ Rc C y ys ∧ cellsAt C.w b (bs + offs p) ys:=by
  obtain ⟨hok,_⟩:=hs.obj o ob ho
  cases ob with
  | var x =>
    simp only [objGet] at h
    split at h
    · rename_i hg
      subst hg
      obtain ⟨b,c,e,h1,h2,h3,_⟩:=hok
      obtain ⟨pre,ys,post,e1,e2,e3⟩:=nav_ok p x y _ h h3
      refine ⟨b,0,ys,h1,e3,?_⟩
      have:=cellsAt_of h2 e1
      rw [e2] at this
      simpa using this
    · cases h
  | arr g' sz l =>
    cases p with
    | nil=>simp [objGet] at h
    | cons q p =>
      obtain ⟨i,off⟩:=q
      simp only [objGet] at h
      split at h
      · rename_i hg
        obtain ⟨hg,ho2⟩:=hg
        subst hg
        split at h
        · rename_i z hz
          rcases hok with ⟨_,h2⟩ | ⟨b,bs,c,e,pre,css,post,h1,h2,h3,h4,h5,h6,_⟩
          · subst h2; simp at hz
          · obtain ⟨cz,hcz,hrz⟩:=Rcl_get l css i z h5 hz
            obtain ⟨pre2,ys,post2,e1,e2,e3⟩:=nav_ok p z y _ h hrz
            refine ⟨b,bs,ys,h1,e3,?_⟩
            have hi:i < css.length:=(List.getElem?_eq_some_iff.1 hcz).1
            have hl:(css.take i).flatten.length = i * sz:=take_uniform css h6 i (by omega)
            have hc:c.toList = (pre ++ (css.take i).flatten ++ pre2) ++ ys ++ (post2 ++ (css.drop (i + 1)).flatten ++ post):=by
              rw [h3,flatten_split css i cz hcz,e1]; simp [List.append_assoc]
            have:=cellsAt_of h2 hc
            simp only [List.length_append,h4,hl,e2] at this
            rw [show bs + offs ((i,off) :: p) = bs + i * sz + offs p by simp [offs,ho2]; omega]
            exact this
        · cases h
      · cases h
  | _=>simp [objGet] at h
def aggB (P:Program) (t:TypeId):Option Bool :=
  match P.underlying t with
  | some (.struct _)=>some true
  | some (.array _ _)=>some true
  | some _=>some false
  | none=>none
def sizeB (P:Program) (t:TypeId):Option Nat:=(P.info? t).map (·.size)
theorem run_isAgg {t b} (h:aggB P t = some b) (w:World):(isAgg t).run P w = .ok b w:=by
  unfold aggB at h
  unfold isAgg
  cases hu:P.underlying t with
  | none=>rw [hu] at h; cases h
  | some d =>
    rw [hu] at h
    simp only [Sem.run_bind,run_underlying hu,Result.andThen_ok]
    cases d <;> (cases h; rfl)
theorem run_sizeOf {t n} (h:sizeB P t = some n) (w:World):(Go.sizeOf t).run P w = .ok n w:=by
  unfold sizeB at h
  cases hi:P.info? t with
  | none=>rw [hi] at h; cases h
  | some i=>rw [hi] at h; cases h; simp [Go.sizeOf,typeInfo,hi]
theorem run_loadVar {t ag b off ys y} (ha:aggB P t = some ag) (hz:sizeB P t = some y.size) (hag:y.isA = ag) (hy:Rc C y ys) (hc:cellsAt C.w b off ys) :
    ∃ v,(loadVar t ⟨b,off,none⟩).run P C.w = .ok v C.w ∧ Rv C y v:=by
  have hlen:=Rc_len y ys hy
  unfold loadVar
  simp only [Sem.run_bind,run_isAgg ha,Result.andThen_ok]
  cases ag with
  | true =>
    refine ⟨.agg ys.toArray,?_,Rv_of (by simpa [Value.cells] using hy) hag.symm⟩
    have:=run_loadCells_list (P:=P) C.w ⟨b,off,none⟩ ys (fun j v hv=>by rw [addr_add]; exact hc j v hv)
    rw [hlen] at this
    simp only [if_true,Sem.run_bind,run_sizeOf hz,Result.andThen_ok,this,Sem.run_pure]
  | false =>
    have h1:ys.length = 1:=by
      rw [hlen]
      cases y <;> first | rfl | cases hag
    match ys,h1 with
    | [v],_ =>
      have hv:=Rc_one y [v] hy v (by simp)
      have hva:vIsA v = false:=by cases v <;> first | rfl | cases hv
      refine ⟨v,?_,Rv_one hy hag hva⟩
      have:=hc 0 v (by simp)
      simp only [Nat.add_zero] at this
      simp [this]
theorem load_ok (hs:Sim base C H) {t ag sz X v y} (ha:aggB P t = some ag) (hz:sizeB P t = some sz) (hx:Rv C X v) (h:doLoad ag sz H X = some y) :
    ∃ u,(Instr.loadAt t v).run P C.w = .ok u C.w ∧ Rv C y u:=by
  have hfit:∀ q,fits ag sz q = some y → q = some y ∧ y.size = sz ∧ y.isA = ag:=by
    intro q hq
    cases q with
    | none=>cases hq
    | some z =>
      simp only [fits] at hq
      split at hq
      · rename_i hh; cases hq; exact ⟨rfl,hh⟩
      · cases hq
  unfold Instr.loadAt
  cases X with
  | iptr x =>
    simp only [doLoad] at h
    obtain ⟨e,h1,h2⟩:=hfit _ h
    cases e
    obtain ⟨b,off,xs,rfl,hF,hr,hm⟩:=Rv_iptr hx
    simp only [Instr.sureAddr,Sem.run_bind,Sem.run_pure,Result.andThen_ok]
    exact run_loadVar ha (h1 ▸ hz) h2 hr hm
  | ptr o g p =>
    simp only [doLoad] at h
    obtain ⟨e,h1,h2⟩:=hfit _ h
    obtain ⟨b,bs,hb,rfl⟩:=Rv_ptr hx
    cases ho:H[o]? with
    | none=>rw [ho] at e; cases e
    | some ob =>
      rw [ho] at e
      obtain ⟨b',bs',ys,hb',hr,hm⟩:=objGet_ok hs ho e
      rw [hb] at hb'
      cases hb'
      simp only [Instr.sureAddr,Sem.run_bind,Sem.run_pure,Result.andThen_ok]
      exact run_loadVar ha (h1 ▸ hz) h2 hr hm
  | _=>cases h
theorem nilCheck_ok {X v y} (hx:Rv C X v) (h:doNilCheck X = some y) :
    Rv C y v ∧ (match v with
    | .pointer none | .nilIface | .nilFunc=>False
    | .func (.method _) _ _=>False
    | _=>True):=by
  cases X with
  | iptr x=>cases h; obtain ⟨b,off,xs,rfl,_⟩:=Rv_iptr hx; exact ⟨hx,trivial⟩
  | ptr o g p=>cases h; obtain ⟨b,bs,_,rfl⟩:=Rv_ptr hx; exact ⟨hx,trivial⟩
  | fn f l=>cases h; obtain ⟨vs,rfl,_⟩:=Rv_fn hx; exact ⟨hx,trivial⟩
  | _=>cases h
theorem conv_ok {s d k X v y} (hd:P.underlying d = some (.int k)) (hsd:(P.underlying s).isSome = true) (hx:Rv C X v) (h:doConv k X = some y) :
    ∃ u,(convert s d v).run P C.w = .ok u C.w ∧ Rv C y u:=by
  cases X with
  | int k' n =>
    cases h
    rw [Rv_int hx]
    obtain ⟨ds,hds⟩:=Option.isSome_iff_exists.1 hsd
    refine ⟨.int k (k.wrap n),?_,mk_int _ _⟩
    unfold convert
    simp only [Sem.run_bind,run_underlying hds,run_underlying hd,Result.andThen_ok]
    cases ds <;> rfl
  | _=>cases h
theorem binInt_ok {op k x y z} (h:binInt op k x y = some z) (t:TypeId) (w:World) :
    ∃ u,(binOp op t (.int k x) (.int k y)).run P w = .ok u w ∧ ∀ C,Rv C z u:=by
  cases op <;> simp only [binInt,Option.some.injEq,reduceCtorEq] at h
  case quo =>
    split at h
    · cases h
    · rename_i hy; cases h
      exact ⟨.int k (k.wrap (x.tdiv y)),by simp [binOp,Op.intDiv,hy],fun C=>mk_int _ _⟩
  case rem =>
    split at h
    · cases h
    · rename_i hy; cases h
      exact ⟨.int k (x.tmod y),by simp [binOp,Op.intDiv,hy],fun C=>mk_int _ _⟩
  all_goals subst h
  case add=>exact ⟨_,by simp only [binOp,ne_eq,not_true_eq_false,if_false,Op.intArith]; rfl,fun C=>mk_int _ _⟩
  case sub=>exact ⟨_,by simp only [binOp,ne_eq,not_true_eq_false,if_false,Op.intArith]; rfl,fun C=>mk_int _ _⟩
  case mul=>exact ⟨_,by simp only [binOp,ne_eq,not_true_eq_false,if_false,Op.intArith]; rfl,fun C=>mk_int _ _⟩
  case and=>exact ⟨_,by simp only [binOp,ne_eq,not_true_eq_false,if_false,Op.intBits]; rfl,fun C=>mk_int _ _⟩
  case or=>exact ⟨_,by simp only [binOp,ne_eq,not_true_eq_false,if_false,Op.intBits]; rfl,fun C=>mk_int _ _⟩
  case xor=>exact ⟨_,by simp only [binOp,ne_eq,not_true_eq_false,if_false,Op.intBits]; rfl,fun C=>mk_int _ _⟩
  case andNot=>exact ⟨_,by simp only [binOp,ne_eq,not_true_eq_false,if_false,Op.intBits]; rfl,fun C=>mk_int _ _⟩
  all_goals exact ⟨_,by simp only [binOp,ne_eq,not_true_eq_false,if_false,Op.intCmp]; rfl,fun C=>mk_bool _⟩
theorem run_eql_bool2 (t:TypeId) (a b:Bool) (h:P.underlying t = some .bool) (w:World):(Op.equal t (.bool a) (.bool b)).run P w = .ok (a == b) w:=by
  unfold Op.equal Op.maxDepth
  rw [show (10000:Nat) = 9999 + 1 from rfl,Op.equalIn]
  simp only [Sem.run_bind,run_underlying h,Result.andThen_ok]
  rfl
theorem binb_ok {ne t X Y u v z} (ht:P.underlying t = some .bool) (hx:Rv C X u) (hy:Rv C Y v) (h:binB ne X Y = some z) :
    ∃ r,(binOp (if ne then .neq else .eql) t u v).run P C.w = .ok r C.w ∧ Rv C z r:=by
  cases X <;> cases Y <;> simp only [binB,reduceCtorEq,Option.some.injEq] at h
  rename_i a b
  subst h
  rw [Rv_bool hx,Rv_bool hy]
  cases ne with
  | false=>exact ⟨.bool (a == b),by simp only [Bool.false_eq_true,if_false,binOp,Sem.run_bind,run_eql_bool2 t a b ht,Result.andThen_ok,Sem.run_pure],mk_bool _⟩
  | true=>exact ⟨.bool (!(a == b)),by simp only [if_true,binOp,Sem.run_bind,run_eql_bool2 t a b ht,Result.andThen_ok,Sem.run_pure],mk_bool _⟩
theorem bin_ok {op t X Y u v z} (hx:Rv C X u) (hy:Rv C Y v) (h:binAV op X Y = some z):∃ r,(binOp op t u v).run P C.w = .ok r C.w ∧ Rv C z r:=by
  cases X <;> try (cases h; done)
  cases Y <;> try (cases h; done)
  rename_i k x k' y
  rw [Rv_int hx,Rv_int hy]
  have hgen:∀ op,(if k = k' then binInt op k x y else none) = some z → ∃ r,(binOp op t (.int k x) (.int k' y)).run P C.w = .ok r C.w ∧ Rv C z r:=by
    intro op h'
    split at h'
    · rename_i hk; subst hk
      obtain ⟨r,hr,hz⟩:=binInt_ok (P:=P) h' t C.w
      exact ⟨r,hr,hz C⟩
    · cases h'
  cases op
  case shl =>
    simp only [binAV] at h
    split at h
    · cases h
    · rename_i hn; cases h
      exact ⟨_,by simp only [binOp,Op.shift,hn,if_false]; rfl,mk_int _ _⟩
  case shr =>
    simp only [binAV] at h
    split at h
    · cases h
    · rename_i hn; cases h
      exact ⟨_,by simp only [binOp,Op.shift,hn,if_false]; rfl,mk_int _ _⟩
  all_goals exact hgen _ h
theorem un_ok {op X u z} (hx:Rv C X u) (h:unAV op X = some z):∃ r,(Op.unary op u).run P C.w = .ok r C.w ∧ Rv C z r:=by
  cases X <;> try (cases h; done)
  · rename_i b
    rw [Rv_bool hx]
    cases op <;> simp only [unAV,Option.some.injEq,reduceCtorEq] at h
    subst h; exact ⟨.bool !b,by simp only [Op.unary,Sem.run_pure],mk_bool _⟩
  · rename_i k n
    rw [Rv_int hx]
    cases op <;> simp only [unAV,Option.some.injEq,reduceCtorEq] at h
    · subst h; exact ⟨_,by simp only [Op.unary,Op.intArith]; rfl,mk_int _ _⟩
    · subst h; exact ⟨_,by simp only [Op.unary,Op.intBits]; rfl,mk_int _ _⟩
def fieldB (P:Program) (t:TypeId) (i:Nat):Option Field :=
  match P.underlying t with
  | some (.struct fs)=>fs[i]?
  | _=>none
theorem sizes_take_get {l:List AV} {css} (hl:Rcl C l css) {i:Nat} {y:AV} (hy:l[i]? = some y) :
    ∃ c,css.flatten = (css.take i).flatten ++ c ++ (css.drop (i + 1)).flatten ∧ (css.take i).flatten.length = AV.sizes (l.take i) ∧ Rc C y c:=by
  obtain ⟨c,hc,hr⟩:=Rcl_get l css i y hl hy
  exact ⟨c,flatten_split css i c hc,take_size hl i,hr⟩
theorem fieldAddr_ok {t i off f X v y} (hf:fieldB P t i = some f) (ho:f.offset = off) (hz:∃ n,sizeB P f.type = some n ∧ n ≠ 0) (hx:Rv C X v) (h:doFieldAddr i off X = some y) :
    ∃ u,(Instr.fieldAt t v i).run P C.w = .ok u C.w ∧ Rv C y u:=by
  obtain ⟨n,hn,hn0⟩:=hz
  have hrun:∀ b o,v = .pointer (some ⟨b,o,none⟩) → (Instr.fieldAt t v i).run P C.w = .ok (.pointer (some ⟨b,o + off,none⟩)) C.w:=by
    rintro b o rfl
    unfold fieldB at hf
    cases hu:P.underlying t with
    | none=>rw [hu] at hf; cases hf
    | some d =>
      rw [hu] at hf
      cases d <;> try (cases hf; done)
      rename_i fs
      simp [Instr.fieldAt,run_underlying hu,hf,Instr.sureAddr,fieldPlace,run_sizeOf hn,hn0,addr_add,ho]
  cases X with
  | iptr x =>
    cases x with
    | agg l =>
      simp only [doFieldAddr] at h
      split at h
      · rename_i hs
        obtain ⟨b,o,xs,rfl,hF,hr,hm⟩:=Rv_iptr hx
        cases hl:l[i]? with
        | none=>rw [hl] at h; cases h
        | some z =>
          rw [hl] at h; cases h
          simp only [Rc] at hr
          obtain ⟨css,hcl,rfl⟩:=hr
          obtain ⟨c,e1,e2,e3⟩:=sizes_take_get hcl hl
          refine ⟨_,hrun b o rfl,Rv_one ?_ rfl rfl⟩
          simp only [Rc]
          rw [e1] at hm
          have:=cellsAt_part hm
          rw [e2,hs] at this
          exact ⟨b,o + off,c,rfl,hF,e3,this⟩
      · cases h
    | _=>cases h
  | ptr o g p =>
    cases h
    obtain ⟨b,bs,hb,rfl⟩:=Rv_ptr hx
    refine ⟨_,hrun b _ rfl,Rv_one ?_ rfl rfl⟩
    simp only [Rc]
    exact ⟨b,bs,hb,by simp [offs]; omega⟩
  | _=>cases h
theorem fits_inv {ag sz q y} (h:fits ag sz q = some y):q = some y ∧ y.size = sz ∧ y.isA = ag:=by
  cases q with
  | none=>cases h
  | some z =>
    simp only [fits] at h
    split at h
    · rename_i hh; cases h; exact ⟨rfl,hh⟩
    · cases h
theorem field_ok {t i off ag sz f X v y} (hf:fieldB P t i = some f) (ho:f.offset = off) (ha:aggB P f.type = some ag) (hz:sizeB P f.type = some sz) (hx:Rv C X v) (h:doField i off ag sz X = some y) :
    ∃ u,(Instr.field t v i).run P C.w = .ok u C.w ∧ Rv C y u:=by
  cases X with
  | agg l =>
    simp only [doField] at h
    split at h
    · rename_i hs
      obtain ⟨e,h1,h2⟩:=fits_inv h
      obtain ⟨css,hcl,rfl⟩:=Rv_agg hx
      obtain ⟨c,e1,e2,e3⟩:=sizes_take_get hcl e
      have hlen:=Rc_len _ _ e3
      unfold fieldB at hf
      cases hu:P.underlying t with
      | none=>rw [hu] at hf; cases hf
      | some d =>
        rw [hu] at hf
        cases d <;> try (cases hf; done)
        rename_i fs
        simp only at hf
        have hcut:(css.flatten.drop off).take sz = c:=by
          rw [e1,← hs,← e2,List.append_assoc,List.drop_left,← h1,← hlen,List.take_left]
        cases ag with
        | true =>
          refine ⟨.agg c.toArray,?_,Rv_of (by simpa [Value.cells] using e3) h2.symm⟩
          simp only [Instr.field,Sem.run_bind,run_underlying hu,Result.andThen_ok,hf,asAgg,Sem.run_pure,part,run_isAgg ha,if_true,run_sizeOf hz,ho]
          congr 2
          rw [← hcut]
          apply Array.ext'
          simp
        | false =>
          have h1':c.length = 1:=by
            rw [hlen]
            cases y <;> first | rfl | cases h2
          match c,h1' with
          | [u],_ =>
            have hv:=Rc_one y [u] e3 u (by simp)
            have hva:vIsA u = false:=by cases u <;> first | rfl | cases hv
            refine ⟨u,?_,Rv_one e3 h2 hva⟩
            have hget:css.flatten[off]? = some u:=by
              rw [e1,← hs,← e2,List.append_assoc,List.getElem?_append_right (by omega)]; simp
            simp [Instr.field,run_underlying hu,hf,asAgg,part,run_isAgg ha,ho,hget]
    · cases h
  | _=>cases h
def sliceB (P:Program) (t:TypeId):Option TypeId :=
  match P.underlying t with
  | some (.slice e)=>some e
  | _=>none
theorem sliceB_inv {t e} (h:sliceB P t = some e):P.underlying t = some (.slice e):=by
  unfold sliceB at h
  cases hu:P.underlying t with
  | none=>rw [hu] at h; cases h
  | some d=>rw [hu] at h; cases d <;> first | (cases h; rfl) | cases h
theorem indexAddr_ok {t e sz X I v vi y} (ht:sliceB P t = some e) (hz:sizeB P e = some sz) (hx:Rv C X v) (hi:Rv C I vi) (h:doIndexAddr sz X I = some y) :
    ∃ u,(Instr.indexAt t v vi).run P C.w = .ok u C.w ∧ Rv C y u:=by
  have hu:=sliceB_inv ht
  have hrun:∀ b o len cap k (n:Int),v = .slice (some ⟨b,o,none⟩) len cap → vi = .int k n → 0 ≤ n → n < len →
      (Instr.indexAt t v vi).run P C.w = .ok (.pointer (some ⟨b,o + n.toNat * sz,none⟩)) C.w:=by
    rintro b o len cap k n rfl rfl h0 h1
    simp [Instr.indexAt,asIntOf,run_underlying hu,h0,h1,run_sizeOf hz,addr_add]
  cases I with
  | int k n =>
    have hvi:=Rv_int hi
    cases X with
    | isl l =>
      simp only [doIndexAddr] at h
      split at h
      · rename_i h0
        cases hl:l[n.toNat]? with
        | none=>rw [hl] at h; cases h
        | some z =>
          rw [hl] at h
          simp only [iptrOf] at h
          split at h
          · rename_i hzs
            cases h
            have hlt:n.toNat < l.length:=(List.getElem?_eq_some_iff.1 hl).1
            obtain ⟨a,cap,rfl,hn⟩:=Rv_isl hx
            rcases hn with hn | ⟨b,off,css,sz',rfl,hF,hc,hr,hun,hm⟩
            · omega
            · obtain ⟨c,hcc,hrz⟩:=Rcl_get l css _ z hr hl
              have hsz:sz' = sz:=by rw [← hzs,← Rc_len _ _ hrz]; exact (hun c (List.mem_of_getElem? hcc)).symm
              subst hsz
              refine ⟨_,hrun b off _ cap k n rfl hvi h0 (by omega),Rv_one ?_ rfl rfl⟩
              simp only [Rc]
              rw [flatten_split css _ c hcc] at hm
              have:=cellsAt_part hm
              rw [take_uniform css hun _ (by have:=(List.getElem?_eq_some_iff.1 hcc).1; omega)] at this
              exact ⟨b,off + n.toNat * sz',c,rfl,hF,hrz,this⟩
          · cases h
      · cases h
    | sl o g sz' st len =>
      simp only [doIndexAddr] at h
      split at h
      · rename_i hh
        obtain ⟨h0,h1,h2⟩:=hh
        subst h2
        cases h
        rcases Rv_sl hx with ⟨b,bs,cap,hb,rfl,hl,hroom⟩ | ⟨_,_,hl,_⟩
        · refine ⟨_,hrun b _ len cap k n rfl hvi h0 h1,Rv_one ?_ rfl rfl⟩
          simp only [Rc]
          exact ⟨b,bs,hb,by simp [offs,Nat.add_mul]; omega⟩
        · omega
      · cases h
    | _=>cases h
  | _=>cases X <;> cases h
theorem indexArr_ok {t e n sz X I v vi y} (ht:P.underlying t = some (.array n e)) (hz:sizeB P e = some sz) (hx:Rv C X v) (hi:Rv C I vi) (h:doIndexArr n sz X I = some y) :
    ∃ u,(Instr.indexAt t v vi).run P C.w = .ok u C.w ∧ Rv C y u:=by
  have hrun:∀ b o k (i:Int),v = .pointer (some ⟨b,o,none⟩) → vi = .int k i → 0 ≤ i → i < n →
      (Instr.indexAt t v vi).run P C.w = .ok (.pointer (some ⟨b,o + i.toNat * sz,none⟩)) C.w:=by
    rintro b o k i rfl rfl h0 h1
    simp [Instr.indexAt,asIntOf,run_underlying ht,Instr.sureAddr,h0,h1,run_sizeOf hz,addr_add]
  cases I with
  | int k i =>
    have hvi:=Rv_int hi
    cases X with
    | iptr x =>
      cases x with
      | agg l =>
        simp only [doIndexArr] at h
        split at h
        · rename_i hh
          obtain ⟨h0,h1,hs⟩:=hh
          obtain ⟨b,o,xs,rfl,hF,hr,hm⟩:=Rv_iptr hx
          cases hl:l[i.toNat]? with
          | none=>rw [hl] at h; cases h
          | some z =>
            rw [hl] at h
            simp only [iptrOf] at h
            split at h
            · cases h
              simp only [Rc] at hr
              obtain ⟨css,hcl,rfl⟩:=hr
              obtain ⟨c,e1,e2,e3⟩:=sizes_take_get hcl hl
              refine ⟨_,hrun b o k i rfl hvi h0 h1,Rv_one ?_ rfl rfl⟩
              simp only [Rc]
              rw [e1] at hm
              have:=cellsAt_part hm
              rw [e2,hs] at this
              exact ⟨b,_,c,rfl,hF,e3,this⟩
            · cases h
        · cases h
      | _=>cases h
    | ptr o g p =>
      simp only [doIndexArr] at h
      split at h
      · rename_i hh
        cases h
        obtain ⟨b,bs,hb,rfl⟩:=Rv_ptr hx
        refine ⟨_,hrun b _ k i rfl hvi hh.1 hh.2,Rv_one ?_ rfl rfl⟩
        simp only [Rc]
        exact ⟨b,bs,hb,by simp [offs]; omega⟩
      · cases h
    | _=>cases h
  | _ =>
    cases X with
    | iptr x=>cases x <;> cases h
    | _=>cases h
theorem indexStr_ok {t X I v vi y} (ht:P.underlying t = some .string) (hx:Rv C X v) (hi:Rv C I vi) (h:doIndexStr X I = some y) :
    ∃ u,(Instr.index t v vi).run P C.w = .ok u C.w ∧ Rv C y u:=by
  cases X with
  | a x =>
    cases I with
    | int k n =>
      cases x <;> try (cases h; done)
      rename_i s
      simp only [doIndexStr] at h
      split at h
      · rename_i h0
        cases hs:s[n.toNat]? with
        | none=>rw [hs] at h; cases h
        | some b =>
          rw [hs] at h; cases h
          rw [(Rv_a hx).1,Rv_int hi]
          exact ⟨.int .u8 b.toNat,by simp [Instr.index,asIntOf,run_underlying ht,h0,hs],mk_int _ _⟩
      · cases h
    | _=>cases x <;> cases h
  | _=>cases I <;> cases h
end Tor
namespace Tor
open Go Go.RowKit
variable {P:Program} {base:Nat} {C:Cx} {H:Heap}
theorem headSize_uniform {l:List AV} {css:List (List Value)} {sz sz':Nat} (hr:Rcl C l css) (hu:∀ c ∈ css,c.length = sz') (h:headSize sz l = true) (hne:l ≠ []):sz' = sz:=by
  cases l with
  | nil=>exact absurd rfl hne
  | cons x l =>
    simp only [Rcl] at hr
    obtain ⟨c,r,e,hx,_⟩:=hr
    subst e
    simp only [headSize,beq_iff_eq] at h
    rw [← h,← Rc_len x c hx]
    exact (hu c (by simp)).symm
def RvO (C:Cx) (o:Option AV) (ov:Option Value):Prop :=
  match o,ov with
  | none,none=>True
  | some x,some v=>Rv C x v
  | _,_=>False
theorem bound_cases {o ov d n} (hr:RvO C o ov) (h:bound o d = some n):(ov = none ∧ n = d) ∨ ∃ k,ov = some (.int k n):=by
  cases o with
  | none=>cases ov with
    | none=>cases h; exact .inl ⟨rfl,rfl⟩
    | some v=>exact hr.elim
  | some x =>
    cases ov with
    | none=>exact hr.elim
    | some v =>
      cases x <;> try (cases h; done)
      cases h
      exact .inr ⟨_,by rw [Rv_int hr]⟩
theorem run_sliceBound {k:IntKind} {n:Int} {y:Nat} {code} (h0:0 ≤ n) (h1:n ≤ y) (w:World):(Instr.sliceBound (.int k n) y code).run P w = .ok n.toNat w:=by
  simp [Instr.sliceBound,asIntOf,h0,h1]
theorem sliceIn_inv {n a b c r} (h:sliceIn n a b c = some r):∃ i j k,a = some i ∧ b = some j ∧ c = some k ∧ 0 ≤ i ∧ i ≤ j ∧ j ≤ k ∧ k ≤ n ∧ r = (i.toNat,j.toNat):=by
  cases a <;> cases b <;> cases c <;> simp only [sliceIn,reduceCtorEq] at h
  split at h
  · rename_i i j k hh
    cases h
    exact ⟨i,j,k,rfl,rfl,rfl,hh.1,hh.2.1,hh.2.2.1,hh.2.2.2,rfl⟩
  · cases h
theorem run_sliceBounds {len cap:Nat} {lo hi mx:Option AV} {vlo vhi vmx:Option Value} {i j:Nat} (hlo:RvO C lo vlo) (hhi:RvO C hi vhi) (hmx:RvO C mx vmx) (hc:len ≤ cap)
    (hmh:vmx.isSome = true → vhi.isSome = true)
    (h:sliceIn len (bound lo 0) (bound hi len) (bound mx len) = some (i,j)) :
    ∃ m,(Instr.sliceBounds true len cap vlo vhi vmx).run P C.w = .ok (i,j,m) C.w ∧ i ≤ j ∧ j ≤ m ∧ m ≤ cap ∧ j ≤ len:=by
  obtain ⟨i',j',k',h1,h2,h3,a1,a2,a3,a4,e⟩:=sliceIn_inv h
  cases e
  have f1:∀ (k:IntKind) code,(Instr.sliceBound (.int k k') cap code).run P C.w = .ok k'.toNat C.w:=fun k code=>run_sliceBound (by omega) (by omega) _
  have f2:∀ (k:IntKind) code,(Instr.sliceBound (.int k j') k'.toNat code).run P C.w = .ok j'.toNat C.w:=fun k code=>run_sliceBound (by omega) (by omega) _
  have f3:∀ (k:IntKind) code,(Instr.sliceBound (.int k j') cap code).run P C.w = .ok j'.toNat C.w:=fun k code=>run_sliceBound (by omega) (by omega) _
  have f4:∀ (k:IntKind) code,(Instr.sliceBound (.int k i') j'.toNat code).run P C.w = .ok i'.toNat C.w:=fun k code=>run_sliceBound (by omega) (by omega) _
  rcases bound_cases hmx h3 with ⟨e3,e3'⟩ | ⟨k3,e3⟩
  · refine ⟨cap,?_,by omega,by omega,Nat.le_refl _,by omega⟩
    rcases bound_cases hhi h2 with ⟨e2,e2'⟩ | ⟨k2,e2⟩ <;> rcases bound_cases hlo h1 with ⟨e1,e1'⟩ | ⟨k1,e1⟩ <;> subst e1 e2 e3
    · subst e1' e2'; simp [Instr.sliceBounds]
    · subst e2'
      have:=f4 k1
      simp at this
      simp [Instr.sliceBounds,this]
    · subst e1'; simp [Instr.sliceBounds,f3]
    · simp [Instr.sliceBounds,f3,f4]
  · refine ⟨k'.toNat,?_,by omega,by omega,by omega,by omega⟩
    rcases bound_cases hhi h2 with ⟨e2,e2'⟩ | ⟨k2,e2⟩
    · subst e2; subst e3; exact absurd (hmh rfl) (by simp)
    · rcases bound_cases hlo h1 with ⟨e1,e1'⟩ | ⟨k1,e1⟩ <;> subst e1 e2 e3
      · subst e1'; simp [Instr.sliceBounds,f1,f2]
      · simp [Instr.sliceBounds,f1,f2,f4]
theorem slice_ok {t e sz lo hi mx X vlo vhi vmx v y} (ht:sliceB P t = some e) (hz:sizeB P e = some sz) (hlo:RvO C lo vlo) (hhi:RvO C hi vhi) (hmx:RvO C mx vmx)
    (hmh:vmx.isSome = true → vhi.isSome = true) (hx:Rv C X v) (h:doSlice sz lo hi mx X = some y) :
    ∃ u,(Instr.sliceAt t v vlo vhi vmx).run P C.w = .ok u C.w ∧ Rv C y u:=by
  have hu:=sliceB_inv ht
  have hrun:∀ a len cap i j,v = .slice a len cap → len ≤ cap → sliceIn len (bound lo 0) (bound hi len) (bound mx len) = some (i,j) →
      ∃ m,(Instr.sliceAt t v vlo vhi vmx).run P C.w = .ok (.slice (if m = i then a else a.map (·.add (i * sz))) (j - i) (m - i)) C.w ∧ i ≤ j ∧ j ≤ m ∧ m ≤ cap ∧ j ≤ len:=by
    rintro a len cap i j rfl hc hs
    obtain ⟨m,hm,r⟩:=run_sliceBounds (P:=P) hlo hhi hmx hc hmh hs
    refine ⟨m,?_,r⟩
    simp [Instr.sliceAt,Instr.slice,run_underlying hu,hm,run_sizeOf hz]
  cases X with
  | isl l =>
    simp only [doSlice] at h
    split at h
    · rename_i hhs
      cases hs:sliceIn l.length (bound lo 0) (bound hi l.length) (bound mx l.length) with
      | none=>rw [hs] at h; cases h
      | some r =>
        obtain ⟨i,j⟩:=r
        rw [hs] at h
        cases h
        obtain ⟨a,cap,rfl,hn⟩:=Rv_isl hx
        have hflat:∀ i j,AV.hasRefs ((l.take j).drop i) = false:=fun i j=>hasRefs_of_mem fun x hxm=>hasRefs_mem (Rv_isl_flat hx) x (List.mem_of_mem_take (List.mem_of_mem_drop hxm))
        have hj:∀ b off css sz',a = some (⟨b,off,none⟩:Addr) → l.length ≤ cap → Rcl C l css → (∀ c ∈ css,c.length = sz') → C.F b → cellsAt C.w b off css.flatten → ∃ u,(Instr.sliceAt t (.slice a l.length cap) vlo vhi vmx).run P C.w = .ok u C.w ∧ Rv C (.isl ((l.take j).drop i)) u:=by
          rintro b off css sz' rfl hc hr hun hF hm
          obtain ⟨m,hrn,q1,q2,q3,q4⟩:=hrun _ _ _ i j rfl hc hs
          refine ⟨_,hrn,Rv_one ?_ rfl rfl⟩
          simp only [Rc]
          refine ⟨hflat _ _,_,rfl,_,_,by simp only [List.length_drop,List.length_take]; rw [Nat.min_eq_left q4],?_⟩
          by_cases hij:i = j
          · left; simp; omega
          · right
            have hne:l ≠ []:=fun e=>by subst e; simp at q4; omega
            have:=headSize_uniform hr hun hhs hne
            subst this
            have hcount:=Rcl_count l css hr
            refine ⟨b,off + i * sz',(css.take j).drop i,sz',?_,hF,by simp only [List.length_drop,List.length_take]; omega,Rcl_drop _ _ _ (Rcl_take _ _ _ hr),fun c hc=>hun c (List.mem_of_mem_take (List.mem_of_mem_drop hc)),?_⟩
            · rw [if_neg (by omega)]; simp [addr_add]
            · have e:css.flatten = (css.take i).flatten ++ ((css.take j).drop i).flatten ++ (css.drop j).flatten:=by
                rw [← List.flatten_append,← List.flatten_append]
                congr 1
                rw [show css.take i = (css.take j).take i by rw [List.take_take,Nat.min_eq_left q1],List.take_append_drop,List.take_append_drop]
              rw [e] at hm
              have:=cellsAt_part hm
              rw [take_uniform css hun i (by omega)] at this
              exact this
        rcases hn with hn | ⟨b,off,css,sz',ha,hF,hc,hr,hun,hm⟩
        · have hle:l = []:=List.length_eq_zero_iff.1 hn
          subst hle
          obtain ⟨i',j',k',_,_,_,x1,x2,x3,x4,e⟩:=sliceIn_inv hs
          cases e
          obtain ⟨m,hrn,q1,q2,q3,q4⟩:=hrun a 0 cap _ _ rfl (Nat.zero_le _) hs
          rw [show j'.toNat - i'.toNat = 0 by omega] at hrn
          refine ⟨_,hrn,Rv_one ?_ rfl rfl⟩
          simp only [Rc]
          refine ⟨by simpa using hflat i'.toNat j'.toNat,_,rfl,_,_,by rw [show (List.drop i'.toNat (List.take j'.toNat ([]:List AV))).length = 0 by simp],.inl (by simp)⟩
        · exact hj b off css sz' ha hc hr hun hF hm
    · cases h
  | sl o g sz' s len =>
    simp only [doSlice] at h
    split at h
    · rename_i he
      subst he
      cases hs:sliceIn len (bound lo 0) (bound hi len) (bound mx len) with
      | none=>rw [hs] at h; cases h
      | some r =>
        obtain ⟨i,j⟩:=r
        rw [hs] at h
        cases h
        rcases Rv_sl hx with ⟨b,bs,cap,hb,rfl,hl,hroom⟩ | ⟨q,hb,hl,a,rfl⟩
        · obtain ⟨m,hrn,q1,q2,q3,q4⟩:=hrun _ _ _ i j rfl hl hs
          by_cases hmi:m = i
          · -- nothing is left: the place is the elder one
            refine ⟨_,hrn,Rv_one ?_ rfl rfl⟩
            simp only [Rc]
            exact .inr ⟨_,hb,by omega,_,by rw [show j - i = 0 by omega,show m - i = 0 by omega]⟩
          · refine ⟨_,hrn,Rv_one ?_ rfl rfl⟩
            simp only [Rc]
            refine .inl ⟨b,bs,m - i,hb,?_,by omega,?_⟩
            · rw [if_neg hmi]; simp [addr_add,Nat.add_mul,Nat.add_assoc]
            · obtain ⟨e',n,hsh,hn⟩:=hroom
              refine ⟨e',n,hsh,?_⟩
              have:bs + s * sz' + i * sz' + (m - i) * sz' = bs + s * sz' + m * sz':=by
                rw [Nat.add_assoc (bs + s * sz'),← Nat.add_mul]; congr 2; omega
              have h2:m * sz' ≤ cap * sz':=Nat.mul_le_mul_right _ q3
              rw [Nat.add_mul]; omega
        · subst hl
          obtain ⟨i',j',k',_,_,_,x1,x2,x3,x4,e⟩:=sliceIn_inv hs
          cases e
          obtain ⟨m,hrn,q1,q2,q3,q4⟩:=hrun a 0 0 _ _ rfl (Nat.le_refl _) hs
          refine ⟨_,hrn,Rv_one ?_ rfl rfl⟩
          simp only [Rc]
          refine .inr ⟨q,hb,by omega,_,by rw [show j'.toNat - i'.toNat = 0 by omega,show m - i'.toNat = 0 by omega]⟩
    · cases h
  | _=>cases h
def lenKind (P:Program) (t:TypeId):Nat → Bool
  | 0=>match P.underlying t with | some (.slice _)=>true | _=>false
  | 1=>match P.underlying t with | some (.map _ _)=>true | _=>false
  | 2=>match P.underlying t with | some .string=>true | _=>false
  | _=>false
theorem MapR_length {r es} (h:MapR C r es):r.length = es.length:=by
  induction h with
  | nil=>rfl
  | cons _ _ _ _ ih=>simp [ih]
theorem run_getMap {b es cl} (h:C.w.heap[b]? = some (.map es cl)):(getObj b).run P C.w = .ok (.map es cl) C.w:=by
  simp only [getObj,Sem.run,h]
theorem obj_map (hs:Sim base C H) {o kvs} (ho:H[o]? = some (.map kvs)):∃ b es clock,C.β o 0 = some (some (b,0)) ∧ C.w.heap[b]? = some (.map es clock) ∧ MapRS C kvs es clock ∧ base ≤ b ∧ ¬ C.F b :=
  (hs.obj o _ ho).1
theorem len_ok (hs:Sim base C H) {kd t ty X v y} (ht:lenKind P t kd = true) (hx:Rv C X v) (h:doLen H kd X = some y) :
    ∃ u,(Builtin.len_ #[t] ty #[v]).run P C.w = .ok u C.w ∧ Rv C y u:=by
  match kd with
  | 0 =>
    simp only [lenKind] at ht
    split at ht
    · rename_i e hu
      have hrun:∀ a n cap,v = .slice a n cap → (Builtin.len_ #[t] ty #[v]).run P C.w = .ok (.int .i64 n) C.w:=by
        rintro a n cap rfl
        simp [Builtin.len_,run_underlying hu,goInt]
      cases X with
      | isl l=>cases h; obtain ⟨a,cap,rfl,_⟩:=Rv_isl hx; exact ⟨_,hrun _ _ _ rfl,mk_int _ _⟩
      | nl=>cases h; rw [Rv_nl hx] at hrun ⊢; exact ⟨_,hrun _ _ _ rfl,mk_int _ _⟩
      | sl o g sz s len =>
        cases h
        rcases Rv_sl hx with ⟨b,bs,cap,_,rfl,_⟩ | ⟨q,_,hl,a,rfl⟩
        · exact ⟨_,hrun _ _ _ rfl,mk_int _ _⟩
        · subst hl; exact ⟨_,hrun _ _ _ rfl,mk_int _ _⟩
      | _=>cases h
    · cases ht
  | 1 =>
    simp only [lenKind] at ht
    split at ht
    · rename_i k e hu
      cases X with
      | mp o =>
        simp only [doLen] at h
        cases ho:H[o]? with
        | none=>rw [ho] at h; cases h
        | some ob =>
          rw [ho] at h
          cases ob <;> try (cases h; done)
          rename_i kvs
          cases h
          obtain ⟨b,es,cl,h1,h2,h3,_⟩:=obj_map hs ho
          obtain ⟨b',h1',rfl⟩:=Rv_mp hx
          rw [h1] at h1'; cases h1'
          refine ⟨_,?_,mk_int _ _⟩
          have:=MapR_length h3.1
          simp [Builtin.len_,run_underlying hu,goInt,run_getMap h2,this]
      | _=>cases h
    · cases ht
  | 2 =>
    simp only [lenKind] at ht
    split at ht
    · rename_i hu
      cases X with
      | a x =>
        cases x <;> try (cases h; done)
        rename_i s
        cases h
        rw [(Rv_a hx).1]
        exact ⟨.int .i64 s.size,by simp [Builtin.len_,run_underlying hu,goInt],mk_int _ _⟩
      | _=>cases h
    · cases ht
  | n + 3=>cases ht
def intKind:TypeDesc → Bool
  | .int _=>true
  | _=>false
theorem checkKey_int {kt k n} {d:TypeDesc} (hd:P.underlying kt = some d) (hk:intKind d = true) (em:Bool) (w:World):(Instr.checkKey em 10000 kt (.int k n)).run P w = .ok () w:=by
  rw [show (10000:Nat) = 9999 + 1 from rfl,Instr.checkKey]
  simp only [Sem.run_bind,run_underlying hd,Result.andThen_ok]
  cases d <;> first | rfl | cases hk
theorem findNow_ok {d:TypeDesc} (hk:intKind d = true) (n:Int):∀ (kvs:List (Int × AV)) (es:List MapEntry) (i:Nat),MapR C kvs es →
    ∃ r,Instr.findNow d (.int .i64 n) es i = some r ∧ match mfind n kvs with
      | some x=>∃ j e,r = some (i + j,e.val) ∧ es[j]? = some e ∧ Rv1 C x e.val ∧ x.known = true ∧ e.key = .int .i64 n
      | none=>r = none
  | [],_,i,h=>by cases h; exact ⟨none,rfl,rfl⟩
  | (m,x) :: kvs,_,i,h=>by
    cases h with
    | cons hkey hval hkn hrest =>
      rename_i e es
      have hs:Instr.sameNow d (.int .i64 n) e.key = some (n == m):=by
        cases d <;> try (cases hk; done)
        simp [Instr.sameNow,hkey]
      by_cases hnm:n = m
      · subst hnm
        refine ⟨some (i,e.val),by simp [Instr.findNow,hs],?_⟩
        simp only [mfind,if_pos]
        exact ⟨0,e,rfl,rfl,hval,hkn,hkey⟩
      · obtain ⟨r,hr,hm⟩:=findNow_ok hk n kvs es (i + 1) hrest
        have hb:(n == m) = false:=by simp [hnm]
        refine ⟨r,by simp [Instr.findNow,hs,hb,hr],?_⟩
        simp only [mfind,if_neg hnm]
        cases hf:mfind n kvs with
        | none=>rw [hf] at hm; exact hm
        | some x' =>
          rw [hf] at hm
          obtain ⟨j,e',h1,h2,h3⟩:=hm
          exact ⟨j + 1,e',by rw [h1]; congr 2; omega,h2,h3⟩
def mapB (P:Program) (t:TypeId):Option (TypeId × TypeId) :=
  match P.underlying t with
  | some (.map k e)=>some (k,e)
  | _=>none
theorem mapB_inv {t k e} (h:mapB P t = some (k,e)):P.underlying t = some (.map k e):=by
  unfold mapB at h
  cases hu:P.underlying t with
  | none=>rw [hu] at h; cases h
  | some d=>rw [hu] at h; cases d <;> first | (cases h; rfl) | cases h
def zeroB (P:Program) (t:TypeId):Option Value:=(P.info? t).bind (·.zero)
theorem run_zeroValue {t z} (h:zeroB P t = some z) (w:World):(zeroValue t).run P w = .ok z w:=by
  unfold zeroB at h
  cases hi:P.info? t with
  | none=>rw [hi] at h; cases h
  | some i =>
    rw [hi] at h
    simp only [Option.bind_some] at h
    simp [zeroValue,typeInfo,hi,h]
theorem Rv_tup_mk {l} {vs:List Value} (h:Rvl C l vs):Rv C (.tup l) (.tuple vs.toArray):=.inr ⟨l,vs.toArray,rfl,rfl,by simpa using h⟩
theorem known_Rv1 {x v} (hk:x.known = true) (h:Rv C x v):Rv1 C x v:=.inr (Rv_known hk h)
theorem lookup_ok (hs:Sim base C H) {t kt et kd z zv ok X K v vk y} (ht:mapB P t = some (kt,et)) (hkt:P.underlying kt = some kd) (hki:intKind kd = true)
    (hz:zeroB P et = some zv) (hzr:Rv1 C z zv) (hx:Rv C X v) (hk:Rv C K vk) (h:doLookup z ok H X K = some y) :
    ∃ u,(Instr.lookup t v vk ok).run P C.w = .ok u C.w ∧ Rv C y u:=by
  cases X <;> try (cases h; done)
  cases K <;> try (cases h; done)
  rename_i o k n
  cases k <;> try (cases h; done)
  simp only [doLookup] at h
  cases ho:H[o]? with
  | none=>rw [ho] at h; cases h
  | some ob =>
    rw [ho] at h
    cases ob <;> try (cases h; done)
    rename_i kvs
    cases h
    obtain ⟨b,es,cl,h1,h2,h3,_⟩:=obj_map hs ho
    obtain ⟨b',h1',rfl⟩:=Rv_mp hx
    rw [h1] at h1'; cases h1'
    rw [Rv_int hk]
    obtain ⟨r,hr,hm⟩:=findNow_ok hki n kvs es.toList 0 h3.1
    have hfk:(Instr.findKey kt (.int .i64 n) es.toList).run P C.w = .ok r C.w:=by
      simp only [Instr.findKey,Sem.run_bind,run_underlying hkt,Result.andThen_ok,hr,Sem.run_pure]
    cases hf:mfind n kvs with
    | none =>
      rw [hf] at hm
      subst hm
      refine ⟨if ok then .tuple #[zv,.bool false] else zv,?_,?_⟩
      · simp only [Instr.lookup,Sem.run_bind,run_underlying (mapB_inv ht),Result.andThen_ok,run_getMap h2,Sem.run_pure,checkKey_int hkt hki,hfk,run_zeroValue hz]
      · cases ok
        · exact .inl hzr
        · exact Rv_tup_mk (.cons hzr (.cons (.inr (Rv_known rfl (mk_bool _))) .nil))
    | some x =>
      rw [hf] at hm
      obtain ⟨j,e,rfl,_,hv,hkn,_⟩:=hm
      refine ⟨if ok then .tuple #[e.val,.bool true] else e.val,?_,?_⟩
      · simp only [Instr.lookup,Sem.run_bind,run_underlying (mapB_inv ht),Result.andThen_ok,run_getMap h2,Sem.run_pure,checkKey_int hkt hki,hfk]
      · cases ok
        · exact .inl hv
        · exact Rv_tup_mk (.cons hv (.cons (.inr (Rv_known rfl (mk_bool _))) .nil))
theorem Rvl_get {l vs} (h:Rvl C l vs):∀ (i:Nat) (y:AV),l[i]? = some y → ∃ u,vs[i]? = some u ∧ Rv1 C y u:=by
  induction h with
  | nil=>intro i y h; simp at h
  | cons a _ ih =>
    intro i y h
    cases i with
    | zero=>simp at h; subst h; exact ⟨_,by simp,a⟩
    | succ i=>simp at h; obtain ⟨u,h1,h2⟩:=ih i y h; exact ⟨u,by simp [h1],h2⟩
theorem extract_ok {i X v y} (hx:Rv C X v) (h:doExtract i X = some y):∃ u,(Instr.extract v i).run P C.w = .ok u C.w ∧ Rv C y u:=by
  cases X <;> try (cases h; done)
  rename_i l
  obtain ⟨vs,rfl,hl⟩:=Rv_tup hx
  obtain ⟨u,h1,h2⟩:=Rvl_get hl i y h
  have h1':vs[i]? = some u:=by rw [← h1]; simp
  exact ⟨u,by simp [Instr.extract,h1'],.inl h2⟩
theorem mkfn_caps:∀ {l vs},Rvl C l vs → l.all capOk = true → Rcl C l (vs.map fun v=>[v])
  | [],_,h,_=>by cases h; rfl
  | x :: l,_,h,hc=>by
    cases h with
    | cons h1 h2 =>
      simp only [List.all_cons,Bool.and_eq_true] at hc
      obtain ⟨hx,hl⟩:=hc
      simp only [capOk,Bool.and_eq_true,Bool.not_eq_true',beq_iff_eq] at hx
      obtain ⟨a,b⟩:=Rv_known hx.1.1 (.inl h1)
      simp only [List.map_cons,Rcl]
      refine ⟨_,_,rfl,?_,mkfn_caps h2 hl⟩
      rw [cells_one (b.trans hx.2)] at a
      exact a
theorem mkfn_ok {g l vs y} (hl:Rvl C l vs) (h:doMkfn g l = some y):Rv C y (.func (.func (C.ι g)) #[] vs.toArray):=by
  unfold doMkfn at h
  split at h
  · rename_i hc
    cases h
    refine Rv_one ?_ rfl rfl
    simp only [Rc]
    refine ⟨fun x hx=>?_,_,rfl,by simpa using mkfn_caps hl hc⟩
    have:=List.all_eq_true.1 hc x hx
    simp only [capOk,Bool.and_eq_true,Bool.not_eq_true'] at this
    exact this.2
  · cases h
theorem foldMM_ok (mx:Bool):∀ {l vs X v y},Rv C X v → Rvl C l vs → foldMM mx X l = some y →
    ∃ u,(vs.foldlM (if mx then Builtin.max2 else Builtin.min2) v).run P C.w = .ok u C.w ∧ Rv C y u
  | [],_,X,v,y,hx,hl,h=>by
    cases hl
    cases X <;> try (cases h; done)
    cases h
    exact ⟨v,rfl,hx⟩
  | x :: l,_,X,v,y,hx,hl,h=>by
    cases hl with
    | cons h1 h2 =>
      rename_i v1 vs
      cases X <;> try (cases h; done)
      cases x <;> try (cases h; done)
      rename_i k m k' n
      simp only [foldMM] at h
      split at h
      · rename_i hk
        subst hk
        rw [Rv_int hx,Rv_int (.inl h1)]
        obtain ⟨u,h3,h4⟩:=foldMM_ok mx (mk_int k (if (if mx = true then n > m else n < m) then n else m)) h2 h
        refine ⟨u,?_,h4⟩
        simp only [List.foldlM_cons,Sem.run_bind]
        cases mx <;> simpa [Builtin.max2,Builtin.min2] using h3
      · cases h
end Tor
namespace Tor
open Go Go.RowKit
variable {P:Program} {base:Nat} {C:Cx} {H:Heap}
structure Grow (w w':World):Prop where
  os:w'.os = w.os
  tape:w'.tape = w.tape
  output:w'.output = w.output
  size:w.heap.size ≤ w'.heap.size
  old:∀ b,b < w.heap.size → w'.heap[b]? = w.heap[b]?
theorem Grow.refl (w:World):Grow w w:=⟨rfl,rfl,rfl,Nat.le_refl _,fun _ _=>rfl⟩
theorem Grow.alloc (w:World) (o:Obj):Grow w (w.alloc o):=⟨rfl,rfl,rfl,by simp,fun b hb=>heap_alloc_old w o b hb⟩
theorem Grow.drewAlloc (w:World) (o:Obj):Grow w (w.drew.alloc o):=⟨rfl,rfl,rfl,by simp,fun b hb=>heap_alloc_old w.drew o b hb⟩
theorem Grow.drew (w:World):Grow w w.drew:=⟨rfl,rfl,rfl,Nat.le_refl _,fun _ _=>rfl⟩
theorem Grow.below {w w':World} (h:Grow w w') {B:Nat} (hB:B ≤ w.heap.size):Below B w w':=⟨h.os,h.tape,h.output,h.size,fun k hk=>h.old k (by omega)⟩
theorem Grow.shape {w w':World} (h:Grow w w') {b s} (hs:w.shape? b = some s):w'.shape? b = some s:=by
  have hlt:b < w.heap.size:=by
    unfold World.shape? at hs
    split at hs
    · rename_i hh; exact lt_of_heap hh
    · cases hs
  rw [← hs]
  unfold World.shape?
  rw [h.old b hlt]
structure Step (base ent:Nat) (C:Cx) (H:Heap) (C':Cx) (H':Heap):Prop where
  le:Le C C'
  sim:Sim base C' H'
  below:Below base C.w C'.w
  fgr:∀ b,C'.F b → C.F b ∨ base ≤ b
  priv:∀ b,b < ent → ¬ C.F b → (∀ o ob,H[o]? = some ob → blk C o ob ≠ some b) → C'.w.heap[b]? = C.w.heap[b]? ∧ ¬ C'.F b ∧ ∀ o ob,H'[o]? = some ob → blk C' o ob ≠ some b
abbrev OStep (base:Nat) (C:Cx) (H:Heap) (C':Cx) (H':Heap):Prop:=Step base C.w.heap.size C H C' H'
def Cx.with (C:Cx) (w:World) (n:Nat) (q:Option (Nat × Nat)):Cx:={ C with w:=w,β:=fun o g=>if o = n ∧ g = 0 then some q else C.β o g }
theorem le_with (hs:Sim base C H) {w'} (hg:Grow C.w w') (q):Le C (C.with w' H.length q) where
  ι:=rfl
  F _ h:=h
  β o g p h:=by
    have:¬ (o = H.length ∧ g = 0):=by
      rintro ⟨rfl,rfl⟩
      rw [hs.dom H.length (Nat.le_refl _) 0] at h; cases h
    simp [Cx.with,this,h]
  mem b hb:=hg.old b (hs.fsz b hb)
  shp b s h:=hg.shape h
theorem push_step (hs:Sim base C H) {w'} (hg:Grow C.w w') {q ob} (ho:ObjOk base (C.with w' H.length q) H.length ob)
    (hb:∀ b bs,q = some (b,bs) → C.w.heap.size ≤ b):OStep base C H (C.with w' H.length q) (H ++ [ob]):=by
  have hle:=le_with hs hg q
  have hnew:∀ b,blk (C.with w' H.length q) H.length ob = some b → C.w.heap.size ≤ b:=by
    intro b hbk
    have key:∀ g,bOf ((C.with w' H.length q).β H.length g) = some b → C.w.heap.size ≤ b:=by
      intro g h
      simp only [Cx.with] at h
      split at h
      · cases q with
        | none=>cases h
        | some p=>obtain ⟨b',bs⟩:=p; cases h; exact hb _ _ rfl
      · rw [hs.dom H.length (Nat.le_refl _) g] at h; cases h
    cases ob with
    | var x=>exact key 0 hbk
    | arr g sz l=>exact key g hbk
    | map kvs=>exact key 0 hbk
    | dead=>cases hbk
  refine ⟨hle,hs.push hle (fun _=>Iff.rfl) hg.size (fun o g hlt=>?_) (fun o g hlt=>?_) (fun b hb=>hg.old b hb) ho ?_ hnew,hg.below hs.bsz,fun _ h=>.inl h,fun b hlt hF hno=>⟨hg.old b hlt,hF,fun o ob' ho' hbk=>?_⟩⟩
  · have:¬ (o = H.length ∧ g = 0):=by omega
    simp [Cx.with,this]
  · have:¬ (o = H.length ∧ g = 0):=by omega
    simp [Cx.with,this,hs.dom o (by omega) g]
  · cases ob with
    | arr g sz l =>
      have h0:g = 0:=by
        rcases ho with ⟨h1,_⟩ | ⟨b,bs,c,e,pre,css,post,h1,_⟩ <;>
        · simp only [Cx.with] at h1
          split at h1
          · rename_i hh; exact hh.2
          · rw [hs.dom H.length (Nat.le_refl _) g] at h1; cases h1
      intro g' hg'
      have:g' ≠ 0:=by omega
      simp [Cx.with,this,hs.dom H.length (Nat.le_refl _) g']
    | _=>trivial
  · by_cases hlo:o < H.length
    · rw [List.getElem?_append_left hlo] at ho'
      rw [blk_le hle (hs.obj o ob' ho').1] at hbk
      exact hno o ob' ho' hbk
    · rw [List.getElem?_append_right (by omega)] at ho'
      obtain ⟨e1,e2⟩:=one_inv ho'
      have:o = H.length:=by omega
      subst this; subst e2
      have:=hnew b hbk
      omega
theorem heap_new (w:World) (o:Obj):(w.alloc o).heap[w.heap.size]? = some o:=heap_alloc_new w o
theorem var_step (hs:Sim base C H) {x:AV} {cs:Array Value} (e:TypeId) (hx:Rc C x cs.toList) :
    let C':=C.with (C.w.alloc (.cells cs e)) H.length (some (C.w.heap.size,0))
    OStep base C H C' (H ++ [.var x]) ∧ Rv C' (.ptr H.length 0 []) (.pointer (some ⟨C.w.heap.size,0,none⟩)):=by
  intro C'
  have hg:=Grow.alloc C.w (.cells cs e)
  have hle:Le C C':=le_with hs hg _
  have hβ:C'.β H.length 0 = some (some (C.w.heap.size,0)):=by simp [C',Cx.with]
  refine ⟨push_step hs hg ?_ (fun b bs h=>by cases h; exact Nat.le_refl _),Rv_one ?_ rfl rfl⟩
  · refine ⟨C.w.heap.size,cs,e,hβ,heap_new _ _,Rc_le hle _ _ hx,hs.bsz,fun h=>?_⟩
    exact Nat.lt_irrefl _ (hs.fsz _ h)
  · simp only [Rc]
    exact ⟨C.w.heap.size,0,hβ,by simp [offs]⟩
def Cx.frz (C:Cx) (w:World):Cx:={ C with w:=w,F:=fun b=>C.F b ∨ b = C.w.heap.size }
theorem frz_step (hs:Sim base C H) (o:Obj):OStep base C H (C.frz (C.w.alloc o)) H:=by
  have hg:=Grow.alloc C.w o
  have hle:Le C (C.frz (C.w.alloc o)):=⟨rfl,fun b h=>.inl h,fun _ _ _ h=>h,fun b hb=>hg.old b (hs.fsz b hb),fun b s h=>hg.shape h⟩
  refine ⟨hle,hs.world hle (fun b hb=>?_) (fun _ _=>rfl) hg.size (fun b hb _ _=>hg.old b hb),hg.below hs.bsz,fun b (h:C.F b ∨ b = C.w.heap.size)=>h.imp id (fun e=>by rw [e]; exact hs.bsz),fun b hlt hF hno=>⟨hg.old b hlt,fun h=>h.elim hF (fun e=>by omega),fun o ob ho hbk=>hno o ob ho hbk⟩⟩
  rcases hb with hb | rfl
  · exact ⟨Nat.lt_of_lt_of_le (hs.fsz b hb) hg.size,.inl hb⟩
  · exact ⟨by simp [Cx.frz],.inr (Nat.le_refl _)⟩
theorem cellsAt_new (w:World) (cs:Array Value) (e:TypeId):cellsAt (w.alloc (.cells cs e)) w.heap.size 0 cs.toList:=by
  have:=cellsAt_of (w:=w.alloc (.cells cs e)) (heap_new w (.cells cs e)) (pre:=[]) (ys:=cs.toList) (post:=[]) (by simp)
  simpa using this
theorem box_ok (hs:Sim base C H) {im e X v y H' b} (hx:Rv C X v) (h:doBox im H X = some (y,H',b)) :
    ∃ C' u,(Instr.box e v).run P C.w = .ok u C'.w ∧ OStep base C H C' H' ∧ Rv C' y u:=by
  unfold doBox at h
  split at h
  · rename_i hk
    obtain ⟨h1,h2⟩:=Rv_known hk hx
    have hrun:(Instr.box e v).run P C.w = .ok (.pointer (some ⟨C.w.heap.size,0,none⟩)) (C.w.alloc (.cells v.cells e)):=by
      simp [Instr.box,newVar,newRow]
    split at h
    · cases h
      have hc:=cellsAt_new C.w v.cells e
      by_cases hmp:∃ o,X = .mp o
      · obtain ⟨o,rfl⟩:=hmp
        obtain ⟨bm,hβ,rfl⟩:=Rv_mp hx
        refine ⟨_,_,hrun,frz_step hs _,Rv_one ?_ rfl rfl⟩
        simp only [Rc,bxOf]
        exact ⟨C.w.heap.size,bm,hβ,rfl,.inr rfl,hc⟩
      · have hb:bxOf X = .iptr X:=by cases X <;> first | rfl | exact absurd ⟨_,rfl⟩ hmp
        rw [hb]
        refine ⟨_,_,hrun,frz_step hs _,Rv_one ?_ rfl rfl⟩
        simp only [Rc]
        exact ⟨C.w.heap.size,0,v.cells.toList,rfl,.inr rfl,Rc_le (frz_step hs _).le _ _ h1,hc⟩
    · cases h
      obtain ⟨a,b⟩:=var_step hs e h1
      exact ⟨_,_,hrun,a,b⟩
  · cases h
theorem alloc_ok (hs:Sim base C H) {t z zv y H' b} (hz:zeroB P t = some zv) (hzr:∀ C,Rv C z zv)
    (h:(if z.known = true ∧ z.hasRef = false then some (AV.ptr H.length 0 [],H ++ [AObj.var z],false) else none) = some (y,H',b)) :
    ∃ C' u,(Instr.alloc t true (.tuple #[])).run P C.w = .ok u C'.w ∧ OStep base C H C' H' ∧ Rv C' y u:=by
  split at h
  · rename_i hh
    cases h
    obtain ⟨h1,h2⟩:=Rv_known hh.1 (hzr C)
    obtain ⟨a,b⟩:=var_step hs t h1
    exact ⟨_,_,by simp [Instr.alloc,run_zeroValue hz,newVar,newRow]; rfl,a,b⟩
  · cases h
theorem nils_step (hs:Sim base C H) (sz:Nat) (a:Option Addr) :
    let C':=C.with C.w H.length none
    OStep base C H C' (H ++ [.arr 0 sz []]) ∧ Rv C' (.sl H.length 0 sz 0 0) (.slice a 0 0):=by
  intro C'
  have hβ:C'.β H.length 0 = some none:=by simp [C',Cx.with]
  refine ⟨push_step hs (Grow.refl _) (.inl ⟨hβ,rfl⟩) (fun b bs h=>by cases h),Rv_one ?_ rfl rfl⟩
  simp only [Rc]
  exact .inr ⟨none,hβ,trivial,a,rfl⟩
theorem arr_step (hs:Sim base C H) {w'} (hg:Grow C.w w') {l:List AV} {css:List (List Value)} {post:List Value} {sz cap:Nat} (e:TypeId) {cs:Array Value}
    (hnew:w'.heap[C.w.heap.size]? = some (.cells cs e (0,0))) (hcs:cs.toList = css.flatten ++ post) (hl:Rcl C l css) (hu:∀ c ∈ css,c.length = sz) (hcap:cs.size = cap * sz) (hn:l.length ≤ cap) :
    let C':=C.with w' H.length (some (C.w.heap.size,0))
    OStep base C H C' (H ++ [.arr 0 sz l]) ∧ Rv C' (.sl H.length 0 sz 0 l.length) (.slice (some ⟨C.w.heap.size,0,none⟩) l.length cap):=by
  intro C'
  have hle:Le C C':=le_with hs hg _
  have hβ:C'.β H.length 0 = some (some (C.w.heap.size,0)):=by simp [C',Cx.with]
  refine ⟨push_step hs hg (.inr ?_) (fun b bs h=>by cases h; exact Nat.le_refl _),Rv_one ?_ rfl rfl⟩
  · exact ⟨C.w.heap.size,0,cs,e,[],css,post,hβ,hnew,by simpa using hcs,rfl,Rcl_le hle _ _ hl,hu,hs.bsz,fun h=>Nat.lt_irrefl _ (hs.fsz _ h)⟩
  · simp only [Rc]
    refine .inl ⟨C.w.heap.size,0,cap,hβ,by simp,hn,e,cs.size,?_,by omega⟩
    show w'.shape? C.w.heap.size = _
    simp [World.shape?,hnew]
theorem mkmap_ok (hs:Sim base C H) {t:TypeId} :
    ∃ C' u,(Instr.makeMap t none).run P C.w = .ok u C'.w ∧ OStep base C H C' (H ++ [.map []]) ∧ Rv C' (.mp H.length) u:=by
  have hg:=Grow.alloc C.w (.map #[] 0)
  have hβ:(C.with (C.w.alloc (.map #[] 0)) H.length (some (C.w.heap.size,0))).β H.length 0 = some (some (C.w.heap.size,0)):=by simp [Cx.with]
  refine ⟨C.with (C.w.alloc (.map #[] 0)) H.length (some (C.w.heap.size,0)),.map (some C.w.heap.size),?_,push_step hs hg ?_ (fun b bs h=>by cases h; exact Nat.le_refl _),Rv_one ?_ rfl rfl⟩
  · simp [Instr.makeMap,Cx.with]
  · exact ⟨C.w.heap.size,#[],0,hβ,heap_new _ _,⟨.nil,Go.MapKept.stamped_empty 0⟩,hs.bsz,fun h=>Nat.lt_irrefl _ (hs.fsz _ h)⟩
  · simp only [Rc]
    exact ⟨C.w.heap.size,hβ,rfl⟩
theorem slice0_ok (hs:Sim base C H) {t e sz X v y H' b vhi vmx} (ht:sliceB P t = some e) (hz:(sizeB P e).isSome = true) (hhi:vhi = .int .i64 0) (hmx:vmx = .int .i64 0) (hx:Rv C X v) (h:doSlice0 sz H X = some (y,H',b)) :
    ∃ C' u,(Instr.sliceAt t v none (some vhi) (some vmx)).run P C.w = .ok u C'.w ∧ OStep base C H C' H' ∧ Rv C' y u:=by
  subst hhi hmx
  have hu:=sliceB_inv ht
  obtain ⟨n,hn⟩:=Option.isSome_iff_exists.1 hz
  have hrun:∀ a len cap,v = .slice a len cap → (Instr.sliceAt t v none (some (.int .i64 0)) (some (.int .i64 0))).run P C.w = .ok (.slice a 0 0) C.w:=by
    rintro a len cap rfl
    simp [Instr.sliceAt,Instr.slice,Instr.sliceBounds,Instr.sliceBound,asIntOf,run_underlying hu,run_sizeOf hn]
  cases X <;> try (cases h; done)
  · cases h
    rw [Rv_nl hx] at hrun ⊢
    obtain ⟨a,b⟩:=nils_step hs sz none
    exact ⟨C.with C.w H.length none,_,hrun _ _ _ rfl,a,b⟩
  · cases h
    obtain ⟨a,cap,rfl,_⟩:=Rv_isl hx
    obtain ⟨x1,x2⟩:=nils_step hs sz a
    exact ⟨C.with C.w H.length none,_,hrun _ _ _ rfl,x1,x2⟩
  · cases h
    rcases Rv_sl hx with ⟨b,bs,cap,_,rfl,_⟩ | ⟨q,_,_,a,rfl⟩
    · obtain ⟨x1,x2⟩:=nils_step hs sz (some ⟨b,_,none⟩)
      exact ⟨C.with C.w H.length none,_,hrun _ _ _ rfl,x1,x2⟩
    · obtain ⟨x1,x2⟩:=nils_step hs sz a
      exact ⟨C.with C.w H.length none,_,hrun _ _ _ rfl,x1,x2⟩
theorem foldl_set (off:Nat):∀ (vs:List Value) (k:Nat) (cells:Array Value),off + k + vs.length ≤ cells.size →
    ((vs.zipIdx k).foldl (fun cs p=>cs.setIfInBounds (off + p.2) p.1) cells).toList = cells.toList.take (off + k) ++ vs ++ cells.toList.drop (off + k + vs.length)
  | [],k,cells,_=>by simp
  | v :: rest,k,cells,h=>by
    simp only [List.zipIdx_cons,List.foldl_cons]
    rw [foldl_set off rest (k + 1) _ (by simp at h ⊢; omega)]
    have e:=list_seg_step cells.toList (off + k) v rest (by simp at h ⊢; omega)
    simpa [Array.toList_setIfInBounds,Nat.add_assoc] using e
theorem sizes_take_set {l:List AV} {i j:Nat} {y:AV} (h:∀ z,l[i]? = some z → z.size = y.size):AV.sizes ((l.set i y).take j) = AV.sizes (l.take j):=by
  induction l generalizing i j with
  | nil=>simp
  | cons x l ih =>
    cases i with
    | zero =>
      cases j with
      | zero=>simp
      | succ j=>have:=h x (by simp); simp [AV.sizes,this]
    | succ i =>
      cases j with
      | zero=>simp
      | succ j=>simp only [List.set_cons_succ,List.take_succ_cons,AV.sizes]; rw [ih (fun z hz=>h z (by simpa using hz))]
inductive PartsR (C:Cx):List (Nat × AV) → List (Nat × Value) → Prop
  | nil:PartsR C [] []
  | cons {i x v r s}:Rv C x v → PartsR C r s → PartsR C ((i,x) :: r) ((i,v) :: s)
theorem fill_ok {place:Nat → Option (Nat × Nat)}:∀ (ap:List (Nat × AV)) (vp:List (Nat × Value)) (z l:List AV) (css:List (List Value)),PartsR C ap vp → setAll z ap = some l → Rcl C z css →
    (∀ i y,z[i]? = some y → place i = some (AV.sizes (z.take i),y.size)) →
    ∃ css',Rcl C l css' ∧ Instr.fill place css.flatten.toArray vp = some css'.flatten.toArray ∧ l.length = z.length ∧ (∀ sz,(∀ c ∈ css,c.length = sz) → ∀ c ∈ css',c.length = sz)
  | [],_,z,l,css,hp,h,hz,_=>by
    cases hp
    simp only [setAll] at h; cases h
    exact ⟨css,hz,rfl,rfl,fun _ h=>h⟩
  | (i,x) :: ap,_,z,l,css,hp,h,hz,hpl=>by
    cases hp with
    | cons hx hrest =>
      rename_i v vp
      simp only [setAll] at h
      cases hzi:z[i]? with
      | none=>rw [hzi] at h; cases h
      | some y =>
        rw [hzi] at h
        simp only at h
        split at h
        · rename_i hh
          obtain ⟨hsz,hk⟩:=hh
          obtain ⟨hr,hva⟩:=Rv_known hk hx
          have hvl:v.cells.toList.length = x.size:=Rc_len _ _ hr
          obtain ⟨c,hc,hrc⟩:=Rcl_get z css i y hz hzi
          have hcl:=Rc_len _ _ hrc
          have hpi:=hpl i y hzi
          have htk:=take_size hz i
          have hsplit:=flatten_split css i c hc
          have hfit:AV.sizes (z.take i) + v.cells.size ≤ css.flatten.length:=by
            rw [hsplit]; simp only [List.length_append,htk]; simp at hvl; omega
          obtain ⟨css',h1,h2,h3,h4⟩:=fill_ok (place:=place) ap vp (z.set i x) l (css.set i v.cells.toList) hrest h (Rcl_set z css i x _ hz hr) (fun j y' hj=>by
            rw [List.getElem?_set] at hj
            rw [sizes_take_set (fun q hq=>by rw [hzi] at hq; cases hq; exact hsz)]
            split at hj
            · rename_i e
              subst e
              split at hj
              · cases hj; rw [hpi,hsz]
              · cases hj
            · exact hpl j y' hj)
          refine ⟨css',h1,?_,by simpa using h3,fun sz hu=>h4 sz (fun d hd=>?_)⟩
          · rw [Instr.fill,hpi]
            simp only
            rw [if_neg (by simp only [Bool.or_eq_true,decide_eq_true_eq,List.size_toArray]; simp at hvl; omega)]
            rw [← h2]
            congr 1
            apply Array.ext'
            rw [flatten_set css i c _ hc]
            have hf:=foldl_set (AV.sizes (z.take i)) v.cells.toList 0 css.flatten.toArray (by simp at hfit ⊢; omega)
            have e1:(v.cells.zipIdx.foldl (fun cs p=>cs.setIfInBounds (AV.sizes (z.take i) + p.2) p.1) css.flatten.toArray) = ((v.cells.toList.zipIdx 0).foldl (fun cs p=>cs.setIfInBounds (AV.sizes (z.take i) + p.2) p.1) css.flatten.toArray):=by
              rw [← Array.foldl_toList]; simp
            rw [e1,hf]
            simp only [Nat.add_zero]
            rw [hsplit,← htk]
            simp only [List.append_assoc,List.take_left']
            congr 2
            rw [show (css.take i).flatten.length + v.cells.toList.length = (css.take i).flatten.length + c.length by omega,← List.append_assoc,show (css.take i).flatten.length + c.length = ((css.take i).flatten ++ c).length by simp,List.drop_left]
          · rcases List.mem_or_eq_of_mem_set hd with hd | rfl
            · exact hu d hd
            · have:=hu c (List.mem_of_getElem? hc)
              omega
        · cases h
def placeB (P:Program) (t:TypeId):Option (Nat → Option (Nat × Nat)) :=
  match P.underlying t with
  | some (.struct fs)=>some fun i=>(fs[i]?).bind fun f=>(sizeB P f.type).map fun n=>(f.offset,n)
  | some (.array _ e)=>(sizeB P e).map fun n i=>some (i * n,n)
  | _=>none
def fieldsOk (P:Program):List Field → Bool
  | []=>true
  | f :: r=>(sizeB P f.type).isSome && fieldsOk P r
def layoutOk (P:Program) (t:TypeId):Bool :=
  match P.underlying t with
  | some (.struct fs)=>fieldsOk P fs.toList
  | some (.array _ e)=>(sizeB P e).isSome
  | _=>false
def placesOk (pl:Nat → Option (Nat × Nat)):Nat → Nat → List AV → Bool
  | _,_,[]=>true
  | i,off,x :: l=>(pl i == some (off,x.size)) && placesOk pl (i + 1) (off + x.size) l
theorem placesOk_get {pl}:∀ (l:List AV) (i off:Nat),placesOk pl i off l = true → ∀ j y,l[j]? = some y → pl (i + j) = some (off + AV.sizes (l.take j),y.size)
  | [],_,_,_,j,y,h=>by simp at h
  | x :: l,i,off,h,j,y,hj=>by
    simp only [placesOk,Bool.and_eq_true,beq_iff_eq] at h
    cases j with
    | zero=>simp at hj; subst hj; simpa [AV.sizes] using h.1
    | succ j =>
      simp at hj
      have:=placesOk_get l (i + 1) (off + x.size) h.2 j y hj
      rw [show i + (j + 1) = i + 1 + j by omega,this]
      simp [AV.sizes,Nat.add_assoc]
theorem run_places {fs:Array Field} (h:fieldsOk P fs.toList = true) (w:World) :
    ∃ pl:Array (Nat × Nat),(fs.mapM (fun f=>do pure (f.offset,← Go.sizeOf f.type):Field → Sem (Nat × Nat))).run P w = .ok pl w ∧ ∀ i:Nat,pl[i]? = (fs[i]?).bind fun f=>(sizeB P f.type).map fun n=>(f.offset,n):=by
  have key:∀ l:List Field,fieldsOk P l = true → ∃ pl:List (Nat × Nat),(l.mapM (fun f=>do pure (f.offset,← Go.sizeOf f.type):Field → Sem (Nat × Nat))).run P w = .ok pl w ∧ ∀ i:Nat,pl[i]? = (l[i]?).bind fun f=>(sizeB P f.type).map fun n=>(f.offset,n):=by
    intro l
    induction l with
    | nil=>intro _; exact ⟨[],by simp,by simp⟩
    | cons f l ih =>
      intro hl
      simp only [fieldsOk,Bool.and_eq_true] at hl
      obtain ⟨n,hn⟩:=Option.isSome_iff_exists.1 hl.1
      obtain ⟨pl,h1,h2⟩:=ih hl.2
      refine ⟨(f.offset,n) :: pl,?_,fun i=>?_⟩
      · rw [List.mapM_cons]
        simp only [Sem.run_bind,run_sizeOf hn,Result.andThen_ok,Sem.run_pure,h1]
      · cases i with
        | zero=>simp [hn]
        | succ i=>simpa using h2 i
  obtain ⟨pl,h1,h2⟩:=key fs.toList h
  refine ⟨pl.toArray,?_,fun i=>by simpa using h2 i⟩
  rw [← Array.toArray_toList (xs:=fs),List.mapM_toArray]
  simp only [Sem.run_map,h1,Result.andThen_ok]
theorem build_ok {t z zv ap y} {parts:Array (Nat × Value)} {pl} (hpl:placeB P t = some pl) (hlay:layoutOk P t = true) (hz:zeroB P t = some zv) (hzr:Rv C (.agg z) zv) (hpo:placesOk pl 0 0 z = true)
    (hp:PartsR C ap parts.toList) (h:doBuild (setAll z ap) = some y) :
    ∃ u,(Instr.build t parts).run P C.w = .ok u C.w ∧ Rv C y u:=by
  cases hs:setAll z ap with
  | none=>rw [hs] at h; cases h
  | some l =>
    rw [hs] at h; cases h
    obtain ⟨css,hcl,rfl⟩:=Rv_agg hzr
    obtain ⟨css',h1,h2,_,_⟩:=fill_ok (place:=pl) ap parts.toList z l css hp hs hcl (fun i y hi=>by have:=placesOk_get z 0 0 hpo i y hi; simpa using this)
    refine ⟨.agg css'.flatten.toArray,?_,Rv_of (by simp only [Value.cells,Rc]; exact ⟨css',h1,rfl⟩) rfl⟩
    unfold placeB at hpl
    unfold layoutOk at hlay
    cases hu:P.underlying t with
    | none=>rw [hu] at hpl; cases hpl
    | some d =>
      rw [hu] at hpl hlay
      cases d <;> try (cases hpl; done)
      · rename_i n e
        simp only at hpl hlay
        obtain ⟨m,hm⟩:=Option.isSome_iff_exists.1 hlay
        rw [hm] at hpl; cases hpl
        simp only [Instr.build,Sem.run_bind,run_zeroValue hz,Result.andThen_ok,run_underlying hu,run_sizeOf hm,Value.cells]
        rw [h2]
        rfl
      · rename_i fs
        simp only at hpl hlay
        cases hpl
        obtain ⟨pl,h3,h4⟩:=run_places hlay C.w
        have e:(fun i:Nat=>pl[i]?) = fun i:Nat=>(fs[i]?).bind fun (f:Field)=>(sizeB P f.type).map fun n=>(f.offset,n):=funext h4
        simp only [Instr.build,Sem.run_bind,run_zeroValue hz,Result.andThen_ok,run_underlying hu,Value.cells,h3]
        rw [e,h2]
        rfl
theorem rep_flatten {α} [Inhabited α] (c:Array α) (n:Nat):(Array.range (n * c.size)).map (fun i=>c[i % c.size]!) = (List.replicate n c.toList).flatten.toArray:=by
  apply Array.ext'
  simp only [Array.toList_map,Array.toList_range]
  induction n with
  | zero=>simp
  | succ n ih =>
    rw [List.replicate_succ',List.flatten_append,← ih,Nat.succ_mul,List.range_add,List.map_append]
    congr 1
    apply List.ext_getElem?
    intro i
    simp only [List.map_map,List.getElem?_map,List.flatten_cons,List.flatten_nil,List.append_nil]
    by_cases hi:i < c.size
    · rw [List.getElem?_range hi]
      simp only [Option.map_some,Function.comp]
      rw [show (n * c.size + i) % c.size = i by rw [Nat.mul_comm,Nat.mul_add_mod,Nat.mod_eq_of_lt hi]]
      simp [hi,getElem!_pos]
    · rw [List.getElem?_eq_none (by simp; omega),List.getElem?_eq_none (by simpa using Nat.le_of_not_lt hi)]
      rfl
end Tor
namespace Tor
open Go Go.RowKit
variable {P:Program} {base:Nat} {C:Cx} {H:Heap}
theorem bslice_ok (hs:Sim base C H) {t e mt sz z zv n ap y H' b} {parts:Array (Nat × Value)} (ht:sliceB P t = some e) (hz:sizeB P e = some sz) (hzv:zeroB P e = some zv) (hzr:Rv C z zv) (hzk:z.known = true)
    (hn:n * sz ≤ 16777216) (hp:PartsR C ap parts.toList)
    (h:doBslice mt sz n H (if z.size = sz ∧ z.hasRef = false then setAll (List.replicate n z) ap else none) = some (y,H',b)) :
    ∃ C' u,(Instr.buildSlice t n parts).run P C.w = .ok u C'.w ∧ OStep base C H C' H' ∧ Rv C' y u:=by
  split at h
  · rename_i hzz
    obtain ⟨hzs,_⟩:=hzz
    cases hsl:setAll (List.replicate n z) ap with
    | none=>rw [hsl] at h; cases h
    | some l =>
      rw [hsl] at h
      obtain ⟨hzc,_⟩:=Rv_known hzk hzr
      have hzl:zv.cells.size = sz:=by have:=Rc_len _ _ hzc; simpa [hzs] using this
      have hrep:∀ i y,(List.replicate n z)[i]? = some y → y = z ∧ i < n:=by
        intro i y hy
        rw [List.getElem?_replicate] at hy
        split at hy
        · rename_i hlt; cases hy; exact ⟨rfl,hlt⟩
        · cases hy
      obtain ⟨css,h1,h2,h3,h4⟩:=fill_ok (place:=fun i=>some (i * sz,sz)) ap parts.toList (List.replicate n z) l (List.replicate n zv.cells.toList) hp hsl (Rcl_replicate hzc n) (fun i y hi=>by
        obtain ⟨rfl,hlt⟩:=hrep i y hi
        rw [hzs,List.take_replicate,Nat.min_eq_left (by omega)]
        have:∀ k,AV.sizes (List.replicate k y) = k * sz:=by
          intro k
          induction k with
          | zero=>simp [AV.sizes]
          | succ k ih=>rw [List.replicate_succ,AV.sizes,ih,hzs,Nat.succ_mul]; omega
        rw [this])
      have hun:∀ c ∈ css,c.length = sz:=h4 sz (fun c hc=>by rw [List.eq_of_mem_replicate hc]; simpa using hzl)
      have hlen:l.length = n:=by simpa using h3
      have hcount:=Rcl_count _ _ h1
      have hrun:(Instr.buildSlice t n parts).run P C.w = .ok (.slice (some ⟨C.w.heap.size,0,none⟩) n n) (C.w.alloc (.cells css.flatten.toArray e)):=by
        have hfl:(List.replicate n zv.cells.toList).flatten.length = n * sz:=by
          rw [uniform_len (sz:=sz) _ (fun c hc=>by rw [List.eq_of_mem_replicate hc]; simpa using hzl)]; simp
        have hcells:(Array.range (n * sz)).map (fun i=>zv.cells[i % zv.cells.size]!) = (List.replicate n zv.cells.toList).flatten.toArray:=by
          rw [← hzl]; exact rep_flatten _ _
        simp only [Instr.buildSlice,Sem.run_bind,run_underlying (sliceB_inv ht),Result.andThen_ok,run_sizeOf hz]
        rw [if_neg (by omega)]
        by_cases h0:n * sz = 0
        · have he:∀ f:Nat → Value,(Array.range (n * sz)).map f = (List.replicate n zv.cells.toList).flatten.toArray:=by
            intro f
            rw [List.eq_nil_of_length_eq_zero (l:=(List.replicate n zv.cells.toList).flatten) (by omega),h0]; simp
          rw [if_pos h0]
          simp only [Sem.run_bind,Sem.run_pure,Result.andThen_ok,he,h2]
          simp only [Sem.run_bind,newRow,run_newObj,Result.andThen_ok,Sem.run_pure]
          rfl
        · rw [if_neg h0]
          simp only [Sem.run_bind,run_zeroValue hzv,Sem.run_pure,Result.andThen_ok,hcells,h2]
          simp only [Sem.run_bind,newRow,run_newObj,Result.andThen_ok,Sem.run_pure]
          rfl
      unfold doBslice at h
      simp only at h
      split at h
      · cases h
        have hst:=arr_step hs (Grow.alloc C.w (.cells css.flatten.toArray e)) (l:=l) (css:=css) (post:=[]) (sz:=sz) (cap:=n) e (heap_new _ _) (by simp) h1 hun (by simp [uniform_len css hun,hcount,hlen]) (by omega)
        rw [hlen] at hst
        exact ⟨_,_,hrun,hst.1,hst.2⟩
      · split at h
        · cases h
        · rename_i hnr
          cases h
          refine ⟨_,_,hrun,frz_step hs _,Rv_one ?_ rfl rfl⟩
          simp only [Rc]
          refine ⟨by simpa using hnr,_,rfl,_,_,by rw [hlen],?_⟩
          by_cases h0:l.length = 0
          · exact .inl h0
          · refine .inr ⟨C.w.heap.size,0,css,sz,rfl,.inr rfl,by omega,Rcl_le (frz_step hs _).le _ _ h1,hun,?_⟩
            have:=cellsAt_new C.w css.flatten.toArray e
            exact this
  · cases h
theorem mkslice_ok (hs:Sim base C H) {t e sz bytes z zv N K vn vk y H' b} {i:TypeInfo} (ht:sliceB P t = some e) (hi:P.info? e = some i) (hsz:i.size = sz) (hb:i.bytes = bytes) (hzv:i.zero = some zv) (hzr:Rv C z zv) (hzk:z.known = true)
    (hn:Rv C N vn) (hk:Rv C K vk) (h:doMkslice sz bytes z H N K = some (y,H',b)) :
    ∃ C' u,(Instr.makeSlice t vn vk).run P C.w = .ok u C'.w ∧ OStep base C H C' H' ∧ Rv C' y u:=by
  unfold doMkslice at h
  split at h
  · rename_i n c
    split at h
    · rename_i hh
      obtain ⟨a1,a2,a3,a4,a5,_⟩:=hh
      cases h
      rw [Rv_int hn,Rv_int hk]
      obtain ⟨hzc,_⟩:=Rv_known hzk hzr
      have hzl:zv.cells.size = sz:=by have:=Rc_len _ _ hzc; simpa [a5] using this
      unfold maxLenA at a3
      have hbig:((i.bytes:Int) * c ≤ 281474976710656):=by
        have h1:(i.bytes:Int) * c ≤ 4096 * c:=Int.mul_le_mul_of_nonneg_right (by omega) (by omega)
        omega
      have hrun:=run_make (P:=P) C.w t e i zv (sliceB_inv ht) hi hzv .i64 .i64 n c a1 a2 hbig (by omega)
      have hmade:madeCells zv.cells (c.toNat * i.size) = (List.replicate c.toNat zv.cells.toList).flatten.toArray:=by
        rw [hsz,← hzl]; exact rep_flatten _ _
      rw [hmade] at hrun
      have hst:=arr_step hs (Grow.alloc C.w (.cells (List.replicate c.toNat zv.cells.toList).flatten.toArray e)) (l:=List.replicate n.toNat z) (css:=List.replicate n.toNat zv.cells.toList)
        (post:=(List.replicate (c.toNat - n.toNat) zv.cells.toList).flatten) (sz:=sz) (cap:=c.toNat) e (heap_new _ _)
        (by rw [← List.flatten_append,List.replicate_append_replicate,show n.toNat + (c.toNat - n.toNat) = c.toNat by omega])
        (Rcl_replicate hzc _) (fun d hd=>by rw [List.eq_of_mem_replicate hd]; simpa using hzl)
        (by rw [List.size_toArray,uniform_len (sz:=sz) _ (fun d hd=>by rw [List.eq_of_mem_replicate hd]; simpa using hzl),List.length_replicate]) (by simp; omega)
      simp only [List.length_replicate] at hst
      exact ⟨_,_,hrun,hst.1,hst.2⟩
    · cases h
  · cases h
theorem set_priv (hs:Sim base C H) {C':Cx} {o ob ob'} (ho:H[o]? = some ob) (hle:Le C C') (hF:∀ b,C'.F b → C.F b)
    (hm:∀ b,b < C.w.heap.size → blk C o ob ≠ some b → C'.w.heap[b]? = C.w.heap[b]?) (hb:∀ b,blk C' o ob' = some b → blk C o ob = some b ∨ C.w.heap.size ≤ b) :
    ∀ b,b < C.w.heap.size → ¬ C.F b → (∀ o ob,H[o]? = some ob → blk C o ob ≠ some b) → C'.w.heap[b]? = C.w.heap[b]? ∧ ¬ C'.F b ∧ ∀ o1 ob1,(H.set o ob')[o1]? = some ob1 → blk C' o1 ob1 ≠ some b:=by
  intro b hlt hFb hno
  refine ⟨hm b hlt (hno o ob ho),fun h=>hFb (hF b h),fun o1 ob1 h1 hbk=>?_⟩
  rw [List.getElem?_set] at h1
  split at h1
  · rename_i e
    subst e
    split at h1
    · cases h1
      rcases hb b hbk with h | h
      · exact hno _ _ ho h
      · omega
    · cases h1
  · rw [blk_le hle (hs.obj o1 ob1 h1).1] at hbk
    exact hno o1 ob1 h1 hbk
theorem row_step (hs:Sim base C H) {o ob ob' b c c' e} (ho:H[o]? = some ob) (hb:blk C o ob = some b) (hc:C.w.heap[b]? = some (.cells c e (0,0))) (hsz:c'.size = c.size)
    (hn:ObjOk base { C with w:=C.w.setRow b c' } o ob') (hg:GenOk C o ob') (hb':blk C o ob' = some b) :
    OStep base C H { C with w:=C.w.setRow b c' } (H.set o ob'):=by
  obtain ⟨h1,h2,h3⟩:=blk_heap (hs.obj o ob ho).1 hb
  have hle:Le C { C with w:=C.w.setRow b c' }:=by
    refine ⟨rfl,fun _ h=>h,fun _ _ _ h=>h,fun b1 hb1=>setRow_other _ _ _ _ (fun e=>h2 (e ▸ hb1)),fun b1 s hs1=>?_⟩
    by_cases hbb:b1 = b
    · subst hbb
      simp only [World.shape?,hc] at hs1
      simp only [World.shape?,setRow_heap _ _ _ _ _ _ hc,hsz]
      exact hs1
    · simp only [World.shape?] at hs1 ⊢
      rw [setRow_other _ _ _ _ hbb]; exact hs1
  have hm:∀ b1,b1 < C.w.heap.size → blk C o ob ≠ some b1 → (C.w.setRow b c').heap[b1]? = C.w.heap[b1]?:=fun b1 _ hne=>setRow_other _ _ _ _ (fun e=>hne (by rw [hb,e]))
  have hlast:∀ b1,blk { C with w:=C.w.setRow b c' } o ob' = some b1 → blk C o ob = some b1 ∨ C.w.heap.size ≤ b1:=by
    intro b1 hb1
    left
    have:blk { C with w:=C.w.setRow b c' } o ob' = blk C o ob':=by cases ob' <;> rfl
    rw [this,hb'] at hb1
    rw [hb]; exact hb1
  refine ⟨hle,hs.set ho hle (fun b1 hb1=>⟨by simpa using hs.fsz b1 hb1,.inl hb1⟩) (by simp) (fun _ _ _=>rfl) hm hn ?_ hlast,⟨rfl,rfl,rfl,by simp,fun k hk=>setRow_other _ _ _ _ (by omega)⟩,fun _ h=>.inl h,set_priv hs ho hle (fun _ h=>h) hm hlast⟩
  cases ob' with
  | arr g sz l=>exact hg
  | _=>trivial
theorem setRow_le (hs:Sim base C H) {o ob b c c' e} (ho:H[o]? = some ob) (hb:blk C o ob = some b) (hc:C.w.heap[b]? = some (.cells c e (0,0))) (hsz:c'.size = c.size) :
    Le C { C with w:=C.w.setRow b c' }:=by
  obtain ⟨h1,h2,h3⟩:=blk_heap (hs.obj o ob ho).1 hb
  refine ⟨rfl,fun _ h=>h,fun _ _ _ h=>h,fun b1 hb1=>setRow_other _ _ _ _ (fun e=>h2 (e ▸ hb1)),fun b1 s hs1=>?_⟩
  by_cases hbb:b1 = b
  · subst hbb
    simp only [World.shape?,hc] at hs1
    simp only [World.shape?,setRow_heap _ _ _ _ _ _ hc,hsz]
    exact hs1
  · simp only [World.shape?] at hs1 ⊢
    rw [setRow_other _ _ _ _ hbb]; exact hs1
theorem take_drop_mid {α} (pre zs post ys:List α) (h:zs.length = ys.length):(pre ++ zs ++ post).take pre.length ++ ys ++ (pre ++ zs ++ post).drop (pre.length + ys.length) = pre ++ ys ++ post:=by
  rw [List.append_assoc pre zs post,List.take_left,List.drop_append,List.drop_eq_nil_of_le (by omega),List.nil_append,← h]
  congr 1
  rw [show pre.length + zs.length - pre.length = zs.length by omega,List.drop_left]
theorem store_ok (hs:Sim base C H) {t sz X Y v u y H' b} (hz:sizeB P t = some sz) (hx:Rv C X v) (hy:Rv C Y u) (h:doStore sz H X Y = some (y,H',b)) :
    ∃ C',(Instr.storeAt t v u).run P C.w = .ok () C'.w ∧ OStep base C H C' H' ∧ y = nothing:=by
  cases X <;> try (cases h; done)
  rename_i o g p
  simp only [doStore] at h
  split at h
  · rename_i hh
    obtain ⟨hk,hysz⟩:=hh
    cases ho:H[o]? with
    | none=>rw [ho] at h; cases h
    | some ob =>
      rw [ho] at h
      simp only [setIn] at h
      cases hso:objSet ob g p Y with
      | none=>rw [hso] at h; cases h
      | some ob' =>
        rw [hso] at h
        cases h
        obtain ⟨hr,hva⟩:=Rv_known hk hy
        have hul:u.cells.toList.length = sz:=by rw [Rc_len _ _ hr]; exact hysz
        obtain ⟨bp,bs,hβ,rfl⟩:=Rv_ptr hx
        have hrun:∀ (c:Array Value) e (pre zs post:List Value) (off:Nat),C.w.heap[bp]? = some (.cells c e (0,0)) → c.toList = pre ++ zs ++ post → pre.length = off → zs.length = sz → bs + offs p = off →
            (Instr.storeAt t (.pointer (some ⟨bp,bs + offs p,none⟩)) u).run P C.w = .ok () (C.w.setRow bp (pre ++ u.cells.toList ++ post).toArray):=by
          intro c e pre zs post off hc hcl hp hzl ho2
          have hlen:c.size = pre.length + zs.length + post.length:=by rw [← Array.length_toList,hcl]; simp; omega
          have hst:=run_storeCells_at P bp off e u.cells.toList 0 c C.w hc (by omega) (Rc_one _ _ hr)
          simp only [Nat.add_zero] at hst
          rw [hcl,← hp,take_drop_mid _ _ _ _ (by omega)] at hst
          simp only [Instr.storeAt,Instr.sureAddr,Sem.run_bind,Sem.run_pure,Result.andThen_ok,storeVar,run_sizeOf hz]
          rw [if_neg (by simp at hul ⊢; omega),ho2,← hp]
          exact hst
        obtain ⟨hok,hgen⟩:=hs.obj o ob ho
        cases ob with
        | var x =>
          simp only [objSet] at hso
          split at hso
          · rename_i hg
            subst hg
            cases hup:upd x p Y with
            | none=>rw [hup] at hso; cases hso
            | some x' =>
              rw [hup] at hso; cases hso
              obtain ⟨bq,c,e,h1,h2,h3,h4,h5⟩:=hok
              have hqq:=h1.symm.trans hβ
              simp only [Option.some.injEq,Prod.mk.injEq] at hqq
              obtain ⟨rfl,rfl⟩:=hqq
              obtain ⟨pre,zs,post,e1,e2,e3,e4⟩:=upd_ok p x Y x' _ _ hup h3 hr
              have hblk:blk C o (.var x) = some bq:=by simp [blk,h1,bOf]
              have hsz':(pre ++ u.cells.toList ++ post).toArray.size = c.size:=by rw [← Array.length_toList (xs:=c),e1]; simp at e3 ⊢; omega
              have hle:=setRow_le hs ho hblk h2 hsz'
              refine ⟨_,hrun c e pre zs post _ h2 e1 e2 (by omega) (by omega),row_step hs ho hblk h2 hsz' ?_ trivial (by simp [blk,h1,bOf]),rfl⟩
              exact ⟨bq,_,e,h1,setRow_heap _ _ _ _ _ _ h2,by simpa using Rc_le hle _ _ e4,h4,h5⟩
          · cases hso
        | arr g' sz' l =>
          cases p with
          | nil=>simp [objSet] at hso
          | cons q p =>
            obtain ⟨i,off⟩:=q
            simp only [objSet] at hso
            split at hso
            · rename_i hg
              obtain ⟨hg,hof⟩:=hg
              subst hg
              cases hli:l[i]? with
              | none=>rw [hli] at hso; cases hso
              | some z =>
                rw [hli] at hso
                simp only at hso
                cases hup:upd z p Y with
                | none=>rw [hup] at hso; cases hso
                | some z' =>
                  rw [hup] at hso; cases hso
                  rcases hok with ⟨_,h2⟩ | ⟨b',bs',c,e,pre,css,post,h1,h2,h3,h4,h5,h6,h7,h8⟩
                  · subst h2; simp at hli
                  · rw [h1] at hβ; cases hβ
                    obtain ⟨cz,hcz,hrz⟩:=Rcl_get l css i z h5 hli
                    obtain ⟨pre2,zs,post2,e1,e2,e3,e4⟩:=upd_ok p z Y z' cz _ hup hrz hr
                    have hi:i < css.length:=(List.getElem?_eq_some_iff.1 hcz).1
                    have hl:(css.take i).flatten.length = i * sz':=take_uniform css h6 i (by omega)
                    have hcl:c.toList = (pre ++ (css.take i).flatten ++ pre2) ++ zs ++ (post2 ++ (css.drop (i + 1)).flatten ++ post):=by
                      rw [h3,flatten_split css i cz hcz,e1]; simp [List.append_assoc]
                    have hblk:blk C o (.arr g sz' l) = some bp:=by simp [blk,h1,bOf]
                    have hsz':((pre ++ (css.take i).flatten ++ pre2) ++ u.cells.toList ++ (post2 ++ (css.drop (i + 1)).flatten ++ post)).toArray.size = c.size:=by
                      rw [← Array.length_toList (xs:=c),hcl]; simp at e3 ⊢; omega
                    have hle:=setRow_le hs ho hblk h2 hsz'
                    refine ⟨_,hrun c e _ zs _ _ h2 hcl rfl (by omega) (by simp only [List.length_append,h4,hl,e2,offs,List.map_cons,List.sum_cons,hof]; omega),row_step hs ho hblk h2 hsz' ?_ hgen (by simp [blk,h1,bOf]),rfl⟩
                    refine .inr ⟨bp,bs,_,e,pre,css.set i (pre2 ++ u.cells.toList ++ post2),post,h1,setRow_heap _ _ _ _ _ _ h2,?_,h4,Rcl_le hle _ _ (Rcl_set l css i z' _ h5 e4),fun x hx=>?_,h7,h8⟩
                    · rw [flatten_set css i cz _ hcz]; simp [List.append_assoc]
                    · rcases List.mem_or_eq_of_mem_set hx with hx | rfl
                      · exact h6 x hx
                      · have:=h6 cz (List.mem_of_getElem? hcz)
                        rw [e1] at this
                        simp at this e3 ⊢; omega
            · cases hso
        | _=>simp [objSet] at hso
  · cases h
end Tor
