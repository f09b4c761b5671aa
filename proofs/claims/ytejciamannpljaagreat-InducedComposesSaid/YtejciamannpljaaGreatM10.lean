/-
  A part of the proof: an abstract machine for the program, its soundness, and what the functions compute (Ops5, Keep, Fz, Chk, Ok).
  Conditions: none.
-/
import Derived.Test.YtejciamannpljaaGreatM01
import Derived.Test.YtejciamannpljaaGreatM09
import Derived.Laws.AppendOwn
import Derived.MapKept
import Derived.Calls
set_option linter.unusedSectionVars false
set_option linter.unusedVariables false
set_option linter.unusedSimpArgs false
set_option linter.defProp false
namespace Tor
open Go Go.RowKit
variable {P:Program} {base:Nat} {C:Cx} {H:Heap}
theorem elems_ok (hs:Sim base C H) {y v l2} (hy:Rv C y v) (h:elems H y = some l2) :
    ∃ a cap,v = .slice a l2.length cap ∧ (l2 = [] ∨ ∃ b off css sz,a = some ⟨b,off,none⟩ ∧ Rcl C l2 css ∧ (∀ c ∈ css,c.length = sz) ∧ cellsAt C.w b off css.flatten):=by
  cases y <;> try (cases h; done)
  · cases h
    exact ⟨none,0,Rv_nl hy,.inl rfl⟩
  · rename_i l
    cases h
    obtain ⟨a,cap,rfl,hc⟩:=Rv_isl hy
    refine ⟨a,cap,rfl,?_⟩
    rcases hc with h0 | ⟨b,off,css,sz,h1,_,_,h2,h3,h4⟩
    · exact .inl (List.eq_nil_of_length_eq_zero h0)
    · exact .inr ⟨b,off,css,sz,h1,h2,h3,h4⟩
  · rename_i o g sz st len
    simp only [elems] at h
    split at h
    · rename_i g' sz' l ho
      split at h
      · rename_i hh
        obtain ⟨rfl,rfl,hle⟩:=hh
        cases h
        have hlen:((l.drop st).take len).length = len:=by simp; omega
        rw [hlen]
        obtain ⟨hok,_⟩:=hs.obj o _ ho
        rcases Rv_sl hy with ⟨b,bs,cap,hβ,rfl,_⟩ | ⟨q,hβ,hl,a,rfl⟩
        · refine ⟨_,cap,rfl,?_⟩
          rcases hok with ⟨hn,_⟩ | ⟨b',bs',c,e,pre,css,post,h1,h2,h3,h4,h5,h6,_⟩
          · rw [hn] at hβ; cases hβ
          · rw [h1] at hβ; cases hβ
            refine .inr ⟨b,_,(css.drop st).take len,sz,rfl,Rcl_take _ _ _ (Rcl_drop _ _ _ h5),fun c hc=>h6 c (List.mem_of_mem_drop (List.mem_of_mem_take hc)),?_⟩
            have hcl:=Rcl_count _ _ h5
            have hc:c.toList = (pre ++ (css.take st).flatten) ++ ((css.drop st).take len).flatten ++ (((css.drop st).drop len).flatten ++ post):=by
              rw [h3]
              have:css.flatten = (css.take st).flatten ++ (((css.drop st).take len).flatten ++ ((css.drop st).drop len).flatten):=by
                rw [← List.flatten_append,List.take_append_drop,← List.flatten_append,List.take_append_drop]
              rw [this]; simp [List.append_assoc]
            have:=cellsAt_of h2 hc
            rw [List.length_append,h4,take_uniform css h6 st (by omega)] at this
            exact this
        · subst hl
          exact ⟨a,0,rfl,.inl (by simp)⟩
      · cases h
    · cases h
theorem cellsAt_drew {w:World} {b off cs} (h:cellsAt w b off cs):cellsAt w.drew b off cs:=fun i x hx=>by simpa using h i x hx
theorem run_first {w:World} {sz:Nat} {a:Option Addr} {n cap:Nat} {cs:List Value} (hn:cs.length = n * sz) (h:cs = [] ∨ ∃ b off,a = some ⟨b,off,none⟩ ∧ cellsAt w b off cs) :
    (Builtin.firstCells sz n (.slice a n cap)).run P w = .ok cs.toArray w:=by
  rcases h with rfl | ⟨b,off,rfl,hc⟩
  · cases a with
    | none=>exact run_firstCells_none w sz n n cap
    | some a=>exact run_firstCells_some w sz n a n cap [] hn (fun j v hv=>by simp at hv)
  · exact run_firstCells_some w sz n _ n cap cs hn (fun j v hv=>by rw [addr_add]; exact hc j v hv)
theorem first_ok {l2:List AV} {sz:Nat} {a:Option Addr} (h:l2 = [] ∨ ∃ b off css sz,a = some ⟨b,off,none⟩ ∧ Rcl C l2 css ∧ (∀ c ∈ css,c.length = sz) ∧ cellsAt C.w b off css.flatten)
    (hd:headSize sz l2 = true):∃ css,Rcl C l2 css ∧ (∀ c ∈ css,c.length = sz) ∧ css.flatten.length = l2.length * sz ∧ (css.flatten = [] ∨ ∃ b off,a = some ⟨b,off,none⟩ ∧ cellsAt C.w b off css.flatten):=by
  rcases h with rfl | ⟨b,off,css,sz',h1,h2,h3,h4⟩
  · exact ⟨[],rfl,fun c hc=>(by cases hc),by simp,.inl rfl⟩
  · have hcl:=Rcl_count _ _ h2
    by_cases hne:l2 = []
    · subst hne
      refine ⟨css,h2,?_,?_,.inr ⟨b,off,h1,h4⟩⟩
      · have:css = []:=List.eq_nil_of_length_eq_zero (by simpa using hcl)
        subst this; intro c hc; cases hc
      · have:css = []:=List.eq_nil_of_length_eq_zero (by simpa using hcl)
        subst this; simp
    · have:sz' = sz:=headSize_uniform h2 h3 hd hne
      subst this
      exact ⟨css,h2,h3,by rw [uniform_len css h3,hcl],.inr ⟨b,off,h1,h4⟩⟩
section
variable (w:World)
theorem run_app_in (t ty e:TypeId) {sz:Nat} (ht:P.underlying t = some (.slice e)) (hz:sizeB P e = some sz) (a0:Option Addr) (sLen sCap:Nat) (a:Option Addr) (n c:Nat) (new:Array Value)
    (hf:(Builtin.firstCells sz n (.slice a n c)).run P w = .ok new w) (hn:sLen + n ≤ sCap) (w':World)
    (h0:a0 = none → w' = w) (h1:∀ b,a0 = some b → (storeCells (b.add (sLen * sz)) new.toList).run P w = .ok () w') :
    (Builtin.append_ #[t,t] ty #[.slice a0 sLen sCap,.slice a n c]).run P w = .ok (.slice a0 (sLen + n) sCap) w':=by
  cases a0 with
  | none =>
    have:=h0 rfl
    subst this
    simp [Builtin.append_,run_underlying ht,run_sizeOf hz,Builtin.lenOf,hn,hf]
  | some b =>
    have:=h1 b rfl
    simp [Builtin.append_,run_underlying ht,run_sizeOf hz,Builtin.lenOf,hn,hf,this]
theorem run_app_grow (t ty e:TypeId) (i:TypeInfo) (z:Value) (ht:P.underlying t = some (.slice e)) (hi:P.info? e = some i) (hz:i.zero = some z)
    (a0:Option Addr) (sLen sCap:Nat) (a:Option Addr) (n c:Nat) (olds news:Array Value)
    (hfo:(Builtin.firstCells i.size sLen (.slice a0 sLen sCap)).run P w.drew = .ok olds w.drew) (hf:(Builtin.firstCells i.size n (.slice a n c)).run P w.drew = .ok news w.drew)
    (hg:sCap < sLen + n) (h63:((sLen + n:Nat):Int) ≤ 9223372036854775807) (hfit:Builtin.nextslicecap (sLen + n) sCap * i.bytes ≤ 281474976710656) :
    (Builtin.append_ #[t,t] ty #[.slice a0 sLen sCap,.slice a n c]).run P w =
      .ok (.slice (some ⟨w.heap.size,0,none⟩) (sLen + n) (grownCap w (sLen + n) sCap e))
        (w.drew.alloc (.cells (olds ++ news ++ Builtin.zeroCells z.cells (grownCap w (sLen + n) sCap e - (sLen + n))) e)):=by
  have hn:¬ (sLen + n ≤ sCap):=by omega
  have h63':¬ (9223372036854775807 < ((sLen:Int) + (n:Int))):=by omega
  have h48':¬ (281474976710656 < Builtin.nextslicecap (sLen + n) sCap * i.bytes):=by omega
  simp [Builtin.append_,run_underlying ht,Go.sizeOf,typeInfo,zeroValue,hi,hz,Builtin.lenOf,hn,h63',h48',Question.forced,hf,hfo,newRow,grownCap]
end
def Cx.gen (C:Cx) (w:World) (o g:Nat) (q:Option (Nat × Nat)):Cx:={ C with w:=w,β:=fun o' g'=>if o' = o ∧ g' = g then some q else C.β o' g' }
theorem le_gen (hs:Sim base C H) {w'} {o g sz l} (ho:H[o]? = some (.arr g sz l)) (q) (hm:∀ b,C.F b → w'.heap[b]? = C.w.heap[b]?) (hshp:∀ b s,C.w.shape? b = some s → w'.shape? b = some s):Le C (C.gen w' o (g + 1) q) where
  ι:=rfl
  F _ h:=h
  β o' g' p h:=by
    have:¬ (o' = o ∧ g' = g + 1):=by
      rintro ⟨rfl,rfl⟩
      rw [(hs.obj o' _ ho).2 (g + 1) (Nat.lt_succ_self g)] at h; cases h
    simp [Cx.gen,this,h]
  mem b hb:=hm b hb
  shp b s h:=hshp b s h
theorem gen_genOk (hs:Sim base C H) {w' o g sz l} (ho:H[o]? = some (.arr g sz l)) (q sz' l'):GenOk (C.gen w' o (g + 1) q) o (.arr (g + 1) sz' l'):=by
  intro g' hg'
  have:g' ≠ g + 1:=by omega
  simp [Cx.gen,this,(hs.obj o _ ho).2 g' (by omega)]
theorem zeroCells_size (z:Array Value) (n:Nat):(Builtin.zeroCells z n).size = n * z.size:=by simp [Builtin.zeroCells]
theorem append_ok (hs:Sim base C H) {t ty e sz bytes X Y v u y H' b zv} {i:TypeInfo} (ht:sliceB P t = some e) (hi:P.info? e = some i) (hsz:i.size = sz) (hby:i.bytes = bytes) (hzv:i.zero = some zv) (hzs:zv.cells.size = sz)
    (hx:Rv C X v) (hy:Rv C Y u) (h:doAppend sz bytes H X Y = some (y,H',b)) :
    ∃ C' r,(Builtin.append_ #[t,t] ty #[v,u]).run P C.w = .ok r C'.w ∧ OStep base C H C' H' ∧ Rv C' y r:=by
  have hu:=sliceB_inv ht
  have hszB:sizeB P e = some sz:=by simp [sizeB,hi,hsz]
  cases X <;> try (cases h; done)
  · -- a nil slice
    simp only [doAppend] at h
    cases hel:elems H Y with
    | none=>rw [hel] at h; cases h
    | some l2 =>
      rw [hel] at h
      simp only [appNil] at h
      split at h
      · rename_i hh
        obtain ⟨hb,hd,hlen⟩:=hh
        cases h
        rw [Rv_nl hx]
        obtain ⟨a,cap,rfl,hcs⟩:=elems_ok hs hy hel
        obtain ⟨css,c1,c2,c3,c4⟩:=first_ok hcs hd
        by_cases h0:l2.length = 0
        · have hl0:l2 = []:=List.eq_nil_of_length_eq_zero h0
          subst hl0
          have hrun:=run_app_in C.w t ty e hu hszB none 0 0 a 0 cap css.flatten.toArray (run_first c3 c4) (by simp) C.w (fun _=>rfl) (fun b hb=>by cases hb)
          obtain ⟨x1,x2⟩:=nils_step hs sz none
          exact ⟨C.with C.w H.length none,_,hrun,x1,x2⟩
        · unfold maxLenA at hlen
          have hg:=grownCap_ge C.w (0 + l2.length) 0 e
          rw [Nat.zero_add] at hg
          have hrun:=run_app_grow C.w t ty e i zv hu hi hzv none 0 0 a l2.length cap #[] css.flatten.toArray (run_firstCells_none _ _ _ _ _)
            (hsz ▸ run_first c3 (c4.imp id (fun ⟨b,off,x1,x2⟩=>⟨b,off,x1,cellsAt_drew x2⟩))) (by omega) (by omega)
            (growslice_fits (by omega) (by
              have:(0 + l2.length) * i.bytes ≤ 4294967296 * 4096:=Nat.mul_le_mul (by omega) (by omega)
              omega))
          rw [Nat.zero_add] at hrun
          have hcl:=Rcl_count _ _ c1
          generalize hgc:grownCap C.w l2.length 0 e = gc at hrun hg
          have hst:=arr_step hs (Grow.drewAlloc C.w (.cells (#[] ++ css.flatten.toArray ++ Builtin.zeroCells zv.cells (gc - l2.length)) e)) (l:=l2) (css:=css)
            (post:=(Builtin.zeroCells zv.cells (gc - l2.length)).toList) (sz:=sz) (cap:=gc) e (heap_new _ _) (by simp) c1 c2 (by
              simp only [Array.size_append,List.size_toArray,zeroCells_size,hzs,c3,List.size_toArray,List.length_nil]
              rw [Nat.zero_add,← Nat.add_mul]
              congr 1; omega) (by omega)
          exact ⟨_,_,hrun,hst.1,hst.2⟩
      · cases h
  · rename_i o g sz' st len
    simp only [doAppend] at h
    cases ho:H[o]? with
    | none=>rw [ho] at h; cases h
    | some ob =>
      rw [ho] at h
      cases hel:elems H Y with
      | none=>rw [hel] at h; cases ob <;> cases h
      | some l2 =>
        rw [hel] at h
        cases ob <;> try (cases h; done)
        rename_i g' sz'' l
        replace h:=appTo_in h
        simp only [appIn] at h
        split at h
        · rename_i hh
          obtain ⟨rfl,rfl,rfl,hsl,hb,hd,hlen⟩:=hh
          cases h
          unfold maxLenA at hlen
          obtain ⟨a,cap2,rfl,hcs⟩:=elems_ok hs hy hel
          obtain ⟨css2,c1,c2,c3,c4⟩:=first_ok hcs hd
          have hc2:=Rcl_count _ _ c1
          obtain ⟨hok,hgn⟩:=hs.obj o _ ho
          -- what the slice shows
          have hd1:(l.take (st + len)).drop st = (l.drop st).take len:=by rw [List.drop_take]; congr 1; omega
          have hsl1:st + len = (l.take (st + len)).length:=by simp; omega
          rw [← hd1]
          generalize hl1:l.take (st + len) = l1 at hd1 hsl1
          have key:∃ a0 cap css,v = .slice a0 len cap ∧ len ≤ cap ∧ Rcl C (l1.drop st) css ∧ (∀ c ∈ css,c.length = sz'') ∧ css.length = len ∧ (css.flatten = [] ∨ ∃ b off,a0 = some ⟨b,off,none⟩ ∧ cellsAt C.w b off css.flatten) ∧
              ((∃ b bs c ee pre css0 post,C.β o g = some (some (b,bs)) ∧ C.w.heap[b]? = some (.cells c ee (0,0)) ∧ c.toList = pre ++ css0.flatten ++ post ∧ pre.length = bs ∧ Rcl C l1 css0 ∧ (∀ x ∈ css0,x.length = sz'') ∧ base ≤ b ∧ ¬ C.F b ∧
                a0 = some ⟨b,bs + st * sz'',none⟩ ∧ css = css0.drop st ∧ bs + st * sz'' + cap * sz'' ≤ c.size) ∨ (cap = 0 ∧ len = 0)):=by
            have hdl:(l1.drop st).length = len:=by simp; omega
            rcases Rv_sl hx with ⟨b,bs,cap,hβ,rfl,hle,hroom⟩ | ⟨q,hβ,hl,a,rfl⟩
            · rcases hok with ⟨hn,hl0⟩ | ⟨b',bs',c,ee,pre,css',post',h1,h2,h3',h4,h5',h6',h7,h8⟩
              · rw [hn] at hβ; cases hβ
              · rw [h1] at hβ; cases hβ
                have hcc':=Rcl_count _ _ h5'
                have h5:Rcl C l1 (css'.take (st + len)):=by rw [← hl1]; exact Rcl_take _ _ _ h5'
                have h3:c.toList = pre ++ (css'.take (st + len)).flatten ++ ((css'.drop (st + len)).flatten ++ post'):=by
                  have:css'.flatten = (css'.take (st + len)).flatten ++ (css'.drop (st + len)).flatten:=by rw [← List.flatten_append,List.take_append_drop]
                  rw [h3',this]; simp [List.append_assoc]
                have h6:∀ x ∈ css'.take (st + len),x.length = sz'':=fun x hx=>h6' x (List.mem_of_mem_take hx)
                generalize css'.take (st + len) = css at h5 h3 h6
                generalize (css'.drop (st + len)).flatten ++ post' = post at h3
                have hcc:=Rcl_count _ _ h5
                obtain ⟨e',n,hs1,hs2⟩:=hroom
                simp only [World.shape?,h2,Option.some.injEq,Prod.mk.injEq] at hs1
                obtain ⟨_,rfl⟩:=hs1
                refine ⟨_,cap,css.drop st,rfl,hle,Rcl_drop _ _ _ h5,fun c hc=>h6 c (List.mem_of_mem_drop hc),by simp; omega,.inr ⟨b,_,rfl,?_⟩,.inl ⟨b,bs,c,ee,pre,css,post,h1,h2,h3,h4,h5,h6,h7,h8,rfl,rfl,hs2⟩⟩
                have hc:c.toList = (pre ++ (css.take st).flatten) ++ (css.drop st).flatten ++ post:=by
                  rw [h3]
                  have:css.flatten = (css.take st).flatten ++ (css.drop st).flatten:=by rw [← List.flatten_append,List.take_append_drop]
                  rw [this]; simp [List.append_assoc]
                have:=cellsAt_of h2 hc
                rw [List.length_append,h4,take_uniform css h6 st (by omega)] at this
                exact this
            · subst hl
              have:l1.drop st = []:=List.eq_nil_of_length_eq_zero hdl
              rw [this]
              exact ⟨a,0,[],rfl,Nat.le_refl _,rfl,fun c hc=>(by cases hc),rfl,.inl rfl,.inr ⟨rfl,rfl⟩⟩
          obtain ⟨a0,cap,css,rfl,hcap,k1,k2,k3,k4,k5⟩:=key
          have hfl:=uniform_len css k2
          have hfl2:=uniform_len css2 c2
          by_cases hin:len + l2.length ≤ cap
          · -- in place
            rcases k5 with ⟨b,bs,c,ee,pre,css0,post,h1,h2,h3,h4,h5,h6,h7,h8,rfl,rfl,h9⟩ | ⟨rfl,rfl⟩
            · have hcc:=Rcl_count _ _ h5
              have hsum:css0.flatten.length = css0.length * sz'':=uniform_len css0 h6
              have hpos:pre.length + css0.flatten.length = bs + st * sz'' + len * sz'':=by
                rw [h4,hsum,hcc,← hsl1,Nat.add_mul]; omega
              have hcsz:c.size = pre.length + css0.flatten.length + post.length:=by rw [← Array.length_toList,h3,List.length_append,List.length_append]
              have hroom:css2.flatten.length ≤ post.length:=by
                have:(len + l2.length) * sz'' ≤ cap * sz'':=Nat.mul_le_mul_right _ hin
                rw [Nat.add_mul] at this
                rw [hfl2,hc2]; omega
              have hst:=run_storeCells_at P b (bs + st * sz'' + len * sz'') ee css2.flatten 0 c C.w h2 (by omega) (fun v hv=>by
                obtain ⟨cc,hcc,hv⟩:=List.mem_flatten.1 hv
                exact Rcl_one _ _ c1 cc hcc v hv)
              simp only [Nat.add_zero] at hst
              have hcells:c.toList.take (bs + st * sz'' + len * sz'') ++ css2.flatten ++ c.toList.drop (bs + st * sz'' + len * sz'' + css2.flatten.length) = pre ++ (css0 ++ css2).flatten ++ post.drop css2.flatten.length:=by
                rw [h3,← hpos,show pre.length + css0.flatten.length = (pre ++ css0.flatten).length by simp,List.take_left,List.drop_append,List.drop_eq_nil_of_le (by omega),List.nil_append,List.flatten_append]
                rw [show (pre ++ css0.flatten).length + css2.flatten.length - (pre ++ css0.flatten).length = css2.flatten.length by omega]
                simp [List.append_assoc]
              rw [hcells] at hst
              have hrun:=run_app_in C.w t ty e hu hszB (some ⟨b,bs + st * sz'',none⟩) len cap a l2.length cap2 css2.flatten.toArray (run_first c3 c4) hin _ (fun hb=>by cases hb) (fun b1 hb1=>by cases hb1; rw [addr_add]; exact hst)
              have hsize:(pre ++ (css0 ++ css2).flatten ++ post.drop css2.flatten.length).toArray.size = c.size:=by
                rw [hcsz]; simp only [List.size_toArray,List.length_append,List.flatten_append,List.length_drop]; omega
              have hblk:blk C o (.arr g sz'' l) = some b:=by simp [blk,h1,bOf]
              have hle1:=setRow_le hs ho hblk h2 hsize
              have hle:Le C (C.gen (C.w.setRow b (pre ++ (css0 ++ css2).flatten ++ post.drop css2.flatten.length).toArray) o (g + 1) (some (b,bs + st * sz''))):=le_gen hs ho _ hle1.mem hle1.shp
              have hβ':(C.gen (C.w.setRow b (pre ++ (css0 ++ css2).flatten ++ post.drop css2.flatten.length).toArray) o (g + 1) (some (b,bs + st * sz''))).β o (g + 1) = some (some (b,bs + st * sz'')):=by simp [Cx.gen]
              have hnew:=setRow_heap C.w b c (pre ++ (css0 ++ css2).flatten ++ post.drop css2.flatten.length).toArray ee (0,0) h2
              have hm:∀ b1,b1 < C.w.heap.size → blk C o (.arr g sz'' l) ≠ some b1 → (C.gen (C.w.setRow b (pre ++ (css0 ++ css2).flatten ++ post.drop css2.flatten.length).toArray) o (g + 1) (some (b,bs + st * sz''))).w.heap[b1]? = C.w.heap[b1]?:=fun b1 _ hne=>setRow_other _ _ _ _ (fun e=>hne (by rw [hblk,e]))
              have hlast:∀ b1,blk (C.gen (C.w.setRow b (pre ++ (css0 ++ css2).flatten ++ post.drop css2.flatten.length).toArray) o (g + 1) (some (b,bs + st * sz''))) o (.arr (g + 1) sz'' (l1.drop st ++ l2)) = some b1 → blk C o (.arr g sz'' l) = some b1 ∨ C.w.heap.size ≤ b1:=by
                intro b1 hb1
                left
                simp only [blk,hβ',bOf,Option.some.injEq] at hb1
                rw [hblk,hb1]
              refine ⟨_,_,hrun,⟨hle,hs.set ho hle (fun b1 hb1=>⟨by simpa [Cx.gen] using hs.fsz b1 hb1,.inl hb1⟩) (by simp [Cx.gen]) (fun o' g hne=>by simp [Cx.gen,hne]) hm ?_ (gen_genOk hs ho _ _ _) hlast,⟨rfl,rfl,rfl,by simp [Cx.gen],fun k hk=>setRow_other _ _ _ _ (by omega)⟩,fun _ h=>.inl h,set_priv hs ho hle (fun _ h=>h) hm hlast⟩,?_⟩
              · refine .inr ⟨b,bs + st * sz'',_,ee,pre ++ (css0.take st).flatten,css0.drop st ++ css2,post.drop css2.flatten.length,hβ',hnew,?_,?_,Rcl_le hle _ _ (Rcl_append _ _ _ _ (Rcl_drop _ _ _ h5) c1),?_,h7,h8⟩
                · have:(css0 ++ css2).flatten = (css0.take st).flatten ++ (css0.drop st ++ css2).flatten:=by
                    rw [← List.flatten_append,← List.append_assoc,List.take_append_drop]
                  rw [this]; simp [List.append_assoc]
                · rw [List.length_append,h4,take_uniform css0 h6 st (by omega)]
                · intro x hx
                  rcases List.mem_append.1 hx with hx | hx
                  · exact h6 x (List.mem_of_mem_drop hx)
                  · exact c2 x hx
              · refine Rv_one ?_ rfl rfl
                simp only [Rc]
                refine .inl ⟨b,bs + st * sz'',cap,hβ',by simp,hin,?_⟩
                refine ⟨ee,c.size,?_,by omega⟩
                show World.shape? (C.w.setRow b _) b = _
                simp only [World.shape?,hnew,hsize]
            · have hl2:l2 = []:=List.eq_nil_of_length_eq_zero (by omega)
              subst hl2
              have hc0:css2 = []:=List.eq_nil_of_length_eq_zero (by simpa using hc2)
              subst hc0
              have hrun:=run_app_in C.w t ty e hu hszB a0 0 0 a 0 cap2 #[] (run_first (by simp) (.inl rfl)) (by simp) C.w (fun _=>rfl) (fun b1 hb1=>rfl)
              have hle:Le C (C.gen C.w o (g + 1) none):=le_gen hs ho _ (fun _ _=>rfl) (fun _ _ h=>h)
              have hβ':(C.gen C.w o (g + 1) none).β o (g + 1) = some none:=by simp [Cx.gen]
              have hd0:l1.drop st = []:=List.eq_nil_of_length_eq_zero (by simp; omega)
              have hm:∀ b1,b1 < C.w.heap.size → blk C o (.arr g sz'' l) ≠ some b1 → (C.gen C.w o (g + 1) none).w.heap[b1]? = C.w.heap[b1]?:=fun _ _ _=>rfl
              have hlast:∀ b1,blk (C.gen C.w o (g + 1) none) o (.arr (g + 1) sz'' (l1.drop st ++ [])) = some b1 → blk C o (.arr g sz'' l) = some b1 ∨ C.w.heap.size ≤ b1:=by
                intro b1 hb1; simp only [blk,hβ',bOf] at hb1; cases hb1
              refine ⟨C.gen C.w o (g + 1) none,_,hrun,⟨hle,hs.set ho hle (fun b1 hb1=>⟨hs.fsz b1 hb1,.inl hb1⟩) (Nat.le_refl _) (fun o' g hne=>by simp [Cx.gen,hne]) hm ?_ (gen_genOk hs ho _ _ _) hlast,(Grow.refl C.w).below hs.bsz,fun _ h=>.inl h,set_priv hs ho hle (fun _ h=>h) hm hlast⟩,?_⟩
              · exact .inl ⟨hβ',by simp [hd0]⟩
              · refine Rv_one ?_ rfl rfl
                simp only [Rc]
                exact .inr ⟨none,hβ',rfl,a0,rfl⟩
          · -- a new row
            have hrun:=run_app_grow C.w t ty e i zv hu hi hzv a0 len cap a l2.length cap2 css.flatten.toArray css2.flatten.toArray
              (by
                rw [hsz]
                rcases k4 with k4 | ⟨b,off,x1,x2⟩
                · cases a0 with
                  | none=>rw [k4]; exact run_firstCells_none _ _ _ _ _
                  | some a0=>exact run_firstCells_some _ _ _ _ _ _ _ (by rw [hfl,k3]) (fun j v hv=>by rw [k4] at hv; simp at hv)
                · subst x1
                  exact run_firstCells_some _ _ _ _ _ _ _ (by rw [hfl,k3]) (fun j v hv=>by rw [addr_add]; exact cellsAt_drew x2 j v hv))
              (hsz ▸ run_first c3 (c4.imp id (fun ⟨b,off,x1,x2⟩=>⟨b,off,x1,cellsAt_drew x2⟩))) (by omega) (by omega)
              (growslice_fits (by omega) (by
                have:(len + l2.length) * i.bytes ≤ 4294967296 * 4096:=Nat.mul_le_mul (by omega) (by omega)
                omega))
            have hg:=grownCap_ge C.w (len + l2.length) cap e
            generalize hgc:grownCap C.w (len + l2.length) cap e = gc at hrun hg
            generalize hw:C.w.drew.alloc (.cells (css.flatten.toArray ++ css2.flatten.toArray ++ Builtin.zeroCells zv.cells (gc - (len + l2.length))) e) = w' at hrun
            have hgr:Grow C.w w':=hw ▸ Grow.drewAlloc _ _
            have hnew:w'.heap[C.w.heap.size]? = some (.cells (css.flatten.toArray ++ css2.flatten.toArray ++ Builtin.zeroCells zv.cells (gc - (len + l2.length))) e (0,0)):=by rw [← hw]; exact heap_new _ _
            have hle:Le C (C.gen w' o (g + 1) (some (C.w.heap.size,0))):=le_gen hs ho _ (fun b hb=>hgr.old b (hs.fsz b hb)) (fun _ _ h=>hgr.shape h)
            have hβ':(C.gen w' o (g + 1) (some (C.w.heap.size,0))).β o (g + 1) = some (some (C.w.heap.size,0)):=by simp [Cx.gen]
            have hcsize:(css.flatten.toArray ++ css2.flatten.toArray ++ Builtin.zeroCells zv.cells (gc - (len + l2.length))).size = gc * sz'':=by
              simp only [Array.size_append,List.size_toArray,zeroCells_size,hzs]
              rw [hfl,hfl2,k3,hc2,← Nat.add_mul,← Nat.add_mul]
              congr 1; omega
            have hm:∀ b1,b1 < C.w.heap.size → blk C o (.arr g sz'' l) ≠ some b1 → (C.gen w' o (g + 1) (some (C.w.heap.size,0))).w.heap[b1]? = C.w.heap[b1]?:=fun b1 hb1 _=>hgr.old b1 hb1
            have hlast:∀ b1,blk (C.gen w' o (g + 1) (some (C.w.heap.size,0))) o (.arr (g + 1) sz'' (l1.drop st ++ l2)) = some b1 → blk C o (.arr g sz'' l) = some b1 ∨ C.w.heap.size ≤ b1:=by
              intro b1 hb1
              right
              simp only [blk,hβ',bOf,Option.some.injEq] at hb1
              omega
            refine ⟨C.gen w' o (g + 1) (some (C.w.heap.size,0)),_,hrun,⟨hle,hs.set ho hle (fun b1 hb1=>⟨Nat.lt_of_lt_of_le (hs.fsz b1 hb1) hgr.size,.inl hb1⟩) hgr.size (fun o' g hne=>by simp [Cx.gen,hne]) hm ?_ (gen_genOk hs ho _ _ _) hlast,hgr.below hs.bsz,fun _ h=>.inl h,set_priv hs ho hle (fun _ h=>h) hm hlast⟩,?_⟩
            · refine .inr ⟨C.w.heap.size,0,_,e,[],css ++ css2,(Builtin.zeroCells zv.cells (gc - (len + l2.length))).toList,hβ',hnew,by simp,rfl,Rcl_le hle _ _ (Rcl_append _ _ _ _ k1 c1),?_,hs.bsz,fun h=>Nat.lt_irrefl _ (hs.fsz _ h)⟩
              intro x hx
              rcases List.mem_append.1 hx with hx | hx
              · exact k2 x hx
              · exact c2 x hx
            · refine Rv_one ?_ rfl rfl
              simp only [Rc]
              refine .inl ⟨C.w.heap.size,0,gc,hβ',by simp,hg,e,gc * sz'',?_,by omega⟩
              show World.shape? w' C.w.heap.size = _
              simp only [World.shape?,hnew,hcsize]
        · cases h
theorem copy_ok (hs:Sim base C H) {t t2 ty e sz X Y v u y H' b} (ht:sliceB P t = some e) (hz:sizeB P e = some sz) (hx:Rv C X v) (hy:Rv C Y u) (h:doCopy sz H X Y = some (y,H',b)) :
    ∃ C' r,(Builtin.copy_ #[t,t2] ty #[v,u]).run P C.w = .ok r C'.w ∧ OStep base C H C' H' ∧ Rv C' y r:=by
  have hu:=sliceB_inv ht
  cases X <;> try (cases h; done)
  rename_i o g sz' st len
  simp only [doCopy] at h
  cases ho:H[o]? with
  | none=>rw [ho] at h; cases h
  | some ob =>
    rw [ho] at h
    cases hel:elems H Y with
    | none=>rw [hel] at h; cases ob <;> cases h
    | some l2 =>
      rw [hel] at h
      cases ob <;> try (cases h; done)
      rename_i g' sz'' l
      simp only [copyTo] at h
      split at h
      · rename_i hh
        obtain ⟨rfl,rfl,rfl,hsl,hd⟩:=hh
        cases h
        obtain ⟨a,cap2,rfl,hcs⟩:=elems_ok hs hy hel
        obtain ⟨css2,c1,c2,c3,c4⟩:=first_ok hcs hd
        have hc2:=Rcl_count _ _ c1
        obtain ⟨hok,hgn⟩:=hs.obj o _ ho
        generalize hm:Nat.min l2.length len = m
        have hm':m = min l2.length len:=hm.symm
        have ctk:Rcl C (l2.take len) (css2.take len):=Rcl_take _ _ _ c1
        have c2':∀ c ∈ css2.take len,c.length = sz'':=fun c hc=>c2 c (List.mem_of_mem_take hc)
        have hct:(css2.take len).length = m:=by rw [List.length_take]; omega
        have c3':(css2.take len).flatten.length = m * sz'':=by rw [uniform_len _ c2',hct]
        have c4':(css2.take len).flatten = [] ∨ ∃ b off,a = some ⟨b,off,none⟩ ∧ cellsAt C.w b off (css2.take len).flatten:=by
          rcases c4 with c4 | ⟨b,off,x1,x2⟩
          · left
            have:css2.flatten = (css2.take len).flatten ++ (css2.drop len).flatten:=by rw [← List.flatten_append,List.take_append_drop]
            rw [c4] at this
            exact (List.append_eq_nil_iff.1 this.symm).1
          · refine .inr ⟨b,off,x1,?_⟩
            have:css2.flatten = [] ++ (css2.take len).flatten ++ (css2.drop len).flatten:=by rw [List.nil_append,← List.flatten_append,List.take_append_drop]
            rw [this] at x2
            simpa using cellsAt_part x2
        have hfirst:(Builtin.firstCells sz'' m (.slice a l2.length cap2)).run P C.w = .ok (css2.take len).flatten.toArray C.w:=by
          rcases c4' with k | ⟨b,off,rfl,hc⟩
          · rw [k] at c3' ⊢
            cases a with
            | none=>exact run_firstCells_none _ _ _ _ _
            | some a=>exact run_firstCells_some _ _ _ _ _ _ _ c3' (fun j v hv=>by simp at hv)
          · exact run_firstCells_some _ _ _ _ _ _ _ c3' (fun j v hv=>by rw [addr_add]; exact hc j v hv)
        have hrun:∀ (a0:Option Addr) cap w',(a0 = none → w' = C.w) → (∀ b,a0 = some b → (storeCells b (css2.take len).flatten).run P C.w = .ok () w') →
            (Builtin.copy_ #[t,t2] ty #[.slice a0 len cap,.slice a l2.length cap2]).run P C.w = .ok (.int .i64 (m:Nat)) w':=by
          intro a0 cap w' h0 h1
          cases a0 with
          | none =>
            have:=h0 rfl
            subst this
            simp [Builtin.copy_,run_underlying hu,run_sizeOf hz,Builtin.lenOf,hm,hfirst,goInt]
          | some b =>
            have:=h1 b rfl
            simp [Builtin.copy_,run_underlying hu,run_sizeOf hz,Builtin.lenOf,hm,hfirst,goInt,this]
        have zero:len = 0 → l.take st ++ l2.take len ++ l.drop (st + m) = l:=by
          intro h0
          have:m = 0:=by omega
          subst h0; rw [this]; simp
        rcases Rv_sl hx with ⟨b,bs,cap,hβ,rfl,hle,hroom⟩ | ⟨q,hβ,hl,a1,rfl⟩
        · rcases hok with ⟨hn,hl0⟩ | ⟨b',bs',c,ee,pre,css,post,h1,h2,h3,h4,h5,h6,h7,h8⟩
          · rw [hn] at hβ; cases hβ
          · rw [h1] at hβ; cases hβ
            have hcc:=Rcl_count _ _ h5
            have hcl:c.toList = (pre ++ (css.take st).flatten) ++ ((css.drop st).take m).flatten ++ ((css.drop (st + m)).flatten ++ post):=by
              rw [h3]
              have:css.flatten = (css.take st).flatten ++ (((css.drop st).take m).flatten ++ ((css.drop st).drop m).flatten):=by
                rw [← List.flatten_append,List.take_append_drop,← List.flatten_append,List.take_append_drop]
              rw [this,List.drop_drop]; simp [List.append_assoc]
            have hmid:((css.drop st).take m).flatten.length = m * sz'':=by
              rw [uniform_len (sz:=sz'') _ (fun c hc=>h6 c (List.mem_of_mem_drop (List.mem_of_mem_take hc)))]
              congr 1; simp; omega
            have hpre:(pre ++ (css.take st).flatten).length = bs + st * sz'':=by rw [List.length_append,h4,take_uniform css h6 st (by omega)]
            have hlenc:c.size = bs + st * sz'' + m * sz'' + ((css.drop (st + m)).flatten ++ post).length:=by
              rw [← Array.length_toList,hcl,List.length_append,List.length_append,hpre,hmid]
            have hst:=run_storeCells_at P b (bs + st * sz'') ee (css2.take len).flatten 0 c C.w h2 (by omega) (fun v hv=>by
              obtain ⟨cc,hcc,hv⟩:=List.mem_flatten.1 hv
              exact Rcl_one _ _ ctk cc hcc v hv)
            simp only [Nat.add_zero] at hst
            rw [hcl,← hpre,take_drop_mid _ _ _ _ (by omega)] at hst
            rw [hpre] at hst
            have hsize:((pre ++ (css.take st).flatten) ++ (css2.take len).flatten ++ ((css.drop (st + m)).flatten ++ post)).toArray.size = c.size:=by
              rw [hlenc,List.size_toArray,List.length_append,List.length_append,hpre,c3']
            have hblk:blk C o (.arr g sz'' l) = some b:=by simp [blk,h1,bOf]
            have hle:=setRow_le hs ho hblk h2 hsize
            refine ⟨_,_,hrun _ cap _ (fun hh=>by cases hh) (fun b1 hb1=>by cases hb1; exact hst),row_step hs ho hblk h2 hsize (.inr ⟨b,bs,_,ee,pre,css.take st ++ css2.take len ++ css.drop (st + m),post,h1,setRow_heap _ _ _ _ _ _ h2,by simp [List.append_assoc],h4,?_,?_,h7,h8⟩) hgn (by simp [blk,h1,bOf]),mk_int _ _⟩
            · exact Rcl_le hle _ _ (Rcl_append _ _ _ _ (Rcl_append _ _ _ _ (Rcl_take _ _ _ h5) ctk) (Rcl_drop _ _ _ h5))
            · intro x hx
              rcases List.mem_append.1 hx with hx | hx
              · rcases List.mem_append.1 hx with hx | hx
                · exact h6 x (List.mem_of_mem_take hx)
                · exact c2' x hx
              · exact h6 x (List.mem_of_mem_drop hx)
        · have hc0:(css2.take len).flatten = []:=by rw [hl]; simp
          have hr0:=hrun a1 0 C.w (fun _=>rfl) (fun b _=>by rw [hc0]; rfl)
          rw [hl] at hr0
          refine ⟨C,_,hr0,?_,mk_int _ _⟩
          rw [zero hl]
          have hlt:o < H.length:=(List.getElem?_eq_some_iff.1 ho).1
          have hself:H.set o (.arr g sz'' l) = H:=by
            apply List.ext_getElem?
            intro i
            rw [List.getElem?_set]
            split
            · rename_i e; subst e; first | exact ho.symm | (rw [if_pos hlt]; exact ho.symm)
            · rfl
          rw [hself]
          exact ⟨Le.refl _,hs,(Grow.refl C.w).below hs.bsz,fun _ h=>.inl h,fun b _ hF hno=>⟨rfl,hF,hno⟩⟩
      · cases h
theorem findNow_upd {d:TypeDesc} (hk:intKind d = true) (n:Int) (y:AV) (v:Value) (hv:Rv1 C y v) (hy:y.known = true) (cl:Nat):∀ {kvs:List (Int × AV)} {es:List MapEntry},MapR C kvs es → ∀ i,
    (Instr.findNow d (.int .i64 n) es i = some none ∧ (∀ e ∈ es,e.key ≠ .int .i64 n) ∧ MapR C (mset n y kvs) (es ++ [{ key:=.int .i64 n,val:=v,born:=cl }]) ∧ mdel n kvs = kvs) ∨
    ∃ j e,Instr.findNow d (.int .i64 n) es i = some (some (i + j,e.val)) ∧ es[j]? = some e ∧ e.key = .int .i64 n ∧
      MapR C (mset n y kvs) (es.modify j fun e=>{ e with key:=.int .i64 n,val:=v }) ∧ MapR C (mdel n kvs) (es.eraseIdx j):=by
  intro kvs es h
  induction h with
  | nil=>intro i; exact .inl ⟨rfl,fun e he=>(by cases he),.cons rfl hv hy .nil,rfl⟩
  | cons h1 h2 h3 h4 ih =>
    rename_i k' x e r es
    intro i
    have hs:Instr.sameNow d (.int .i64 n) e.key = some (n == k'):=by
      cases d <;> try (cases hk; done)
      simp [Instr.sameNow,h1]
    by_cases hkk:n = k'
    · subst hkk
      refine .inr ⟨0,e,by simp [Instr.findNow,hs],rfl,h1,?_,?_⟩
      · simp only [mset,if_pos,List.modify_zero_cons]
        exact .cons rfl hv hy h4
      · simpa [mdel] using h4
    · have hb:(n == k') = false:=by simp [hkk]
      rcases ih (i + 1) with ⟨a1,a0,a2,a3⟩ | ⟨j,e',a1,a2,a3,a4,a5⟩
      · refine .inl ⟨by simp [Instr.findNow,hs,hb,a1],fun e2 he2=>?_,?_,by simp [mdel,hkk,a3]⟩
        · cases he2 with
          | head=>rw [h1]; exact fun e=>hkk (by cases e; rfl)
          | tail _ he2=>exact a0 e2 he2
        simp only [mset,if_neg hkk]
        exact .cons h1 h2 h3 a2
      · refine .inr ⟨j + 1,e',by simp [Instr.findNow,hs,hb,a1,Nat.add_assoc,Nat.add_comm 1 j],by simpa using a2,a3,?_,?_⟩
        · simp only [mset,if_neg hkk,List.modify_succ_cons]
          exact .cons h1 h2 h3 a4
        · simp only [mdel,if_neg hkk,List.eraseIdx_cons_succ]
          exact .cons h1 h2 h3 a5
theorem map_step (hs:Sim base C H) {o kvs kvs' b} {es es':Array MapEntry} {clock clock':Nat} (ho:H[o]? = some (.map kvs)) (hβ:C.β o 0 = some (some (b,0))) (hb:C.w.heap[b]? = some (.map es clock)) (hbase:base ≤ b) (hF:¬ C.F b)
    (hm:MapRS C kvs' es' clock'):OStep base C H { C with w:={ C.w with heap:=C.w.heap.setIfInBounds b (.map es' clock') } } (H.set o (.map kvs')):=by
  have hlt:=lt_of_heap hb
  have hsame:(C.w.heap.setIfInBounds b (.map es' clock'))[b]? = some (.map es' clock'):=by simp [hlt]
  have hoth:∀ i,i ≠ b → (C.w.heap.setIfInBounds b (.map es' clock'))[i]? = C.w.heap[i]?:=by
    intro i hi
    rw [Array.getElem?_setIfInBounds]
    rw [if_neg (fun e=>hi e.symm)]
  have hblk:blk C o (.map kvs) = some b:=by simp [blk,hβ,bOf]
  have hle:Le C { C with w:={ C.w with heap:=C.w.heap.setIfInBounds b (.map es' clock') } }:=by
    refine ⟨rfl,fun _ h=>h,fun _ _ _ h=>h,fun b1 hb1=>hoth b1 (fun e=>hF (e ▸ hb1)),fun b1 s hs1=>?_⟩
    by_cases hbb:b1 = b
    · subst hbb; simp [World.shape?,hb] at hs1
    · simp only [World.shape?,hoth b1 hbb] at hs1 ⊢; exact hs1
  have hm2:∀ b1,b1 < C.w.heap.size → blk C o (.map kvs) ≠ some b1 → (C.w.heap.setIfInBounds b (.map es' clock'))[b1]? = C.w.heap[b1]?:=fun b1 _ hne=>hoth b1 (fun e=>hne (by rw [hblk,e]))
  have hlast:∀ b1,blk { C with w:={ C.w with heap:=C.w.heap.setIfInBounds b (.map es' clock') } } o (.map kvs') = some b1 → blk C o (.map kvs) = some b1 ∨ C.w.heap.size ≤ b1:=by
    intro b1 hb1
    left
    simp only [blk,hβ,bOf,Option.some.injEq] at hb1
    rw [hblk,hb1]
  refine ⟨hle,hs.set ho hle (fun b1 hb1=>⟨by simpa using hs.fsz b1 hb1,.inl hb1⟩) (by simp) (fun _ _ _=>rfl) hm2 ?_ trivial hlast,⟨rfl,rfl,rfl,by simp,fun k hk=>hoth k (by omega)⟩,fun _ h=>.inl h,set_priv hs ho hle (fun _ h=>h) hm2 hlast⟩
  exact ⟨b,es',clock',hβ,hsame,⟨MapR_le hle hm.1,hm.2⟩,hbase,hF⟩
theorem mupd_ok (hs:Sim base C H) {t kt et kd X K Y v vk u y H' b} (ht:mapB P t = some (kt,et)) (hkt:P.underlying kt = some kd) (hki:intKind kd = true)
    (hx:Rv C X v) (hk:Rv C K vk) (hy:Rv C Y u) (h:doMupd H X K Y = some (y,H',b)) :
    ∃ C',(Instr.mapUpdate t v vk u).run P C.w = .ok () C'.w ∧ OStep base C H C' H' ∧ y = nothing:=by
  cases X <;> try (cases h; done)
  cases K <;> try (cases h; done)
  rename_i o k n
  cases k <;> try (cases h; done)
  simp only [doMupd] at h
  split at h
  · rename_i hyk
    cases ho:H[o]? with
    | none=>rw [ho] at h; cases h
    | some ob =>
      rw [ho] at h
      cases ob <;> try (cases h; done)
      rename_i kvs
      cases h
      obtain ⟨b,es,cl,h1,h2,h3,h4,h5⟩:=obj_map hs ho
      obtain ⟨b',h1',rfl⟩:=Rv_mp hx
      rw [h1] at h1'; cases h1'
      rw [Rv_int hk]
      have hyv:=known_Rv1 hyk hy
      rcases findNow_upd hki n Y u hyv hyk cl h3.1 0 with ⟨a1,a0,a2,_⟩ | ⟨j,e,a1,a2,a3,a4,_⟩
      · refine ⟨_,?_,map_step hs (es':=es.push { key:=.int .i64 n,val:=u,born:=cl }) (clock':=cl + 1) ho h1 h2 h4 h5 ⟨by simpa using a2,Go.MapKept.stamped_push h3.2 a0⟩,rfl⟩
        simp [Instr.mapUpdate,Instr.findKey,run_underlying (mapB_inv ht),run_underlying hkt,MapKept.run_getObj_map h2,checkKey_int hkt hki,a1,MapKept.run_setObj_map _ h2]
      · refine ⟨_,?_,map_step hs (es':=es.modify j fun e=>{ e with key:=.int .i64 n,val:=u }) (clock':=cl) ho h1 h2 h4 h5 ⟨by simpa using a4,Go.MapKept.stamped_modify h3.2 j _ (fun _ _=>rfl) (fun e' _ he'=>by
          have hj:es[j]? = some e:=by simpa using a2
          rw [hj] at he'; cases he'; exact a3.symm)⟩,rfl⟩
        have hj:es[j]? = some e:=by simpa using a2
        have hst:(Instr.keyThatStays (.int .i64 n) (.int .i64 n)).run P C.w = .ok (.int .i64 n) C.w:=by
          simp [Instr.keyThatStays,Instr.sameBits]
        simp [Instr.mapUpdate,Instr.findKey,run_underlying (mapB_inv ht),run_underlying hkt,MapKept.run_getObj_map h2,checkKey_int hkt hki,a1,MapKept.run_setObj_map _ h2,hj,a3,hst]
  · cases h
theorem mdel_ok (hs:Sim base C H) {t t2 ty kt et kd X K v vk y H' b} (ht:mapB P t = some (kt,et)) (hkt:P.underlying kt = some kd) (hki:intKind kd = true)
    (hx:Rv C X v) (hk:Rv C K vk) (h:doMdel H X K = some (y,H',b)) :
    ∃ C' r,(Builtin.delete_ #[t,t2] ty #[v,vk]).run P C.w = .ok r C'.w ∧ OStep base C H C' H' ∧ Rv C' y r:=by
  cases X <;> try (cases h; done)
  cases K <;> try (cases h; done)
  rename_i o k n
  cases k <;> try (cases h; done)
  simp only [doMdel] at h
  cases ho:H[o]? with
  | none=>rw [ho] at h; cases h
  | some ob =>
    rw [ho] at h
    cases ob <;> try (cases h; done)
    rename_i kvs
    cases h
    obtain ⟨b,es,cl,h1,h2,h3,h4,h5⟩:=obj_map hs ho
    obtain ⟨b',h1',rfl⟩:=Rv_mp hx
    rw [h1] at h1'; cases h1'
    rw [Rv_int hk]
    have hnone:∀ C':Cx,Rv C' nothing (.tuple #[]):=fun C'=>Rv_tup_mk (vs:=[]) .nil
    rcases findNow_upd hki n (.bool true) (.bool true) (.inr (Rv_known rfl (mk_bool true))) rfl cl h3.1 0 with ⟨a1,_,_,a2⟩ | ⟨j,e,a1,a2,a3,_,a5⟩
    · refine ⟨_,.tuple #[],?_,map_step hs (es':=es) (clock':=cl) ho h1 h2 h4 h5 (by rw [a2]; exact h3),hnone _⟩
      simp [Builtin.delete_,Instr.findKey,run_underlying (mapB_inv ht),run_underlying hkt,MapKept.run_getObj_map h2,checkKey_int hkt hki,a1,MapKept.run_setObj_map _ h2]
    · refine ⟨_,.tuple #[],?_,map_step hs (es':=es.eraseIdxIfInBounds j) (clock':=cl) ho h1 h2 h4 h5 ⟨by simpa using a5,Go.MapKept.stamped_erase h3.2 j⟩,hnone _⟩
      simp [Builtin.delete_,Instr.findKey,run_underlying (mapB_inv ht),run_underlying hkt,MapKept.run_getObj_map h2,checkKey_int hkt hki,a1,MapKept.run_setObj_map _ h2]
end Tor
namespace Tor
open Go
def underMap (n:Nat):List (Int × AV) → Bool
  | []=>true
  | (_,x) :: r=>x.under n && underMap n r
def AObj.under (n:Nat):AObj → Bool
  | .var x=>x.under n
  | .arr _ _ l=>AV.unders n l
  | .map kvs=>underMap n kvs
  | .dead=>true
def HUnder (n:Nat) (H:Heap):Prop:=∀ o ob,o < n → H[o]? = some ob → ob.under n = true
def Keeps (H H':Heap):Prop:=H.length ≤ H'.length ∧ ∀ n,n ≤ H.length → HUnder n H → HUnder n H'
theorem Keeps.refl (H:Heap):Keeps H H:=⟨Nat.le_refl _,fun _ _ h=>h⟩
theorem Keeps.trans {A B C:Heap} (h:Keeps A B) (k:Keeps B C):Keeps A C :=
  ⟨Nat.le_trans h.1 k.1,fun n hn hu=>k.2 n (Nat.le_trans hn h.1) (h.2 n hn hu)⟩
mutual
theorem noRef_under (n:Nat):∀ x:AV,x.hasRef = false → x.under n = true
  | .u,_=>rfl
  | .bool _,_=>rfl
  | .int _ _,_=>rfl
  | .a _,_=>rfl
  | .nl,_=>rfl
  | .bx _,h=>by cases h
  | .agg l,h=>by simp only [AV.hasRef] at h; simp only [AV.under]; exact noRefs_unders n l h
  | .isl _,_=>rfl
  | .iptr x,h=>by simp only [AV.hasRef] at h; simp only [AV.under]; exact noRef_under n x h
  | .ptr _ _ _,h=>by cases h
  | .sl _ _ _ _ _,h=>by cases h
  | .fn _ l,h=>by simp only [AV.hasRef] at h; simp only [AV.under]; exact noRefs_unders n l h
  | .mp _,h=>by cases h
  | .tup l,h=>by simp only [AV.hasRef] at h; simp only [AV.under]; exact noRefs_unders n l h
theorem noRefs_unders (n:Nat):∀ l:List AV,AV.hasRefs l = false → AV.unders n l = true
  | [],_=>rfl
  | x :: l,h=>by
    simp only [AV.hasRefs,Bool.or_eq_false_iff] at h
    simp only [AV.unders,Bool.and_eq_true]
    exact ⟨noRef_under n x h.1,noRefs_unders n l h.2⟩
end
theorem unders_all {n:Nat}:∀ l:List AV,AV.unders n l = true ↔ ∀ x ∈ l,x.under n = true
  | []=>by simp [AV.unders]
  | x :: l=>by simp [AV.unders,unders_all l]
theorem hasRefs_all:∀ l:List AV,AV.hasRefs l = false ↔ ∀ x ∈ l,x.hasRef = false
  | []=>by simp [AV.hasRefs]
  | x :: l=>by simp [AV.hasRefs,hasRefs_all l]
theorem upd_under {n:Nat}:∀ (p:List (Nat × Nat)) (x y x':AV),upd x p y = some x' → x.under n = true → y.under n = true → x'.under n = true
  | [],x,y,x',h,_,hy=>by
    simp only [upd] at h
    split at h
    · cases h; exact hy
    · cases h
  | (i,off) :: p,x,y,x',h,hx,hy=>by
    cases x with
    | agg l =>
      simp only [upd] at h
      split at h
      · split at h
        · rename_i z hz
          split at h
          · rename_i z' hz'
            cases h
            simp only [AV.under] at hx ⊢
            refine (unders_all _).2 (fun q hq=>?_)
            rcases List.mem_or_eq_of_mem_set hq with hq | rfl
            · exact (unders_all l).1 hx q hq
            · exact upd_under p z y _ hz' ((unders_all l).1 hx z (List.mem_of_getElem? hz)) hy
          · cases h
        · cases h
      · cases h
    | _=>simp [upd] at h
theorem keeps_push {H:Heap} (ob:AObj):Keeps H (H ++ [ob]):=by
  refine ⟨by simp,fun n hn hu o ob' ho h=>?_⟩
  rw [List.getElem?_append_left (by omega)] at h
  exact hu o ob' ho h
theorem keeps_set {H:Heap} {o:Nat} {ob ob':AObj} (ho:H[o]? = some ob) (h:∀ n,ob.under n = true → ob'.under n = true):Keeps H (H.set o ob'):=by
  refine ⟨by simp,fun n hn hu o1 ob1 ho1 h1=>?_⟩
  rw [List.getElem?_set] at h1
  split at h1
  · rename_i e
    subst e
    split at h1
    · cases h1; exact h n (hu _ _ ho1 ho)
    · cases h1
  · exact hu _ _ ho1 h1
theorem keeps_take {H H':Heap} (h:Keeps H H'):Keeps H (H'.take H.length):=by
  refine ⟨by rw [List.length_take]; exact Nat.le_min.2 ⟨Nat.le_refl _,h.1⟩,fun n hn hu o ob ho h1=>?_⟩
  rw [List.getElem?_take] at h1
  split at h1
  · exact h.2 n hn hu o ob ho h1
  · cases h1
def KeepsE (H:Heap) (r:Option (AV × Heap × Bool)):Prop:=∀ x H' b,r = some (x,H',b) → b = false → Keeps H H'
theorem objSet_under {n ob g p y ob'} (h:objSet ob g p y = some ob') (ho:ob.under n = true) (hy:y.under n = true):ob'.under n = true:=by
  cases ob with
  | var x =>
    simp only [objSet] at h
    split at h
    · split at h
      · rename_i x' hx'
        cases h
        exact upd_under p x y x' hx' ho hy
      · cases h
    · cases h
  | arr g' sz l =>
    cases p with
    | nil=>simp [objSet] at h
    | cons q p =>
      obtain ⟨i,off⟩:=q
      simp only [objSet] at h
      split at h
      · split at h
        · rename_i z hz
          split at h
          · rename_i z' hz'
            cases h
            simp only [AObj.under] at ho ⊢
            refine (unders_all _).2 (fun q hq=>?_)
            rcases List.mem_or_eq_of_mem_set hq with hq | rfl
            · exact (unders_all l).1 ho q hq
            · exact upd_under p z y _ hz' ((unders_all l).1 ho z (List.mem_of_getElem? hz)) hy
          · cases h
        · cases h
      · cases h
  | _=>simp [objSet] at h
theorem mset_under {n:Nat} (k:Int) (y:AV) (hy:y.under n = true):∀ kvs,underMap n kvs = true → underMap n (mset k y kvs) = true
  | [],_=>by simp [mset,underMap,hy]
  | (j,x) :: r,h=>by
    simp only [underMap,Bool.and_eq_true] at h
    simp only [mset]
    split
    · simp [underMap,hy,h.2]
    · simp [underMap,h.1,mset_under k y hy r h.2]
theorem mdel_under {n:Nat} (k:Int):∀ kvs,underMap n kvs = true → underMap n (mdel k kvs) = true
  | [],h=>h
  | (j,x) :: r,h=>by
    simp only [underMap,Bool.and_eq_true] at h
    simp only [mdel]
    split
    · exact h.2
    · simp [underMap,h.1,mdel_under k r h.2]
theorem keepsE_none {H}:KeepsE H none:=fun _ _ _ h=>by cases h
theorem keepsE_same {H x b}:KeepsE H (some (x,H,b)):=fun _ _ _ h _=>by cases h; exact Keeps.refl _
theorem keepsE_push {H x ob b}:KeepsE H (some (x,H ++ [ob],b)):=fun _ _ _ h _=>by cases h; exact keeps_push _
def CKeeps (C:CallF):Prop:=∀ g a H,KeepsE H (C g a H)
theorem aop_keeps {C:CallF} (hC:CKeeps C) {L st op x st'} (h:aop C L st op = some (x,st')) (hr:st'.rs = false):st.rs = false ∧ Keeps st.heap st'.heap:=by
  have hret:∀ r,ret st r = some (x,st') → st.rs = false ∧ Keeps st.heap st'.heap:=by
    intro r e
    cases r with
    | none=>cases e
    | some y=>cases e; exact ⟨hr,Keeps.refl _⟩
  have heff:∀ r,KeepsE st.heap r → eff st r = some (x,st') → st.rs = false ∧ Keeps st.heap st'.heap:=by
    intro r hk e
    cases r with
    | none=>cases e
    | some q =>
      obtain ⟨y,H',b⟩:=q
      cases e
      simp only [Bool.or_eq_false_iff] at hr
      exact ⟨hr.1,hk _ H' b rfl hr.2⟩
  cases op with
  | frz y =>
    refine heff _ ?_ h
    cases ev L st.vars y with
    | sl o g sz s len =>
      simp only [doFrz]
      cases he:elems st.heap (.sl o g sz s len) with
      | none=>exact keepsE_none
      | some l =>
        simp only [frzK]
        split
        · exact keepsE_none
        · intro _ _ _ e _
          cases e
          cases ho:st.heap[o]? with
          | none=>simp [elems,ho] at he
          | some ob=>exact keeps_set ho (fun _ _=>rfl)
    | _=>exact keepsE_none
  | box im y =>
    refine heff _ ?_ h
    unfold doBox
    split
    · split
      · exact keepsE_same
      · exact keepsE_push
    · exact keepsE_none
  | alloc z =>
    refine heff _ ?_ h
    split
    · exact keepsE_push
    · exact keepsE_none
  | nils sz=>exact heff _ keepsE_push h
  | bslice mt sz z n parts =>
    refine heff _ ?_ h
    cases (if z.size = sz ∧ z.hasRef = false then setAll (List.replicate n z) (parts.map fun p=>(p.1,ev L st.vars p.2)) else none) with
    | none=>exact keepsE_none
    | some l =>
      simp only [doBslice]
      split
      · exact keepsE_push
      · split
        · exact keepsE_none
        · exact keepsE_same
  | store sz ad y =>
    refine heff _ ?_ h
    cases ev L st.vars ad with
    | ptr o g p =>
      simp only [doStore]
      split
      · cases ho:st.heap[o]? with
        | none=>simp only [setIn,put]; exact keepsE_none
        | some ob =>
          simp only [setIn]
          cases hs:objSet ob g p (ev L st.vars y) with
          | none=>exact keepsE_none
          | some ob' =>
            intro _ _ _ e hb
            cases e
            exact keeps_set ho (fun n hu=>objSet_under hs hu (noRef_under n _ hb))
      · exact keepsE_none
    | _=>exact keepsE_none
  | mkmap=>exact heff _ keepsE_push h
  | mkslice sz bytes z n c =>
    refine heff _ ?_ h
    unfold doMkslice
    split
    · split
      · exact keepsE_push
      · exact keepsE_none
    · exact keepsE_none
  | slice0 sz y =>
    refine heff _ ?_ h
    unfold doSlice0
    split
    · exact keepsE_push
    · exact keepsE_push
    · exact keepsE_push
    · exact keepsE_none
  | mupd m k y =>
    refine heff _ ?_ h
    unfold doMupd
    split
    · rename_i o n _ _
      split
      · cases ho:st.heap[o]? with
        | none=>exact keepsE_none
        | some ob =>
          cases ob with
          | map kvs =>
            intro _ _ _ e hb
            cases e
            exact keeps_set ho (fun n' hu=>mset_under _ _ (noRef_under n' _ hb) _ hu)
          | _=>exact keepsE_none
      · exact keepsE_none
    · exact keepsE_none
  | mdel m k =>
    refine heff _ ?_ h
    unfold doMdel
    split
    · rename_i o n _ _
      cases ho:st.heap[o]? with
      | none=>exact keepsE_none
      | some ob =>
        cases ob with
        | map kvs =>
          intro _ _ _ e _
          cases e
          exact keeps_set ho (fun n' hu=>mdel_under _ _ hu)
        | _=>exact keepsE_none
    · exact keepsE_none
  | append sz bytes a b =>
    refine heff _ ?_ h
    unfold doAppend
    split
    · rename_i o g sz' s len _
      cases ho:st.heap[o]? with
      | none=>exact keepsE_none
      | some ob =>
        cases ob with
        | arr g' sz'' l =>
          cases elems st.heap (ev L st.vars b) with
          | none=>exact keepsE_none
          | some l2 =>
            intro _ _ _ e hb
            replace e:=appTo_in e
            simp only [appIn] at e
            split at e
            · cases e
              refine keeps_set ho (fun n hu=>?_)
              simp only [AObj.under] at hu ⊢
              refine (unders_all _).2 (fun q hq=>?_)
              rcases List.mem_append.1 hq with hq | hq
              · exact (unders_all l).1 hu q (List.mem_of_mem_drop (List.mem_of_mem_take hq))
              · exact noRef_under n q ((hasRefs_all l2).1 hb q hq)
            · cases e
        | _=>exact keepsE_none
    · cases elems st.heap (ev L st.vars b) with
      | none=>exact keepsE_none
      | some l2 =>
        simp only [appNil]
        split
        · exact keepsE_push
        · exact keepsE_none
    · exact keepsE_none
  | copy sz a b =>
    refine heff _ ?_ h
    unfold doCopy
    split
    · rename_i o g sz' s len _
      cases ho:st.heap[o]? with
      | none=>exact keepsE_none
      | some ob =>
        cases ob with
        | arr g' sz'' l =>
          cases elems st.heap (ev L st.vars b) with
          | none=>exact keepsE_none
          | some l2 =>
            simp only [copyTo]
            split
            · intro _ _ _ e hb
              cases e
              refine keeps_set ho (fun n hu=>?_)
              simp only [AObj.under] at hu ⊢
              refine (unders_all _).2 (fun q hq=>?_)
              rcases List.mem_append.1 hq with hq | hq
              · rcases List.mem_append.1 hq with hq | hq
                · exact (unders_all l).1 hu q (List.mem_of_mem_take hq)
                · exact noRef_under n q ((hasRefs_all l2).1 hb q (List.mem_of_mem_take hq))
              · exact (unders_all l).1 hu q (List.mem_of_mem_drop hq)
            · exact keepsE_none
        | _=>exact keepsE_none
    · exact keepsE_none
  | call g args=>exact heff _ (hC _ _ _) h
  | callv f args =>
    refine heff _ ?_ h
    unfold doCallv
    split
    · exact hC _ _ _
    · exact keepsE_none
  | callp gs f args =>
    refine heff _ ?_ h
    unfold doCallp
    split
    · split
      · exact hC _ _ _
      · exact keepsE_none
    · exact keepsE_none
  | move _=>simp only [aop] at h; exact hret _ h
  | pick _ _ _=>simp only [aop] at h; exact hret _ h
  | build _ _=>simp only [aop] at h; exact hret _ h
  | load _ _ _=>simp only [aop] at h; exact hret _ h
  | nilCheck _=>simp only [aop] at h; exact hret _ h
  | bin _ _ _=>simp only [aop] at h; exact hret _ h
  | binb _ _ _=>simp only [aop] at h; exact hret _ h
  | un _ _=>simp only [aop] at h; exact hret _ h
  | conv _ _=>simp only [aop] at h; exact hret _ h
  | mkfn _ _=>simp only [aop] at h; exact hret _ h
  | slice _ _ _ _ _=>simp only [aop] at h; exact hret _ h
  | fieldAddr _ _ _=>simp only [aop] at h; exact hret _ h
  | field _ _ _ _ _=>simp only [aop] at h; exact hret _ h
  | indexAddr _ _ _=>simp only [aop] at h; exact hret _ h
  | indexArr _ _ _ _=>simp only [aop] at h; exact hret _ h
  | indexStr _ _=>simp only [aop] at h; exact hret _ h
  | lookup _ _ _ _=>simp only [aop] at h; exact hret _ h
  | len _ _=>simp only [aop] at h; exact hret _ h
  | max _ _=>simp only [aop] at h; exact hret _ h
  | min _ _=>simp only [aop] at h; exact hret _ h
  | extract _ _=>simp only [aop] at h; exact hret _ h
  | cn _=>simp only [aop] at h; exact hret _ h
  | cb _=>simp only [aop] at h; exact hret _ h
  | cs _ _ _=>simp only [aop] at h; exact hret _ h
  | cl _ _ _=>simp only [aop] at h; exact hret _ h
  | ca _=>simp only [aop] at h; exact hret _ h
theorem setVar_heap (st:St) (d:Option Nat) (x:AV):(setVar st d x).heap = st.heap ∧ (setVar st d x).rs = st.rs:=by cases d <;> exact ⟨rfl,rfl⟩
theorem evalOps_keeps {C:CallF} (hC:CKeeps C):∀ (ops:List AOper) (L:List AV) (st st':St),evalOps C ops L st = some st' → st'.rs = false → st.rs = false ∧ Keeps st.heap st'.heap:=by
  intro ops
  induction ops with
  | nil=>intro L st st' e hr; cases e; exact ⟨hr,Keeps.refl _⟩
  | cons o ops ih =>
    intro L st st' e hr
    simp only [evalOps] at e
    cases hw:wants L o.guard with
    | none=>rw [hw] at e; cases e
    | some b =>
      rw [hw] at e
      cases b with
      | false =>
        obtain ⟨h1,h2⟩:=ih _ _ _ e hr
        rw [(setVar_heap _ _ _).1] at h2
        rw [(setVar_heap _ _ _).2] at h1
        exact ⟨h1,h2⟩
      | true =>
        cases ha:aop C L st o.op with
        | none=>simp only [evalG,ha,evalK] at e; cases e
        | some q =>
          obtain ⟨x,s1⟩:=q
          simp only [evalG,ha,evalK] at e
          obtain ⟨h1,h2⟩:=ih _ _ _ e hr
          rw [(setVar_heap _ _ _).1] at h2
          rw [(setVar_heap _ _ _).2] at h1
          obtain ⟨h3,h4⟩:=aop_keeps hC ha h1
          exact ⟨h3,h4.trans h2⟩
def RKeeps (R:AIR → St → Option (Ex × St)):Prop:=∀ c st e st',R c st = some (e,st') → st'.rs = false → st.rs = false ∧ Keeps st.heap st'.heap
theorem stepRun_keeps {C R} (hC:CKeeps C) (hR:RKeeps R):RKeeps (stepRun C R):=by
  intro c st e st' h hr
  cases c with
  | skip=>cases h; exact ⟨hr,Keeps.refl _⟩
  | region ops d =>
    simp only [stepRun] at h
    obtain ⟨s,hs,e2⟩:=regionK_inv h
    cases e2
    exact evalOps_keeps hC _ _ _ _ hs hr
  | seq x y =>
    simp only [stepRun] at h
    cases hx:R x st with
    | none=>rw [hx] at h; cases h
    | some q =>
      obtain ⟨a,b⟩:=q
      rw [hx] at h
      cases a with
      | normal =>
        obtain ⟨h1,h2⟩:=hR _ _ _ _ h hr
        obtain ⟨h3,h4⟩:=hR _ _ _ _ hx h1
        exact ⟨h3,h4.trans h2⟩
      | exit j=>cases h; exact hR _ _ _ _ hx hr
      | ret=>cases h; exact hR _ _ _ _ hx hr
  | cond c x y =>
    simp only [stepRun] at h
    cases hc:ev [] st.vars c with
    | bool b=>rw [hc] at h; cases b <;> exact hR _ _ _ _ h hr
    | _=>rw [hc] at h; cases h
  | block id x =>
    simp only [stepRun] at h
    cases hx:R x st with
    | none=>rw [hx] at h; cases h
    | some q =>
      obtain ⟨a,b⟩:=q
      rw [hx] at h
      cases a with
      | normal=>cases h; exact hR _ _ _ _ hx hr
      | ret=>cases h; exact hR _ _ _ _ hx hr
      | exit j =>
        simp only [blockK] at h
        split at h <;> (cases h; exact hR _ _ _ _ hx hr)
  | loop gc keep x =>
    simp only [stepRun] at h
    cases hx:R x { vars:=st.vars,heap:=st.heap,rs:=false } with
    | none=>rw [hx] at h; cases h
    | some q =>
      obtain ⟨a,b⟩:=q
      rw [hx] at h
      cases a with
      | normal =>
        simp only [loopK] at h
        cases hc:clean st.heap.length gc keep b with
        | none=>rw [hc] at h; cases h
        | some s =>
          rw [hc] at h
          simp only [loopC] at h
          obtain ⟨h1,h2⟩:=hR _ _ _ _ h hr
          simp only [orRs,Bool.or_eq_false_iff] at h1 h2
          unfold clean at hc
          split at hc
          · cases hc
          · cases hc
            obtain ⟨h3,h4⟩:=hR _ _ _ _ hx h1.2
            refine ⟨h1.1,?_⟩
            cases gc with
            | false=>exact h4.trans h2
            | true=>exact (keeps_take h4).trans h2
      | exit j =>
        cases h
        simp only [orRs,Bool.or_eq_false_iff] at hr
        obtain ⟨h3,h4⟩:=hR _ _ _ _ hx hr.2
        exact ⟨hr.1,h4⟩
      | ret =>
        cases h
        simp only [orRs,Bool.or_eq_false_iff] at hr
        obtain ⟨h3,h4⟩:=hR _ _ _ _ hx hr.2
        exact ⟨hr.1,h4⟩
  | exit id=>cases h; exact ⟨hr,Keeps.refl _⟩
  | scope x=>exact hR _ _ _ _ h hr
  | label l=>cases h; exact ⟨hr,Keeps.refl _⟩
  | ret=>cases h; exact ⟨hr,Keeps.refl _⟩
theorem withHeap_inv {H b o r} (h:withHeap H b o = some r):∃ x,o = some x ∧ r = (x,H,b):=by
  cases o with
  | none=>cases h
  | some x=>cases h; exact ⟨x,rfl,rfl⟩
theorem consume_keeps:∀ (a:List AV) (H:Heap) (l:List AV) (H':Heap),consume H a = some (l,H') → Keeps H H'
  | [],H,l,H',h=>by simp only [consume] at h; cases h; exact Keeps.refl _
  | x :: r,H,l,H',h=>by
    have key:∀ y H0,consume1 y (consume H0 r) = some (l,H') → Keeps H0 H':=by
      intro y H0 h
      cases hc:consume H0 r with
      | none=>rw [hc] at h; cases h
      | some q=>obtain ⟨l',H2⟩:=q; rw [hc] at h; cases h; exact consume_keeps r H0 l' _ hc
    cases x with
    | sl o g sz s len =>
      simp only [consume] at h
      split at h
      · split at h
        · cases h
        · rename_i l0 hl _
          refine Keeps.trans ?_ (key _ _ h)
          cases ho:H[o]? with
          | none=>simp [elems,ho] at hl
          | some ob=>exact keeps_set ho (fun _ _=>rfl)
      · cases h
    | _=>exact key _ _ h
theorem ended_inv {r:Option (Ex × St)} {st} (h:ended r = some st):∃ e,r = some (e,st):=by
  cases r with
  | none=>cases h
  | some q =>
    obtain ⟨e,s⟩:=q
    cases e with
    | normal=>cases h; exact ⟨_,rfl⟩
    | ret=>cases h; exact ⟨_,rfl⟩
    | exit j=>cases h
theorem stepCall_keeps {E GP R} (hE:CKeeps E) (hR:RKeeps R):CKeeps (stepCall E GP R):=by
  intro g a H x H' b h hb
  unfold stepCall at h
  cases hg:E g a H with
  | some q=>rw [hg] at h; simp only [callE] at h; exact hE g a H x H' b (hg.trans h) hb
  | none =>
    rw [hg] at h
    simp only [callE] at h
    cases hf:GP g with
    | none=>rw [hf] at h; cases h
    | some f =>
      rw [hf] at h
      simp only [callG] at h
      split at h
      case isFalse=>cases h
      cases hm:f.mode with
      | iso =>
        rw [hm] at h
        obtain ⟨y,_,e⟩:=withHeap_inv h
        cases e; exact Keeps.refl _
      | con =>
        rw [hm] at h
        simp only [callFun] at h
        cases hc:consume H a with
        | none=>rw [hc] at h; cases h
        | some q =>
          obtain ⟨l,H2⟩:=q
          rw [hc] at h
          obtain ⟨y,_,e⟩:=withHeap_inv h
          cases e
          exact consume_keeps _ _ _ _ hc
      | shr =>
        rw [hm] at h
        simp only [callFun] at h
        cases hs:ended (R f.body (start f a H)) with
        | none=>rw [hs] at h; cases h
        | some st =>
          rw [hs] at h
          simp only [shrEnd] at h
          split at h
          · cases h
          · rename_i hrs
            obtain ⟨y,_,e⟩:=withHeap_inv h
            cases e
            obtain ⟨e,he⟩:=ended_inv hs
            exact keeps_take (hR _ _ _ _ he (by simpa using hrs)).2
      | keep =>
        rw [hm] at h
        simp only [callFun] at h
        cases hs:ended (R f.body (start f a H)) with
        | none=>rw [hs] at h; cases h
        | some st =>
          rw [hs] at h
          simp only [keepEnd] at h
          obtain ⟨y,_,e⟩:=withHeap_inv h
          cases e
          obtain ⟨e,he⟩:=ended_inv hs
          exact (hR _ _ _ _ he hb).2
theorem runN_keeps {E GP} (hE:CKeeps E) (n:Nat):RKeeps (runN E GP n) ∧ CKeeps (callN E GP n):=by
  induction n with
  | zero =>
    constructor
    · intro c st e st' h; rw [runN] at h; cases h
    · intro g a H x H' b h; rw [callN] at h; cases h
  | succ n ih =>
    constructor
    · intro c st e st' h; rw [runN] at h; exact stepRun_keeps ih.2 ih.1 _ _ _ _ h
    · intro g a H x H' b h; rw [callN] at h; exact stepCall_keeps hE ih.1 _ _ _ _ _ _ h
end Tor
namespace Tor
open Go Go.RowKit
variable {base:Nat} {C:Cx} {H:Heap}
structure LeU (n:Nat) (C C':Cx):Prop where
  ι:C'.ι = C.ι
  F:∀ b,C.F b → C'.F b
  β:∀ o g q,o < n → C.β o g = some q → C'.β o g = some q
  mem:∀ b,C.F b → C'.w.heap[b]? = C.w.heap[b]?
  shp:∀ b s,C.w.shape? b = some s → C'.w.shape? b = some s
theorem LeU.noβ {n} {C C':Cx} (h:LeU n C C'):Le { C with β:=fun _ _=>none } C' :=
  ⟨h.ι,h.F,fun _ _ _ hh=>(by cases hh),h.mem,h.shp⟩
theorem cellsAt_leU {n} {C C':Cx} (h:LeU n C C') {b off cs} (hb:C.F b) (hc:cellsAt C.w b off cs):cellsAt C'.w b off cs :=
  cellsAt_le (C:={ C with β:=fun _ _=>none }) h.noβ hb hc
theorem SlV_leU {n} {C C':Cx} (h:LeU n C C') {k R R' v} (hR:∀ css,R css → R' css) (hv:SlV C k R v):SlV C' k R' v :=
  SlV_le (C:={ C with β:=fun _ _=>none }) h.noβ hR hv
theorem Room_leU {n} {C C':Cx} (h:LeU n C C') {b base sz cap} (hr:Room C.w b base sz cap):Room C'.w b base sz cap :=
  Room_le (C:={ C with β:=fun _ _=>none }) h.noβ hr
mutual
theorem Rc_leU {n:Nat} {C C':Cx} (h:LeU n C C'):∀ (x:AV) (cs:List Value),x.under n = true → Rc C x cs → Rc C' x cs
  | .u,_,_,hr=>hr
  | .bool _,_,_,hr=>hr
  | .int _ _,_,_,hr=>hr
  | .a _,_,_,hr=>hr
  | .nl,_,_,hr=>hr
  | .bx o,_,hu,hr=>by
    simp only [AV.under,decide_eq_true_eq] at hu
    simp only [Rc] at hr ⊢
    obtain ⟨b,bm,e1,e2,hF,hm⟩:=hr
    exact ⟨b,bm,h.β _ _ _ hu e1,e2,h.F b hF,cellsAt_leU h hF hm⟩
  | .agg l,_,hu,hr=>by
    simp only [AV.under] at hu
    simp only [Rc] at hr ⊢
    obtain ⟨css,hl,e⟩:=hr
    exact ⟨css,Rcl_leU h l css hu hl,e⟩
  | .isl l,_,_,hr=>by
    simp only [Rc] at hr ⊢
    obtain ⟨h0,v,e,hv⟩:=hr
    exact ⟨h0,v,e,SlV_leU h (fun css=>Rcl_leU h l css (noRefs_unders n l h0)) hv⟩
  | .iptr x,_,hu,hr=>by
    simp only [AV.under] at hu
    simp only [Rc] at hr ⊢
    obtain ⟨b,off,xs,e,hF,hx,hm⟩:=hr
    exact ⟨b,off,xs,e,h.F b hF,Rc_leU h x xs hu hx,cellsAt_leU h hF hm⟩
  | .ptr o g p,_,hu,hr=>by
    simp only [AV.under,decide_eq_true_eq] at hu
    simp only [Rc] at hr ⊢
    obtain ⟨b,bs,hb,e⟩:=hr
    exact ⟨b,bs,h.β _ _ _ hu hb,e⟩
  | .sl o g sz st len,_,hu,hr=>by
    simp only [AV.under,decide_eq_true_eq] at hu
    simp only [Rc] at hr ⊢
    rcases hr with ⟨b,bs,cap,hb,e,hl,hm⟩ | ⟨q,hb,hl,a,e⟩
    · exact .inl ⟨b,bs,cap,h.β _ _ _ hu hb,e,hl,Room_leU h hm⟩
    · exact .inr ⟨q,h.β _ _ _ hu hb,hl,a,e⟩
  | .fn f l,_,hu,hr=>by
    simp only [AV.under] at hu
    simp only [Rc] at hr ⊢
    obtain ⟨ha,vs,e,hl⟩:=hr
    exact ⟨ha,vs,by rw [h.ι]; exact e,Rcl_leU h l _ hu hl⟩
  | .mp o,_,hu,hr=>by
    simp only [AV.under,decide_eq_true_eq] at hu
    simp only [Rc] at hr ⊢
    obtain ⟨b,hb,e⟩:=hr
    exact ⟨b,h.β _ _ _ hu hb,e⟩
  | .tup _,_,_,hr=>hr
theorem Rcl_leU {n:Nat} {C C':Cx} (h:LeU n C C'):∀ (l:List AV) (css:List (List Value)),AV.unders n l = true → Rcl C l css → Rcl C' l css
  | [],_,_,hr=>hr
  | x :: l,_,hu,hr=>by
    simp only [AV.unders,Bool.and_eq_true] at hu
    simp only [Rcl] at hr ⊢
    obtain ⟨c,r,e,hx,hl⟩:=hr
    exact ⟨c,r,e,Rc_leU h x c hu.1 hx,Rcl_leU h l r hu.2 hl⟩
end
theorem Rvl_leU {n:Nat} {C C':Cx} (h:LeU n C C') {l vs} (hu:AV.unders n l = true) (hr:Rvl C l vs):Rvl C' l vs:=by
  induction hr with
  | nil=>exact .nil
  | cons a _ ih =>
    simp only [AV.unders,Bool.and_eq_true] at hu
    exact .cons (a.imp id fun a=>⟨Rc_leU h _ _ hu.1 a.1,a.2⟩) (ih hu.2)
theorem Rv_leU {n:Nat} {C C':Cx} (h:LeU n C C') {x v} (hu:x.under n = true) (hr:Rv C x v):Rv C' x v:=by
  rcases hr with a | ⟨l,vs,e1,e2,a⟩
  · exact .inl (a.imp id fun a=>⟨Rc_leU h _ _ hu a.1,a.2⟩)
  · subst e1
    simp only [AV.under] at hu
    exact .inr ⟨l,vs,rfl,e2,Rvl_leU h hu a⟩
mutual
theorem Rc_under {n:Nat} {C:Cx} (hd:∀ o,n ≤ o → ∀ g,C.β o g = none):∀ (x:AV) (cs:List Value),Rc C x cs → x.under n = true
  | .u,_,_=>rfl
  | .bool _,_,_=>rfl
  | .int _ _,_,_=>rfl
  | .a _,_,_=>rfl
  | .nl,_,_=>rfl
  | .bx o,_,hr=>by
    simp only [Rc] at hr
    obtain ⟨b,bm,hb,_⟩:=hr
    simp only [AV.under,decide_eq_true_eq]
    by_cases ho:o < n
    · exact ho
    · rw [hd o (by omega) 0] at hb; cases hb
  | .isl _,_,_=>rfl
  | .tup l,_,hr=>by simp [Rc] at hr
  | .agg l,_,hr=>by
    simp only [Rc] at hr
    obtain ⟨css,hl,_⟩:=hr
    simp only [AV.under]; exact Rcl_under hd l css hl
  | .iptr x,_,hr=>by
    simp only [Rc] at hr
    obtain ⟨b,off,xs,e,hF,hx,hm⟩:=hr
    simp only [AV.under]; exact Rc_under hd x xs hx
  | .ptr o g p,_,hr=>by
    simp only [Rc] at hr
    obtain ⟨b,bs,hb,e⟩:=hr
    simp only [AV.under,decide_eq_true_eq]
    by_cases ho:o < n
    · exact ho
    · rw [hd o (by omega) g] at hb; cases hb
  | .sl o g sz st len,_,hr=>by
    simp only [Rc] at hr
    simp only [AV.under,decide_eq_true_eq]
    by_cases ho:o < n
    · exact ho
    · rcases hr with ⟨b,bs,cap,hb,_⟩ | ⟨q,hb,_⟩ <;> (rw [hd o (by omega) g] at hb; cases hb)
  | .fn f l,_,hr=>by
    simp only [Rc] at hr
    obtain ⟨_,vs,e,hl⟩:=hr
    simp only [AV.under]; exact Rcl_under hd l _ hl
  | .mp o,_,hr=>by
    simp only [Rc] at hr
    obtain ⟨b,hb,e⟩:=hr
    simp only [AV.under,decide_eq_true_eq]
    by_cases ho:o < n
    · exact ho
    · rw [hd o (by omega) 0] at hb; cases hb
theorem Rcl_under {n:Nat} {C:Cx} (hd:∀ o,n ≤ o → ∀ g,C.β o g = none):∀ (l:List AV) (css:List (List Value)),Rcl C l css → AV.unders n l = true
  | [],_,_=>rfl
  | x :: l,_,hr=>by
    simp only [Rcl] at hr
    obtain ⟨c,r,e,hx,hl⟩:=hr
    simp only [AV.unders,Bool.and_eq_true]
    exact ⟨Rc_under hd x c hx,Rcl_under hd l r hl⟩
end
theorem MapR_under {n:Nat} (hd:∀ o,n ≤ o → ∀ g,C.β o g = none) {kvs es} (h:MapR C kvs es):underMap n kvs = true:=by
  induction h with
  | nil=>rfl
  | cons a b c _ ih =>
    simp only [underMap,Bool.and_eq_true]
    refine ⟨?_,ih⟩
    rcases b with rfl | ⟨b,_⟩
    · cases c
    · exact Rc_under hd _ _ b
theorem HUnder_sim (hs:Sim base C H):HUnder H.length H:=by
  intro o ob _ ho
  have hd:=hs.dom
  have hok:=(hs.obj o ob ho).1
  cases ob with
  | var x=>obtain ⟨b,c,e,_,_,h3,_⟩:=hok; exact Rc_under hd _ _ h3
  | arr g sz l =>
    rcases hok with ⟨_,h2⟩ | ⟨b,bs,c,e,pre,css,post,h1,h2,h3,h4,h5,_⟩
    · subst h2; rfl
    · exact Rcl_under hd _ _ h5
  | map kvs=>obtain ⟨b,es,cl,_,_,h3,_⟩:=hok; exact MapR_under hd h3.1
  | dead=>rfl
def Cx.fzn (C:Cx) (n:Nat) (H:Heap):Cx :=
  { C with β:=fun o g=>if o < n then C.β o g else none,F:=fun b=>C.F b ∨ ∃ o ob,n ≤ o ∧ H[o]? = some ob ∧ blk C o ob = some b }
theorem leU_fzn (C:Cx) (n:Nat) (H:Heap):LeU n C (C.fzn n H) :=
  ⟨rfl,fun _ h=>.inl h,fun o g q ho h=>by simp [Cx.fzn,ho,h],fun _ _=>rfl,fun _ _ h=>h⟩
theorem leU_cut (C:Cx) (n:Nat):LeU n C (C.cut n) :=
  ⟨rfl,fun _ h=>h,fun o g q ho h=>by simp [Cx.cut,ho,h],fun _ _=>rfl,fun _ _ h=>h⟩
theorem ObjOk_leU {n o ob} {C C':Cx} (h:LeU n C C') (hw:C'.w = C.w) (ho:o < n) (hu:ob.under n = true) (hk:ObjOk base C o ob) (hF:∀ b,blk C o ob = some b → ¬ C'.F b):ObjOk base C' o ob:=by
  cases ob with
  | var x =>
    obtain ⟨b,c,e,h1,h2,h3,h4,h5⟩:=hk
    exact ⟨b,c,e,h.β _ _ _ ho h1,by rw [hw]; exact h2,Rc_leU h _ _ hu h3,h4,hF b (by simp [blk,h1,bOf])⟩
  | arr g sz l =>
    rcases hk with ⟨h1,h2⟩ | ⟨b,bs,c,e,pre,css,post,h1,h2,h3,h4,h5,h6,h7,h8⟩
    · exact .inl ⟨h.β _ _ _ ho h1,h2⟩
    · exact .inr ⟨b,bs,c,e,pre,css,post,h.β _ _ _ ho h1,by rw [hw]; exact h2,h3,h4,Rcl_leU h _ _ hu h5,h6,h7,hF b (by simp [blk,h1,bOf])⟩
  | map kvs =>
    obtain ⟨b,es,cl,h1,h2,h3,h4,h5⟩:=hk
    refine ⟨b,es,cl,h.β _ _ _ ho h1,by rw [hw]; exact h2,⟨?_,h3.2⟩,h4,hF b (by simp [blk,h1,bOf])⟩
    replace h3:=h3.1
    clear h1 h2 hF
    have hu':underMap n kvs = true:=hu
    clear hu
    revert hu'
    generalize es.toList = el at h3 ⊢
    induction h3 with
    | nil=>intro _; exact .nil
    | cons a b c _ ih =>
      intro hu
      simp only [underMap,Bool.and_eq_true] at hu
      exact .cons a (b.imp id fun b=>⟨Rc_leU h _ _ hu.1 b.1,b.2⟩) c (ih hu.2)
  | dead=>trivial
theorem take_get {H:Heap} {n o:Nat} {ob} (h:(H.take n)[o]? = some ob):o < n ∧ H[o]? = some ob:=by
  rw [List.getElem?_take] at h
  split at h
  · rename_i hlt; exact ⟨hlt,h⟩
  · cases h
theorem Sim.drop {C':Cx} (hs:Sim base C H) {n:Nat} (h:LeU n C C') (hw:C'.w = C.w) (hβ:∀ o g,C'.β o g = if o < n then C.β o g else none) (hu:HUnder n H)
    (hF:∀ b,C'.F b → C.F b ∨ ∃ o ob,n ≤ o ∧ H[o]? = some ob ∧ blk C o ob = some b):Sim base C' (H.take n):=by
  have e:∀ o ob,o < n → blk C' o ob = blk C o ob:=by
    intro o ob hlt; cases ob <;> simp [blk,hβ,hlt]
  refine ⟨fun b hb=>?_,fun o ho g=>?_,fun o ob ho=>?_,fun o o' ob ob' b ho ho' hb hb'=>?_,by rw [hw]; exact hs.bsz⟩
  · rw [hw]
    rcases hF b hb with hb | ⟨o,ob,_,h1,h2⟩
    · exact hs.fsz b hb
    · exact (blk_heap (hs.obj o ob h1).1 h2).2.2
  · rw [List.length_take] at ho
    rw [hβ]
    split
    · exact hs.dom o (by omega) g
    · rfl
  · obtain ⟨hlt,ho⟩:=take_get ho
    obtain ⟨h1,h2⟩:=hs.obj o ob ho
    refine ⟨ObjOk_leU h hw hlt (hu o ob hlt ho) h1 (fun b hb hFb=>?_),?_⟩
    · rcases hF b hFb with hb' | ⟨o',ob',x1,x2,x3⟩
      · exact (blk_heap h1 hb).2.1 hb'
      · have:=hs.sep o o' ob ob' b ho x2 hb x3
        omega
    · cases ob with
      | arr g sz l=>intro g' hg'; rw [hβ,if_pos hlt]; exact h2 g' hg'
      | _=>trivial
  · obtain ⟨hlt,ho⟩:=take_get ho
    obtain ⟨hlt',ho'⟩:=take_get ho'
    rw [e o ob hlt] at hb
    rw [e o' ob' hlt'] at hb'
    exact hs.sep o o' ob ob' b ho ho' hb hb'
theorem sl_cells (hs:Sim base C H) {o g sz st len v l2} (hr:Rv C (.sl o g sz st len) v) (h:elems H (.sl o g sz st len) = some l2) :
    ∃ a cap ob,v = .slice a l2.length cap ∧ H[o]? = some ob ∧ (l2 = [] ∨ ∃ b off css,a = some ⟨b,off,none⟩ ∧ blk C o ob = some b ∧ l2.length ≤ cap ∧ Rcl C l2 css ∧ (∀ c ∈ css,c.length = sz) ∧ cellsAt C.w b off css.flatten):=by
  simp only [elems] at h
  split at h
  · rename_i g' sz' l ho
    split at h
    · rename_i hh
      obtain ⟨rfl,rfl,hle⟩:=hh
      cases h
      have hlen:((l.drop st).take len).length = len:=by simp; omega
      rw [hlen]
      obtain ⟨hok,_⟩:=hs.obj o _ ho
      rcases Rv_sl hr with ⟨b,bs,cap,hβ,rfl,hcap,_⟩ | ⟨q,hβ,hl,a,rfl⟩
      · refine ⟨_,cap,_,rfl,ho,?_⟩
        rcases hok with ⟨hn,_⟩ | ⟨b',bs',c,e,pre,css,post,h1,h2,h3,h4,h5,h6,_⟩
        · rw [hn] at hβ; cases hβ
        · rw [h1] at hβ; cases hβ
          refine .inr ⟨b,_,(css.drop st).take len,rfl,by simp [blk,h1,bOf],hcap,Rcl_take _ _ _ (Rcl_drop _ _ _ h5),fun c hc=>h6 c (List.mem_of_mem_drop (List.mem_of_mem_take hc)),?_⟩
          have hcl:=Rcl_count _ _ h5
          have hc:c.toList = (pre ++ (css.take st).flatten) ++ ((css.drop st).take len).flatten ++ (((css.drop st).drop len).flatten ++ post):=by
            rw [h3]
            have:css.flatten = (css.take st).flatten ++ (((css.drop st).take len).flatten ++ ((css.drop st).drop len).flatten):=by
              rw [← List.flatten_append,List.take_append_drop,← List.flatten_append,List.take_append_drop]
            rw [this]; simp [List.append_assoc]
          have:=cellsAt_of h2 hc
          rw [List.length_append,h4,take_uniform css h6 st (by omega)] at this
          exact this
      · subst hl
        exact ⟨a,0,_,rfl,ho,.inl (by simp)⟩
    · cases h
  · cases h
theorem Rc_one_Rv {x:AV} {cs} (h:Rc C x cs) (hx:x.isA = false) (hs:x.size = 1):∃ v,cs = [v] ∧ Rv C x v:=by
  have hl:=Rc_len _ _ h
  rw [hs] at hl
  match cs,hl with
  | [v],_ =>
    refine ⟨v,rfl,Rv_one h hx ?_⟩
    have:=Rc_one _ _ h v (.head _)
    cases v <;> first | rfl | simp [Value.oneCell'] at this
theorem solids_mem:∀ {l:List AV},AV.solids l = true → ∀ x ∈ l,x.solid = true
  | [],_,_,h=>by cases h
  | y :: l,hl,x,hx=>by
    simp only [AV.solids,Bool.and_eq_true] at hl
    cases hx with
    | head=>exact hl.1
    | tail _ hx=>exact solids_mem hl.2 x hx
theorem fz_isA (n H d x) (hk:(fz n H d x).solid = true):(fz n H d x).isA = x.isA:=by
  cases d with
  | zero=>simp [fz,AV.solid] at hk
  | succ d =>
    cases x <;> simp only [fz] at hk ⊢ <;> first | rfl | skip
    all_goals (repeat' split) <;> first | rfl | simp_all [AV.isA,AV.solid]
theorem fz_ok (hs:Sim base C H) (n:Nat):∀ (d:Nat) (x:AV) (cs:List Value),Rc C x cs → (fz n H d x).solid = true → (fz n H d x).under n = true → Rc (C.fzn n H) (fz n H d x) cs
  | 0,x,cs,_,hk,_=>by simp [fz,AV.solid] at hk
  | d + 1,x,cs,hr,hk,hu=>by
    have hl:∀ (l:List AV) (css:List (List Value)),Rcl C l css → AV.solids (l.map (fz n H d)) = true → AV.unders n (l.map (fz n H d)) = true → Rcl (C.fzn n H) (l.map (fz n H d)) css:=by
      intro l
      induction l with
      | nil=>intro css h _ _; exact h
      | cons y l ih =>
        intro css h h1 h2
        simp only [Rcl] at h
        obtain ⟨c,r,rfl,hy,hl⟩:=h
        simp only [List.map_cons,AV.solids,AV.unders,Bool.and_eq_true] at h1 h2
        simp only [List.map_cons,Rcl]
        exact ⟨c,r,rfl,fz_ok hs n d y c hy h1.1 h2.1,ih r hl h1.2 h2.2⟩
    cases x with
    | sl o g sz st len =>
      simp only [fz] at hk hu ⊢
      split at hk
      · rename_i ho
        rw [if_pos ho] at hu ⊢
        exact Rc_leU (leU_fzn C n H) _ _ hu hr
      · rename_i ho
        rw [if_neg ho] at hu ⊢
        cases hel:elems H (.sl o g sz st len) with
        | none=>rw [hel] at hk; simp [AV.solid] at hk
        | some l =>
          rw [hel] at hk hu
          simp only [AV.solid,Bool.and_eq_true,Bool.not_eq_true'] at hk
          obtain ⟨v,rfl,hv⟩:=Rc_one_Rv hr rfl rfl
          obtain ⟨a,cap,ob,rfl,hob,hc⟩:=sl_cells hs hv hel
          simp only [Rc]
          refine ⟨hk.1,_,rfl,a,cap,by rw [List.length_map],?_⟩
          rcases hc with rfl | ⟨b,off,css,rfl,hb,hcap,hrl,hun,hcells⟩
          · exact .inl rfl
          · exact .inr ⟨b,off,css,sz,rfl,.inr ⟨o,ob,by omega,hob,hb⟩,by rw [List.length_map]; exact hcap,hl l css hrl hk.2 (noRefs_unders n _ hk.1),hun,hcells⟩
    | ptr o g p =>
      simp only [fz] at hk hu ⊢
      split at hk
      · rename_i ho
        rw [if_pos ho] at hu ⊢
        exact Rc_leU (leU_fzn C n H) _ _ hu hr
      · rename_i ho
        rw [if_neg ho] at hu ⊢
        cases hob:H[o]? with
        | none=>rw [hob] at hk; simp [AV.solid] at hk
        | some ob =>
          rw [hob] at hk hu
          simp only at hk hu ⊢
          cases hg:objGet ob g p with
          | none=>rw [hg] at hk; simp [AV.solid] at hk
          | some y =>
            rw [hg] at hk hu
            simp only [AV.solid,AV.under] at hk hu ⊢
            obtain ⟨b,bs,ys,h1,h2,h3⟩:=objGet_ok hs hob hg
            simp only [Rc] at hr ⊢
            obtain ⟨b',bs',h1',rfl⟩:=hr
            rw [h1] at h1'; cases h1'
            refine ⟨b,bs + offs p,ys,rfl,.inr ⟨o,ob,by omega,hob,?_⟩,fz_ok hs n d y ys h2 hk hu,h3⟩
            cases ob with
            | var x =>
              simp only [objGet] at hg
              split at hg
              · rename_i e; subst e; simp [blk,h1,bOf]
              · cases hg
            | arr g' sz l =>
              cases p with
              | nil=>simp [objGet] at hg
              | cons q p =>
                obtain ⟨i,off⟩:=q
                simp only [objGet] at hg
                split at hg
                · rename_i e; obtain ⟨e,_⟩:=e; subst e; simp [blk,h1,bOf]
                · cases hg
            | _=>simp [objGet] at hg
    | agg l =>
      simp only [fz,AV.solid,AV.under] at hk hu ⊢
      simp only [Rc] at hr ⊢
      obtain ⟨css,h1,h2⟩:=hr
      exact ⟨css,hl l css h1 hk hu,h2⟩
    | tup l=>simp [Rc] at hr
    | fn f l =>
      simp only [fz,AV.solid,AV.under] at hk hu ⊢
      simp only [Rc] at hr ⊢
      obtain ⟨ha,vs,h1,h2⟩:=hr
      refine ⟨fun y hy=>?_,vs,h1,hl l _ h2 hk hu⟩
      obtain ⟨x,hx,rfl⟩:=List.mem_map.1 hy
      rw [fz_isA _ _ _ _ (solids_mem hk _ hy)]; exact ha x hx
    | mp o =>
      simp only [fz] at hk hu ⊢
      split at hk
      · rename_i ho
        rw [if_pos ho] at hu ⊢
        exact Rc_leU (leU_fzn C n H) _ _ hu hr
      · simp [AV.solid] at hk
    | nl =>
      simp only [fz,Rc] at hr ⊢
      exact ⟨rfl,_,hr,none,0,rfl,.inl rfl⟩
    | iptr x =>
      simp only [fz,AV.solid,AV.under] at hk hu ⊢
      simp only [Rc] at hr ⊢
      obtain ⟨b,off,xs,e,hF,hx,hm⟩:=hr
      exact ⟨b,off,xs,e,.inl hF,fz_ok hs n d x xs hx hk hu,hm⟩
    | u=>simp [Rc] at hr
    | bool b=>exact Rc_leU (leU_fzn C n H) _ _ hu hr
    | int k m=>exact Rc_leU (leU_fzn C n H) _ _ hu hr
    | a x=>exact Rc_leU (leU_fzn C n H) _ _ hu hr
    | bx o =>
      simp only [fz] at hk hu ⊢
      split at hk
      · rename_i ho
        rw [if_pos ho] at hu ⊢
        exact Rc_leU (leU_fzn C n H) _ _ hu hr
      · simp [AV.solid] at hk
    | isl l=>exact Rc_leU (leU_fzn C n H) _ _ hu hr
theorem fz_Rv (hs:Sim base C H) (n d:Nat) {x v} (hr:Rv C x v) (hk:(fz n H d x).solid = true) (hu:(fz n H d x).under n = true):Rv (C.fzn n H) (fz n H d x) v:=by
  have one:∀ d x v,Rv1 C x v → (fz n H d x).solid = true → (fz n H d x).under n = true → Rv1 (C.fzn n H) (fz n H d x) v:=by
    intro d x v h hk hu
    rcases h with rfl | ⟨h1,h2⟩
    · cases d <;> simp [fz,AV.solid] at hk
    · exact .inr ⟨fz_ok hs n d x _ h1 hk hu,by rw [fz_isA _ _ _ _ hk]; exact h2⟩
  rcases hr with h | ⟨l,vs,rfl,rfl,h⟩
  · exact .inl (one d x v h hk hu)
  · cases d with
    | zero=>simp [fz,AV.solid] at hk
    | succ d =>
      simp only [fz,AV.solid,AV.under] at hk hu ⊢
      refine .inr ⟨_,vs,rfl,rfl,?_⟩
      generalize vs.toList = vl at h
      induction h with
      | nil=>exact .nil
      | cons a _ ih =>
        simp only [List.map_cons,AV.solids,AV.unders,Bool.and_eq_true] at hk hu
        exact .cons (one d _ _ a hk.1 hu.1) (ih hk.2 hu.2)
end Tor
namespace Tor
open Go Go.RowKit
inductive Rvs (C:Cx):List AV → List Value → Prop
  | nil:Rvs C [] []
  | cons {x v l vs}:Rv C x v → Rvs C l vs → Rvs C (x :: l) (v :: vs)
theorem Rvs_le {C C':Cx} (h:Le C C') {l vs} (hr:Rvs C l vs):Rvs C' l vs:=by
  induction hr with
  | nil=>exact .nil
  | cons a _ ih=>exact .cons (Rv_le h a) ih
theorem Rvs_append {C:Cx} {l vs l' vs'} (h:Rvs C l vs) (h':Rvs C l' vs'):Rvs C (l ++ l') (vs ++ vs'):=by
  induction h with
  | nil=>exact h'
  | cons a _ ih=>exact .cons a ih
theorem Rvs_length {C:Cx} {l vs} (h:Rvs C l vs):l.length = vs.length:=by
  induction h with
  | nil=>rfl
  | cons _ _ ih=>simp [ih]
theorem Rvs_get {C:Cx} {l vs} (h:Rvs C l vs):∀ (i:Nat) (d:Value),i < vs.length → Rv C (l.getD i .u) (vs.getD i d):=by
  induction h with
  | nil=>intro i d h; simp at h
  | cons a _ ih =>
    intro i d h
    cases i with
    | zero=>exact a
    | succ i=>exact ih i d (by simpa using h)
def Called (P:Program) (f:FuncId) (args:Array Value) (w:World) (R:Value → World → Prop):Prop :=
  match (callFunc f args).run P w with
  | .ok (.value v) w'=>R v w'
  | .ok (.enter g a) w'=>Calls P g a w' fun
      | .returned v,w''=>R v w''
      | _,_=>False
  | _=>False
def Does (P:Program) (s:Sem Next) (w:World) (R:Value → World → Prop):Prop :=
  match s.run P w with
  | .ok (.value v) w'=>R v w'
  | .ok .skip w'=>R undef w'
  | .ok (.enter g a) w'=>Calls P g a w' fun
      | .returned v,w''=>R v w''
      | _,_=>False
  | _=>False
def CPost (base:Nat) (C:Cx) (H:Heap) (r:AV) (H':Heap) (v:Value) (w':World):Prop:=∃ C',C'.w = w' ∧ OStep base C H C' H' ∧ Rv C' r v
def SoundC (P:Program) (ι:Nat → FuncId) (CF:CallF):Prop :=
  ∀ g args H r H' b,CF g args H = some (r,H',b) → ∀ base C vals,C.ι = ι → Sim base C H → Rvs C args vals →
    Called P (ι g) vals.toArray C.w (CPost base C H r H')
mutual
def constC:AV → List Value → Option (List Value)
  | .bool b,.bool b' :: r=>if b == b' then some r else none
  | .int k n,.int k' n' :: r=>if k == k' && n == n' then some r else none
  | .nl,.slice none m n :: r=>if m == 0 && n == 0 then some r else none
  | .isl [],.slice none m n :: r=>if m == 0 && n == 0 then some r else none
  | .a (.string s),.string s' :: r=>if s.data == s'.data then some r else none
  | .a .nilFunc,.nilFunc :: r=>some r
  | .a .nilIface,.nilIface :: r=>some r
  | .a (.pointer none),.pointer none :: r=>some r
  | .a (.map none),.map none :: r=>some r
  | .agg l,cs=>constCs l cs
  | _,_=>none
def constCs:List AV → List Value → Option (List Value)
  | [],cs=>some cs
  | x :: l,cs=>match constC x cs with
    | some r=>constCs l r
    | none=>none
end
def isNil:Option (List Value) → Bool
  | some []=>true
  | _=>false
def constOk (x:AV):Value → Bool
  | .agg cs=>x.isA && isNil (constC x cs.toList)
  | v=>!x.isA && isNil (constC x [v])
mutual
theorem constC_ok:∀ (x:AV) (cs r:List Value),constC x cs = some r → ∃ c,cs = c ++ r ∧ ∀ C,Rc C x c
  | .u,cs,r,h=>by simp [constC] at h
  | .iptr _,cs,r,h=>by simp [constC] at h
  | .ptr _ _ _,cs,r,h=>by simp [constC] at h
  | .sl _ _ _ _ _,cs,r,h=>by simp [constC] at h
  | .fn _ _,cs,r,h=>by simp [constC] at h
  | .mp _,cs,r,h=>by simp [constC] at h
  | .tup _,cs,r,h=>by simp [constC] at h
  | .bool b,cs,r,h=>by
    unfold constC at h; split at h <;> try (cases h; done)
    all_goals (rename_i hx; cases hx)
    split at h
    · rename_i hb; cases h; simp at hb; subst hb; exact ⟨[_],rfl,fun C=>by simp [Rc]⟩
    · cases h
  | .int k n,cs,r,h=>by
    unfold constC at h; split at h <;> try (cases h; done)
    all_goals (rename_i hx; cases hx)
    split at h
    · rename_i hb; cases h; simp at hb; obtain ⟨rfl,rfl⟩:=hb; exact ⟨[_],rfl,fun C=>by simp [Rc]⟩
    · cases h
  | .nl,cs,r,h=>by
    unfold constC at h; split at h <;> try (cases h; done)
    all_goals (rename_i hx; cases hx)
    split at h
    · rename_i hb; cases h; simp at hb; obtain ⟨rfl,rfl⟩:=hb; exact ⟨[_],rfl,fun C=>by simp [Rc]⟩
    · cases h
  | .isl l,cs,r,h=>by
    unfold constC at h; split at h <;> try (cases h; done)
    all_goals (rename_i hx; cases hx)
    split at h
    · rename_i hb; cases h; simp at hb; obtain ⟨rfl,rfl⟩:=hb
      exact ⟨[_],rfl,fun C=>by simp only [Rc]; exact ⟨rfl,_,rfl,none,0,rfl,.inl rfl⟩⟩
    · cases h
  | .a x,cs,r,h=>by
    unfold constC at h
    split at h <;> try (cases h; done)
    all_goals (rename_i hx; cases hx)
    · split at h
      · rename_i s s' _ hb
        cases h
        have:s = s':=by
          cases s; cases s'
          simpa using hb
        subst this
        exact ⟨[_],rfl,fun C=>by simp [Rc,Value.oneCell']⟩
      · cases h
    all_goals (cases h; exact ⟨[_],rfl,fun C=>by simp [Rc,Value.oneCell']⟩)
  | .bx _,cs,r,h=>by simp [constC] at h
  | .agg l,cs,r,h=>by
    rw [constC] at h
    obtain ⟨css,h1,h2⟩:=constCs_ok l cs r h
    exact ⟨css.flatten,h1,fun C=>by simp only [Rc]; exact ⟨css,h2 C,rfl⟩⟩
theorem constCs_ok:∀ (l:List AV) (cs r:List Value),constCs l cs = some r → ∃ css:List (List Value),cs = css.flatten ++ r ∧ ∀ C,Rcl C l css
  | [],cs,r,h=>by cases h; exact ⟨[],rfl,fun C=>rfl⟩
  | x :: l,cs,r,h=>by
    rw [constCs] at h
    cases hx:constC x cs with
    | none=>rw [hx] at h; cases h
    | some r1 =>
      rw [hx] at h
      obtain ⟨c,h1,h2⟩:=constC_ok x cs r1 hx
      obtain ⟨css,h3,h4⟩:=constCs_ok l r1 r h
      exact ⟨c :: css,by rw [h1,h3]; simp [List.append_assoc],fun C=>by simp only [Rcl]; exact ⟨c,css,rfl,h2 C,h4 C⟩⟩
end
theorem isNil_eq {o:Option (List Value)} (h:isNil o = true):o = some []:=by
  cases o with
  | none=>cases h
  | some l=>cases l with
    | nil=>rfl
    | cons _ _=>cases h
theorem constOk_ok {x v} (h:constOk x v = true) (C:Cx):Rv C x v:=by
  have key:∀ v:Value,vIsA v = x.isA → constC x v.cells.toList = some [] → Rv C x v:=by
    intro v h1 h2
    obtain ⟨c,h3,h4⟩:=constC_ok x _ _ h2
    rw [List.append_nil] at h3
    exact Rv_of (h3 ▸ h4 C) h1
  unfold constOk at h
  split at h
  · simp only [Bool.and_eq_true] at h
    exact key _ (by simp [vIsA,h.1]) (isNil_eq h.2)
  · rename_i hv
    simp only [Bool.and_eq_true,Bool.not_eq_true'] at h
    have hva:vIsA v = false:=by
      cases v <;> first | rfl | exact absurd rfl (hv _)
    exact key v (by rw [hva,h.1]) (by rw [cells_one hva]; exact isNil_eq h.2)
section
variable (P:Program) (ι:Nat → FuncId) (O:Operand → AOpd → Bool)
def zeroOk (t:TypeId) (z:AV):Bool :=
  match zeroB P t with
  | some zv=>constOk z zv && z.known
  | none=>false
def partsOk:List (Nat × Operand) → List (Nat × AOpd) → Bool
  | [],[]=>true
  | (i,x) :: r,(j,y) :: s=>i == j && O x y && partsOk r s
  | _,_=>false
def opsOk:List Operand → List AOpd → Bool
  | [],[]=>true
  | x :: r,y :: s=>O x y && opsOk r s
  | _,_=>false
def optOk:Option Operand → Option AOpd → Bool
  | none,none=>true
  | some x,some y=>O x y
  | _,_=>false
def buildOk (t:TypeId) (z:List AV):Bool :=
  match placeB P t with
  | some pl=>placesOk pl 0 0 z
  | none=>false
def sliceOk (t:TypeId) (sz:Nat):Bool :=
  match sliceB P t with
  | some e=>sizeB P e == some sz
  | none=>false
def bsliceOk (t:TypeId) (sz:Nat) (z:AV):Bool :=
  match sliceB P t with
  | some e=>sizeB P e == some sz && zeroOk P e z
  | none=>false
def bytesOk (t:TypeId) (sz bytes:Nat):Bool :=
  match sliceB P t with
  | some e=>match P.info? e with
    | some i=>i.size == sz && i.bytes == bytes && (match i.zero with | some zv=>zv.cells.size == sz | none=>false)
    | none=>false
  | none=>false
def mksliceOk (t:TypeId) (sz bytes:Nat) (z:AV):Bool :=
  match sliceB P t with
  | some e=>match P.info? e with
    | some i=>i.size == sz && i.bytes == bytes && (match i.zero with | some zv=>constOk z zv && z.known | none=>false)
    | none=>false
  | none=>false
def isInt64 (v:Int):Value → Bool
  | .int .i64 n=>n == v
  | _=>false
def fieldAddrOk (t:TypeId) (i off:Nat):Bool :=
  match fieldB P t i with
  | some f=>f.offset == off && (match sizeB P f.type with | some n=>n != 0 | none=>false)
  | none=>false
def fieldOk (t:TypeId) (i off:Nat) (ag:Bool) (sz:Nat):Bool :=
  match fieldB P t i with
  | some f=>f.offset == off && aggB P f.type == some ag && sizeB P f.type == some sz
  | none=>false
def arrOk (t:TypeId) (n sz:Nat):Bool :=
  match P.underlying t with
  | some (.array m e)=>m == n && sizeB P e == some sz
  | _=>false
def boolT (t:TypeId):Bool :=
  match P.underlying t with
  | some .bool=>true
  | _=>false
def strT (t:TypeId):Bool :=
  match P.underlying t with
  | some .string=>true
  | _=>false
def convOk (s d:TypeId) (k:IntKind):Bool :=
  (match P.underlying d with
  | some (.int k')=>k' == k
  | _=>false) && (P.underlying s).isSome
def mapOk (t:TypeId):Bool :=
  match mapB P t with
  | some (kt,_)=>match P.underlying kt with
    | some d=>intKind d
    | none=>false
  | none=>false
def lookOk (t:TypeId) (z:AV):Bool :=
  mapOk P t && (match mapB P t with
  | some (_,et)=>zeroOk P et z
  | none=>false)
def isNilSlice:Operand → Bool
  | .const (.slice none m n)=>m == 0 && n == 0
  | _=>false
def isZero64:Option Operand → Bool
  | some (.const v)=>isInt64 0 v
  | _=>false
def callOk (c:Call) (a:AOp):Bool :=
  match c.callee,a with
  | .builtin .len,.len kd x=>(match c.args.toList,c.argTypes.toList with
    | [y],[t]=>lenKind P t kd && O y x
    | _,_=>false)
  | .builtin .append,.append sz bytes x y=>(match c.args.toList,c.argTypes.toList with
    | [u,v],[t,t']=>t == t' && bytesOk P t sz bytes && O u x && O v y
    | _,_=>false)
  | .builtin .copy,.copy sz x y=>(match c.args.toList,c.argTypes.toList with
    | [u,v],[t,_]=>sliceOk P t sz && O u x && O v y
    | _,_=>false)
  | .builtin .delete,.mdel x y=>(match c.args.toList,c.argTypes.toList with
    | [u,v],[t,_]=>mapOk P t && O u x && O v y
    | _,_=>false)
  | .builtin .max,.max x l=>opsOk O c.args.toList (x :: l)
  | .builtin .min,.min x l=>opsOk O c.args.toList (x :: l)
  | .value (.func f),.call g l=>ι g == f && opsOk O c.args.toList l
  | .value x,.callv y l=>O x y && opsOk O c.args.toList l
  | .value x,.callp _ y l=>O x y && opsOk O c.args.toList l
  | _,_=>false
def opOk (op:Op) (a:AOp):Bool :=
  match op,a with
  | .move x,.move y=>O x y
  | .assign x,.move y=>O x y
  | .move x,.frz y=>O x y
  | .assign x,.frz y=>O x y
  | .move x,.nils _=>isNilSlice x
  | .assign x,.nils _=>isNilSlice x
  | .pick c x y,.pick c' x' y'=>O c c' && O x x' && O y y'
  | .box _ x,.box _ y=>O x y
  | .alloc t,.alloc z=>zeroOk P t z
  | .build t ps,.build z qs=>layoutOk P t && zeroOk P t (.agg z) && buildOk P t z && partsOk O ps.toList qs
  | .buildSlice t n ps,.bslice _ sz z m qs=>n == m && bsliceOk P t sz z && Nat.ble (n * sz) 16777216 && partsOk O ps.toList qs
  | .load t x,.load ag sz y=>aggB P t == some ag && sizeB P t == some sz && O x y
  | .store t x v,.store sz y u=>sizeB P t == some sz && O x y && O v u
  | .nilCheck x,.nilCheck y=>O x y
  | .binOp op t x y _,.bin op' x' y'=>op == op' && O x x' && O y y'
  | .binOp op t x y _,.binb ne x' y'=>op == (if ne then .neq else .eql) && boolT P t && O x x' && O y y'
  | .unOp op _ x,.un op' y=>op == op' && O x y
  | .convert s d x,.conv k y=>convOk P s d k && O x y
  | .makeFunc (.func f) first caps,.mkfn g l=>first.size == 0 && ι g == f && opsOk O caps.toList l
  | .makeMap _ none,.mkmap=>true
  | .makeSlice t n c,.mkslice sz bytes z n' c'=>mksliceOk P t sz bytes z && O n n' && O c c'
  | .slice t x lo hi mx,.slice sz y lo' hi' mx'=>sliceOk P t sz && O x y && optOk O lo lo' && optOk O hi hi' && optOk O mx mx' && (!mx.isSome || hi.isSome)
  | .slice t x none hi mx,.slice0 sz y=>sliceOk P t sz && O x y && isZero64 hi && isZero64 mx
  | .fieldAddr t x i,.fieldAddr j off y=>i == j && fieldAddrOk P t i off && O x y
  | .field t x i,.field j off ag sz y=>i == j && fieldOk P t i off ag sz && O x y
  | .indexAddr t x i,.indexAddr sz y j=>sliceOk P t sz && O x y && O i j
  | .indexAddr t x i,.indexArr n sz y j=>arrOk P t n sz && O x y && O i j
  | .index t x i,.indexStr y j=>strT P t && O x y && O i j
  | .lookup t m k ok,.lookup z ok' m' k'=>ok == ok' && lookOk P t z && O m m' && O k k'
  | .mapUpdate t m k x,.mupd m' k' x'=>mapOk P t && O m m' && O k k' && O x x'
  | .extract x i,.extract j y=>i == j && O x y
  | .call c,a=>callOk P ι O c a
  | _,_=>false
end
end Tor
namespace Tor
open Go Go.RowKit
variable {P:Program} {base:Nat} {C:Cx}
theorem does_v {s:Sem Value} {w w':World} {v:Value} {R:Value → World → Prop} (h:s.run P w = .ok v w') (hR:R v w'):Does P (do pure (Next.value (← s))) w R:=by
  simp only [Does,Sem.run_bind,h,Result.andThen_ok,Sem.run_pure]; exact hR
theorem does_u {s:Sem Unit} {w w':World} {R:Value → World → Prop} (h:s.run P w = .ok () w') (hR:R undef w'):Does P (do s; pure Next.skip) w R:=by
  simp only [Does,Sem.run_bind,h,Result.andThen_ok,Sem.run_pure]; exact hR
theorem does_p {w:World} {v:Value} {R:Value → World → Prop} (hR:R v w):Does P (pure (Next.value v)) w R:=by
  simp only [Does,Sem.run_pure]; exact hR
theorem Step.refl {H:Heap} {ent:Nat} (hs:Sim base C H):Step base ent C H C H:=⟨Le.refl C,hs,(Grow.refl C.w).below hs.bsz,fun _ h=>.inl h,fun _ _ hF hno=>⟨rfl,hF,hno⟩⟩
theorem ret_inv {st:St} {q x st'} (h:ret st q = some (x,st')):q = some x ∧ st' = st:=by
  cases q with
  | none=>cases h
  | some y=>cases h; exact ⟨rfl,rfl⟩
theorem eff_inv {st:St} {q x st'} (h:eff st q = some (x,st')):∃ H' b,q = some (x,H',b) ∧ st' = { vars:=st.vars,heap:=H',rs:=st.rs || b }:=by
  cases q with
  | none=>cases h
  | some y=>obtain ⟨y,H',b⟩:=y; cases h; exact ⟨H',b,rfl,rfl⟩
theorem cpost_refl {H:Heap} (hs:Sim base C H) {x v} (h:Rv C x v):CPost base C H x H v C.w:=⟨C,rfl,Step.refl hs,h⟩
section
variable {ι:Nat → FuncId} {O:Operand → AOpd → Bool} {L vars:List AV} {ρ:Operand → Value}
theorem parts_ok (hO:∀ x y,O x y = true → Rv C (ev L vars y) (ρ x)):∀ (ps:List (Nat × Operand)) (qs:List (Nat × AOpd)),partsOk O ps qs = true →
    PartsR C (qs.map fun p=>(p.1,ev L vars p.2)) (ps.map fun (i,x)=>(i,ρ x))
  | [],[],_=>.nil
  | [],_ :: _,h=>by simp [partsOk] at h
  | _ :: _,[],h=>by simp [partsOk] at h
  | (i,x) :: r,(j,y) :: s,h=>by
    simp only [partsOk,Bool.and_eq_true,beq_iff_eq] at h
    obtain ⟨⟨rfl,h2⟩,h3⟩:=h
    exact .cons (hO x y h2) (parts_ok hO r s h3)
theorem ops_ok (hO:∀ x y,O x y = true → Rv C (ev L vars y) (ρ x)):∀ (ps:List Operand) (qs:List AOpd),opsOk O ps qs = true → Rvs C (qs.map (ev L vars)) (ps.map ρ)
  | [],[],_=>.nil
  | [],_ :: _,h=>by simp [opsOk] at h
  | _ :: _,[],h=>by simp [opsOk] at h
  | x :: r,y :: s,h=>by
    simp only [opsOk,Bool.and_eq_true] at h
    exact .cons (hO x y h.1) (ops_ok hO r s h.2)
theorem opt_ok (hO:∀ x y,O x y = true → Rv C (ev L vars y) (ρ x)) {x y} (h:optOk O x y = true):RvO C (y.map (ev L vars)) (x.map ρ):=by
  cases x <;> cases y <;> first | trivial | exact hO _ _ h | cases h
end
theorem Rvs_known {l vs} (h:Rvs C l vs) (hk:∀ x ∈ l,x.known = true):Rvl C l vs:=by
  induction h with
  | nil=>exact .nil
  | cons a _ ih=>exact .cons (known_Rv1 (hk _ (.head _)) a) (ih fun x hx=>hk x (.tail _ hx))
theorem foldMM_known (mx:Bool):∀ {l X y},foldMM mx X l = some y → ∀ x ∈ l,x.known = true
  | [],_,_,_,_,hx=>by cases hx
  | z :: l,X,y,h,x,hx=>by
    cases X <;> try (cases h; done)
    cases z <;> try (cases h; done)
    simp only [foldMM] at h
    split at h
    · cases hx with
      | head=>rfl
      | tail _ hx=>exact foldMM_known mx h x hx
    · cases h
theorem zeroOk_inv {t z} (h:zeroOk P t z = true):∃ zv,zeroB P t = some zv ∧ (∀ C,Rv C z zv) ∧ z.known = true:=by
  unfold zeroOk at h
  split at h
  · rename_i zv hz
    simp only [Bool.and_eq_true] at h
    exact ⟨zv,hz,fun C=>constOk_ok h.1 C,h.2⟩
  · cases h
theorem sliceOk_inv {t sz} (h:sliceOk P t sz = true):∃ e,sliceB P t = some e ∧ sizeB P e = some sz:=by
  unfold sliceOk at h
  split at h
  · rename_i e he; exact ⟨e,he,by simpa using h⟩
  · cases h
theorem bsliceOk_inv {t sz z} (h:bsliceOk P t sz z = true):∃ e,sliceB P t = some e ∧ sizeB P e = some sz ∧ ∃ zv,zeroB P e = some zv ∧ (∀ C,Rv C z zv) ∧ z.known = true:=by
  unfold bsliceOk at h
  split at h
  · rename_i e he; simp only [Bool.and_eq_true,beq_iff_eq] at h; exact ⟨e,he,h.1,zeroOk_inv h.2⟩
  · cases h
theorem bytesOk_inv {t sz bytes} (h:bytesOk P t sz bytes = true):∃ e i zv,sliceB P t = some e ∧ P.info? e = some i ∧ i.size = sz ∧ i.bytes = bytes ∧ i.zero = some zv ∧ zv.cells.size = sz:=by
  unfold bytesOk at h
  split at h
  · rename_i e he
    split at h
    · rename_i i hi
      simp only [Bool.and_eq_true,beq_iff_eq] at h
      obtain ⟨⟨h1,h2⟩,h3⟩:=h
      split at h3
      · rename_i zv hz
        exact ⟨e,i,zv,he,hi,h1,h2,hz,by simpa using h3⟩
      · cases h3
    · cases h
  · cases h
theorem mksliceOk_inv {t sz bytes z} (h:mksliceOk P t sz bytes z = true):∃ e i zv,sliceB P t = some e ∧ P.info? e = some i ∧ i.size = sz ∧ i.bytes = bytes ∧ i.zero = some zv ∧ (∀ C,Rv C z zv) ∧ z.known = true:=by
  unfold mksliceOk at h
  split at h
  · rename_i e he
    split at h
    · rename_i i hi
      simp only [Bool.and_eq_true,beq_iff_eq] at h
      obtain ⟨⟨h1,h2⟩,h3⟩:=h
      split at h3
      · rename_i zv hz
        simp only [Bool.and_eq_true] at h3
        exact ⟨e,i,zv,he,hi,h1,h2,hz,fun C=>constOk_ok h3.1 C,h3.2⟩
      · cases h3
    · cases h
  · cases h
theorem mapOk_inv {t} (h:mapOk P t = true):∃ kt et kd,mapB P t = some (kt,et) ∧ P.underlying kt = some kd ∧ intKind kd = true:=by
  unfold mapOk at h
  split at h
  · rename_i kt et he
    split at h
    · rename_i d hd; exact ⟨kt,et,d,he,hd,h⟩
    · cases h
  · cases h
theorem eqGuard_int (op t x y k n k' m) (w:World):(eqGuard op t x y (.int k n) (.int k' m)).run P w = .ok () w:=by
  cases op <;> simp [eqGuard]
theorem eqGuard_bool (op t x y a b) (w:World):(eqGuard op t x y (.bool a) (.bool b)).run P w = .ok () w:=by
  cases op <;> simp [eqGuard]
theorem binAV_ints {op X Y z} (h:binAV op X Y = some z):(∃ k n,X = .int k n) ∧ ∃ k n,Y = .int k n:=by
  cases X <;> try (cases h; done)
  cases Y <;> try (cases h; done)
  exact ⟨⟨_,_,rfl⟩,⟨_,_,rfl⟩⟩
theorem binB_bools {ne X Y z} (h:binB ne X Y = some z):(∃ b,X = .bool b) ∧ ∃ b,Y = .bool b:=by
  cases X <;> try (cases h; done)
  cases Y <;> try (cases h; done)
  exact ⟨⟨_,rfl⟩,⟨_,rfl⟩⟩
theorem isNilSlice_inv {x} (h:isNilSlice x = true):x = .const (.slice none 0 0):=by
  unfold isNilSlice at h
  split at h
  · simp only [Bool.and_eq_true,beq_iff_eq] at h; obtain ⟨rfl,rfl⟩:=h; rfl
  · cases h
theorem isZero64_inv {x} (h:isZero64 x = true):x = some (.const (.int .i64 0)):=by
  unfold isZero64 at h
  split at h
  · unfold isInt64 at h
    split at h
    · simp only [beq_iff_eq] at h; subst h; rfl
    · cases h
  · cases h
theorem called_does {f args w R} {s:Sem Next} (h:Called P f args w R) (e:s.run P w = (callFunc f args).run P w):Does P s w R:=by
  simp only [Called] at h
  simp only [Does,e]
  split at h <;> simp_all
theorem len1 {α} {a:Array α} {x:α} (h:a.toList = [x]):a = #[x]:=by cases a; simp at h; subst h; rfl
theorem len2 {α} {a:Array α} {x y:α} (h:a.toList = [x,y]):a = #[x,y]:=by cases a; simp at h; subst h; rfl
theorem nothing_ok (C:Cx):Rv C nothing undef:=Rv_tup_mk (vs:=[]) .nil
theorem call_op_ok {ι:Nat → FuncId} {O:Operand → AOpd → Bool} {L:List AV} {st:St} {a:Act} {CF:CallF} {c:Call} {o:Oper} {aop_:AOp} {x:AV} {st':St} (hC:SoundC P ι CF) (hι:C.ι = ι) (hs:Sim base C st.heap)
    (hO:∀ x y,O x y = true → Rv C (ev L st.vars y) (a.eval x)) (ho:o.op = .call c) (h:callOk P ι O c aop_ = true) (hr:aop CF L st aop_ = some (x,st')) :
    Does P (execOp a.eval o) C.w (CPost base C st.heap x st'.heap) ∧ st'.vars = st.vars:=by
  have hex:execOp a.eval o = (do let d ← resolve a.eval c o.type; invoke d.target d.args):=by simp only [execOp,ho]
  rw [hex]
  unfold callOk at h
  split at h
  · -- len
    rename_i kd y hc
    obtain ⟨h1,rfl⟩:=ret_inv hr
    split at h
    · rename_i z t hz ht
      simp only [Bool.and_eq_true] at h
      have hz:=len1 hz; have ht:=len1 ht
      obtain ⟨u,e1,e2⟩:=len_ok (ty:=o.type) hs h.1 (hO _ _ h.2) h1
      refine ⟨?_,rfl⟩
      simp only [Does,resolve,hc,hz,ht,Sem.run_bind,Sem.run_pure,Result.andThen_ok,invoke,builtin,List.map_toArray,List.map_cons,List.map_nil,e1]
      exact cpost_refl hs e2
    · cases h
  · -- append
    rename_i sz bytes y z hc
    obtain ⟨H',b,h1,rfl⟩:=eff_inv hr
    split at h
    · rename_i p q t t' hz ht
      simp only [Bool.and_eq_true,beq_iff_eq] at h
      obtain ⟨⟨⟨rfl,h2⟩,h3⟩,h4⟩:=h
      have hz:=len2 hz; have ht:=len2 ht
      obtain ⟨e,i,zv,b1,b2,b3,b4,b5,b6⟩:=bytesOk_inv h2
      obtain ⟨C',u,e1,e2,e3⟩:=append_ok (ty:=o.type) hs b1 b2 b3 b4 b5 b6 (hO _ _ h3) (hO _ _ h4) h1
      refine ⟨?_,rfl⟩
      simp only [Does,resolve,hc,hz,ht,Sem.run_bind,Sem.run_pure,Result.andThen_ok,invoke,builtin,List.map_toArray,List.map_cons,List.map_nil,e1]
      exact ⟨C',rfl,e2,e3⟩
    · cases h
  · -- copy
    rename_i sz y z hc
    obtain ⟨H',b,h1,rfl⟩:=eff_inv hr
    split at h
    · rename_i p q t t' hz ht
      simp only [Bool.and_eq_true] at h
      obtain ⟨⟨h2,h3⟩,h4⟩:=h
      have hz:=len2 hz; have ht:=len2 ht
      obtain ⟨e,b1,b2⟩:=sliceOk_inv h2
      obtain ⟨C',u,e1,e2,e3⟩:=copy_ok (t2:=t') (ty:=o.type) hs b1 b2 (hO _ _ h3) (hO _ _ h4) h1
      refine ⟨?_,rfl⟩
      simp only [Does,resolve,hc,hz,ht,Sem.run_bind,Sem.run_pure,Result.andThen_ok,invoke,builtin,List.map_toArray,List.map_cons,List.map_nil,e1]
      exact ⟨C',rfl,e2,e3⟩
    · cases h
  · -- delete
    rename_i y z hc
    obtain ⟨H',b,h1,rfl⟩:=eff_inv hr
    split at h
    · rename_i p q t t' hz ht
      simp only [Bool.and_eq_true] at h
      obtain ⟨⟨h2,h3⟩,h4⟩:=h
      have hz:=len2 hz; have ht:=len2 ht
      obtain ⟨kt,et,kd,b1,b2,b3⟩:=mapOk_inv h2
      obtain ⟨C',u,e1,e2,e3⟩:=mdel_ok (t2:=t') (ty:=o.type) hs b1 b2 b3 (hO _ _ h3) (hO _ _ h4) h1
      refine ⟨?_,rfl⟩
      simp only [Does,resolve,hc,hz,ht,Sem.run_bind,Sem.run_pure,Result.andThen_ok,invoke,builtin,List.map_toArray,List.map_cons,List.map_nil,e1]
      exact ⟨C',rfl,e2,e3⟩
    · cases h
  · -- max
    rename_i y l hc
    obtain ⟨h1,rfl⟩:=ret_inv hr
    have hv:=ops_ok hO _ _ h
    cases hv2:c.args.toList with
    | nil=>rw [hv2] at hv; cases hv
    | cons p ps =>
      rw [hv2] at hv
      simp only [List.map_cons] at hv
      cases hv with
      | cons v1 v2 =>
        obtain ⟨u,e1,e2⟩:=foldMM_ok (P:=P) true v1 (Rvs_known v2 (foldMM_known true h1)) h1
        have hz:c.args = (p :: ps).toArray:=by rw [← hv2]
        refine ⟨?_,rfl⟩
        simp only [if_true] at e1
        simp only [Does,resolve,hc,hz,Sem.run_bind,Sem.run_pure,Result.andThen_ok,invoke,builtin,List.map_toArray,List.map_cons,Builtin.max_,e1]
        exact cpost_refl hs e2
  · -- min
    rename_i y l hc
    obtain ⟨h1,rfl⟩:=ret_inv hr
    have hv:=ops_ok hO _ _ h
    cases hv2:c.args.toList with
    | nil=>rw [hv2] at hv; cases hv
    | cons p ps =>
      rw [hv2] at hv
      simp only [List.map_cons] at hv
      cases hv with
      | cons v1 v2 =>
        obtain ⟨u,e1,e2⟩:=foldMM_ok (P:=P) false v1 (Rvs_known v2 (foldMM_known false h1)) h1
        have hz:c.args = (p :: ps).toArray:=by rw [← hv2]
        refine ⟨?_,rfl⟩
        simp only [if_false,Bool.false_eq_true] at e1
        simp only [Does,resolve,hc,hz,Sem.run_bind,Sem.run_pure,Result.andThen_ok,invoke,builtin,List.map_toArray,List.map_cons,Builtin.min_,e1]
        exact cpost_refl hs e2
  · -- a call
    rename_i f g l hc
    obtain ⟨H',b,h1,rfl⟩:=eff_inv hr
    simp only [Bool.and_eq_true,beq_iff_eq] at h
    obtain ⟨rfl,h2⟩:=h
    have hv:=ops_ok hO _ _ h2
    have:=hC g _ _ _ _ _ h1 base C _ hι hs hv
    refine ⟨called_does this ?_,rfl⟩
    simp only [resolve,hc,Act.eval,Deferred.ofValue,Sem.run_bind,Sem.run_pure,Result.andThen_ok,invoke]
    congr 2
    apply Array.ext'
    simp
  · -- a call of a value
    rename_i y f l hc
    obtain ⟨H',b,h1,rfl⟩:=eff_inv hr
    simp only [Bool.and_eq_true] at h
    obtain ⟨h2,h3⟩:=h
    have hv:=ops_ok hO _ _ h3
    have hf:=hO _ _ h2
    generalize ev L st.vars f = F at h1 hf
    cases F <;> try (cases h1; done)
    rename_i g caps
    simp only [doCallv] at h1
    obtain ⟨vs,hfv,hcl,hna⟩:=Rv_fn hf
    have hcap:∀ (l:List AV) (vs:List Value),(∀ x ∈ l,x.isA = false) → Rcl C l (vs.map fun v=>[v]) → Rvs C l vs:=by
      intro l
      induction l with
      | nil=>intro vs _ hh; cases vs with
        | nil=>exact .nil
        | cons v vs=>simp [Rcl] at hh
      | cons z l ih =>
        intro vs hz hh
        cases vs with
        | nil=>simp [Rcl] at hh
        | cons v vs =>
          simp only [Rcl,List.map_cons,List.cons.injEq] at hh
          obtain ⟨c,r,⟨rfl,rfl⟩,h5,h6⟩:=hh
          refine .cons (Rv_one h5 (hz _ (.head _)) ?_) (ih vs (fun x hx=>hz x (.tail _ hx)) h6)
          have h1c:=Rc_one _ _ h5 v (.head _)
          cases v <;> first | rfl | simp [Value.oneCell'] at h1c
    have:=hC g _ _ _ _ _ h1 base C _ hι hs (Rvs_append hv (hcap _ _ hna hcl))
    refine ⟨called_does this ?_,rfl⟩
    subst hι
    simp only [resolve,hc,hfv,Deferred.ofValue,Sem.run_bind,Sem.run_pure,Result.andThen_ok,invoke]
    congr 2
    apply Array.ext'
    simp
  · -- a call of a value,one of some
    rename_i y gs f l hc
    obtain ⟨H',b,h1,rfl⟩:=eff_inv hr
    simp only [Bool.and_eq_true] at h
    obtain ⟨h2,h3⟩:=h
    have hv:=ops_ok hO _ _ h3
    have hf:=hO _ _ h2
    generalize ev L st.vars f = F at h1 hf
    cases F <;> try (cases h1; done)
    rename_i g caps
    have h1:=doCallp_v h1
    simp only [doCallv] at h1
    obtain ⟨vs,hfv,hcl,hna⟩:=Rv_fn hf
    have hcap:∀ (l:List AV) (vs:List Value),(∀ x ∈ l,x.isA = false) → Rcl C l (vs.map fun v=>[v]) → Rvs C l vs:=by
      intro l
      induction l with
      | nil=>intro vs _ hh; cases vs with
        | nil=>exact .nil
        | cons v vs=>simp [Rcl] at hh
      | cons z l ih =>
        intro vs hz hh
        cases vs with
        | nil=>simp [Rcl] at hh
        | cons v vs =>
          simp only [Rcl,List.map_cons,List.cons.injEq] at hh
          obtain ⟨c,r,⟨rfl,rfl⟩,h5,h6⟩:=hh
          refine .cons (Rv_one h5 (hz _ (.head _)) ?_) (ih vs (fun x hx=>hz x (.tail _ hx)) h6)
          have h1c:=Rc_one _ _ h5 v (.head _)
          cases v <;> first | rfl | simp [Value.oneCell'] at h1c
    have:=hC g _ _ _ _ _ h1 base C _ hι hs (Rvs_append hv (hcap _ _ hna hcl))
    refine ⟨called_does this ?_,rfl⟩
    subst hι
    simp only [resolve,hc,hfv,Deferred.ofValue,Sem.run_bind,Sem.run_pure,Result.andThen_ok,invoke]
    congr 2
    apply Array.ext'
    simp
  · cases h
end Tor
