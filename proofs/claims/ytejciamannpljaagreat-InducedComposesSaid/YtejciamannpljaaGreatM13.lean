/-
  A part of the proof: an abstract machine for the program, its soundness, and what the functions compute (In3, In4, In5, In6, In7, In8, E1, Once, In9, In10, In11, In12).
  Conditions: none.
-/
import Derived.Test.YtejciamannpljaaGreatM03
import Derived.Test.YtejciamannpljaaGreatM06
import Derived.Test.YtejciamannpljaaGreatM12
import Derived.Shelf.SlIterI.Sorted
set_option linter.unusedSectionVars false
set_option linter.unusedVariables false
set_option linter.unusedSimpArgs false
set_option linter.defProp false
namespace Tor
open Go
def coefR (l:List Int) (i j:Nat):Int:=(l.getD ((i + 3 * j) % l.length) 0).tmod 3
def raiseN (ids l:List Int) (i n:Nat):List (Int × Int):=(List.range n).foldl (fun a j=>add26 a [(ids.getD j 0,1)] (coefR l i j)) []
def upIds (c:List Cel) (i:Nat):List Int:=cellsC c ((c.getD i zC).dim + 1)
def raise (c:List Cel) (l:List Int) (i:Nat):List (Int × Int):=if l = [] then [] else raiseN (upIds c i) l i (upIds c i).length
theorem raiseN_succ (ids l:List Int) (i n:Nat):raiseN ids l i (n + 1) = add26 (raiseN ids l i n) [(ids.getD n 0,1)] (coefR l i n):=by
  unfold raiseN; rw [List.range_succ,List.foldl_append]; rfl
theorem coefR_bd (l:List Int) (i j:Nat):-2 ≤ coefR l i j ∧ coefR l i j ≤ 2:=by
  unfold coefR
  have t1:=Int.tmod_lt_of_pos (l.getD ((i + 3 * j) % l.length) 0) (show (0:Int) < 3 by omega)
  have t2:=Int.lt_tmod_of_pos (l.getD ((i + 3 * j) % l.length) 0) (show (0:Int) < 3 by omega)
  omega
theorem raiseN_gc {S ids:List Int} (hS:S.length ≤ 11) (hid:∀ k ∈ ids,k ∈ S) (l:List Int) (i:Nat):∀ n,n ≤ ids.length → n ≤ 1000 → GC S (6 + n) (raiseN ids l i n)
  | 0,_,_=>GC.nil
  | n + 1,h,h2=>by
    rw [raiseN_succ]
    have hc:=coefR_bd l i n
    have hk:ids.getD n 0 ∈ S:=hid _ (by simp [List.getD,show n < ids.length by omega])
    exact (gadd hS (raiseN_gc hS hid l i n (by omega) (by omega)) (GC.one (u:=0) hk (n:=1) (by decide) (by decide)) (r:=1) (by omega) (by omega) (by omega) (by omega)).2
theorem raiseN_key (ids l:List Int) (i:Nat):∀ n,n ≤ ids.length → ∀ p ∈ raiseN ids l i n,p.1 ∈ ids
  | 0,_=>fun p hp=>(by cases hp)
  | n + 1,h=>by
    rw [raiseN_succ]
    refine add_keys _ _ _ (fun p hp=>?_) (raiseN_key ids l i n (by omega))
    rw [List.mem_singleton] at hp; subst hp
    simp [List.getD,show n < ids.length by omega]
theorem cells_ids {c:List Cel} {k:Int}:∀ x ∈ cellsC c k,x ∈ idsC c:=fun x hx=>by
  obtain ⟨y,hy,_,rfl⟩:=cells_mem.1 hx
  exact List.mem_map_of_mem hy
theorem raise_gc {c:List Cel} (hc:c.length ≤ 11) (l:List Int) (i:Nat):GC (idsC c) 17 (raise c l i):=by
  unfold raise
  split
  · exact GC.nil
  · have h:(upIds c i).length ≤ c.length:=cellsC_len c ((c.getD i zC).dim + 1)
    exact (raiseN_gc (ids:=upIds c i) (by simpa [idsC] using hc) (fun k hk=>cells_ids k hk) l i (upIds c i).length (Nat.le_refl _) (by omega)).mono (by omega)
theorem raise_key (c:List Cel) (l:List Int) (i:Nat):∀ p ∈ raise c l i,p.1 ∈ upIds c i:=by
  unfold raise
  split
  · exact fun p hp=>(by cases hp)
  · exact raiseN_key _ l i _ (Nat.le_refl _)
variable {E:CallF} (hE:Free E)
include hE
theorem r29_raised (c:List Cel) (hc:c.length ≤ 11) (hd:∀ x ∈ c,0 ≤ x.dim ∧ x.dim ≤ 3) (l:List Int) (hl:l.length ≤ 9223372036854775807) (hl8:∀ x ∈ l,-128 ≤ x ∧ x ≤ 127) (i:Nat) (hi:i < c.length) (H:Heap) :
    call E GP 255 [.isl (c.map cA),.int .i64 i,.isl (l.map bA)] H = some (.isl ((raise c l i).map fA),H,false):=by
  rw [call_fun (hE _ _ _ (by decide)) (f:=a255) rfl rfl]
  have hcells:=fun H=>r25_cells hE c (c[i].dim + 1) (by omega) H
  have hdi:=hd c[i] (List.getElem_mem hi)
  have hup:upIds c i = cellsC c (c[i].dim + 1):=by unfold upIds; simp [List.getD,hi]
  rw [← hup] at hcells
  have hlen:(upIds c i).length ≤ 11:=by have:=cellsC_len c ((c.getD i zC).dim + 1); unfold upIds; omega
  have hsub:∀ k ∈ upIds c i,k ∈ idsC c:=fun k hk=>cells_ids k hk
  by_cases hl0:l = []
  · subst hl0
    have hr:raise c [] i = []:=rfl
    rw [hr]
    generalize upIds c i = ids at *
    have h0:run E GP a255l0 { vars:=[.isl (c.map cA),.int .i64 i,.isl [],.isl [],.isl [],.isl (ids.map iA),.int .i64 0,.u,.u,cA c[i]],heap:=[],rs:=false } = some (.exit 0,{ vars:=[.isl (c.map cA),.int .i64 i,.isl [],.isl [],.isl [],.isl (ids.map iA),.int .i64 0,.u,.bool false,cA c[i]],heap:=[],rs:=false }):=by
      rw [a255l0_run]
      by_cases hq:0 < ids.length
      · have hq':(0:Int) < (ids.length:Int):=by omega
        simp (maxSteps:=1000000) (disch:=first | omega | decide) only [si,sf,simprocAttr,a255b0,a255R,hq',cA]
      · have hq':¬ (0:Int) < (ids.length:Int):=by omega
        simp (maxSteps:=1000000) (disch:=first | omega | decide) only [si,sf,simprocAttr,a255b0,a255R,hq',cA]
    simp only [cA] at h0
    simp (maxSteps:=1000000) (disch:=first | omega | decide) only [si,sf,simprocAttr,a255,a255R,hi,cA,hcells,h0,List.map_nil]
  · have hlp:0 < l.length:=List.length_pos_iff.2 hl0
    have hr:raise c l i = raiseN (upIds c i) l i (upIds c i).length:=by unfold raise; rw [if_neg hl0]
    rw [hr]
    generalize hg:upIds c i = ids at *
    let S:Nat → St:=fun j=>{ vars:=[.isl (c.map cA),.int .i64 i,.isl (l.map bA),.isl [],.isl ((raiseN ids l i j).map fA),.isl (ids.map iA),.int .i64 (j:Nat),.u,.u,cA c[i]],heap:=[],rs:=false }
    have hstep:∀ j,j < ids.length → run E GP a255l0 (S j) = run E GP a255l0 (S (j + 1)):=by
      intro j hj
      have g0:=raiseN_gc (S:=idsC c) (by simpa [idsC] using hc) hsub l i j (by omega) (by omega)
      have hk:ids[j] ∈ idsC c:=hsub _ (List.getElem_mem hj)
      have hcf:=coefR_bd l i j
      have hadd:=(gadd (by simpa [idsC] using hc) g0 (GC.one (u:=0) hk (n:=1) (by decide) (by decide)) (n:=coefR l i j) (r:=1) (by omega) (u:=7 + j) (by omega) (by omega) (by omega)).1 E hE
      have e0:ids.getD j 0 = ids[j]:=by simp [List.getD,hj]
      rw [← e0,← raiseN_succ,e0] at hadd
      simp only [List.map_cons,List.map_nil,fA] at hadd
      have hm:(i + 3 * j) % l.length < l.length:=Nat.mod_lt _ hlp
      have hmod:((i:Int) + 3 * (j:Int)).tmod (l.length:Int) = (((i + 3 * j) % l.length:Nat):Int):=by
        rw [Int.tmod_eq_emod_of_nonneg (by omega)]; push_cast; rfl
      have hne:¬ ((l.length:Int) = 0):=by omega
      have hcf':coefR l i j = (l[(i + 3 * j) % l.length]).tmod 3:=by unfold coefR; simp [List.getD,hm]
      rw [hcf'] at hadd hcf
      have ho1:=fun H=>r1_of hE 1 H (by omega) (by omega)
      have ho2:=fun H=>r1_of hE ((l[(i + 3 * j) % l.length]).tmod 3) H (by omega) (by omega)
      have hlp':(l.length:Int) > 0:=by omega
      show run E GP a255l0 { vars:=_,heap:=_,rs:=_ } = run E GP a255l0 { vars:=_,heap:=_,rs:=_ }
      generalize raiseN ids l i j = a1 at *
      generalize raiseN ids l i (j + 1) = a2 at *
      have w3:IntKind.i64.wrap (3 * (j:Int)) = 3 * (j:Int):=i64w (by omega)
      have w4:IntKind.i64.wrap ((i:Int) + 3 * (j:Int)) = (i:Int) + 3 * (j:Int):=i64w (by omega)
      have w5:IntKind.i64.wrap ((l[(i + 3 * j) % l.length]).tmod 3) = (l[(i + 3 * j) % l.length]).tmod 3:=i64w (by omega)
      conv=>lhs; rw [a255l0_run]
      simp (maxSteps:=1000000) (disch:=first | omega | decide) only [si,sf,simprocAttr,a255b0,a255R,hj,hm,hlp',hne,hmod,w3,w4,w5,ho1,ho2,hadd,bA,iA,cA]
    have hl:=loop_ind S _ ids.length hstep rfl
    have he:run E GP a255l0 (S ids.length) = some (.exit 0,{ vars:=[.isl (c.map cA),.int .i64 i,.isl (l.map bA),.isl [],.isl ((raiseN ids l i ids.length).map fA),.isl (ids.map iA),.int .i64 ids.length,.u,.bool false,cA c[i]],heap:=[],rs:=false }):=by
      show run E GP a255l0 { vars:=_,heap:=_,rs:=_ } = _
      rw [a255l0_run]
      simp (maxSteps:=1000000) (disch:=first | omega | decide) only [si,sf,simprocAttr,a255b0,a255R,Nat.lt_irrefl,cA]
    rw [he] at hl
    have hl:run E GP a255l0 { vars:=[.isl (c.map cA),.int .i64 i,.isl (l.map bA),.isl [],.isl [],.isl (ids.map iA),.int .i64 0,.u,.u,cA c[i]],heap:=[],rs:=false } = _:=hl
    simp only [cA] at hl
    simp (maxSteps:=1000000) (disch:=first | omega | decide) only [si,sf,simprocAttr,a255,a255R,hi,cA,hcells,hl]
def liftI (c:List Cel) (l:List Int) (i:Nat) (x a:List (Int × Int)):List (Int × Int):=x.foldl (fun a p=>if p.1 = (c.getD i zC).id then add26 a (raise c l i) p.2 else a) a
def liftN (c:List Cel) (l:List Int) (x:List (Int × Int)) (n:Nat):List (Int × Int):=(List.range n).foldl (fun a i=>liftI c l i x a) []
def lift (c:List Cel) (l:List Int) (x:List (Int × Int)):List (Int × Int):=liftN c l x c.length
omit hE in
theorem liftN_succ (c:List Cel) (l:List Int) (x:List (Int × Int)) (n:Nat):liftN c l x (n + 1) = liftI c l n x (liftN c l x n):=by
  unfold liftN; rw [List.range_succ,List.foldl_append]; rfl
omit hE in
theorem liftI_succ (c:List Cel) (l:List Int) (i:Nat) {x:List (Int × Int)} (a:List (Int × Int)) {j:Nat} (hj:j < x.length) :
    liftI c l i (x.take (j + 1)) a = if x[j].1 = (c.getD i zC).id then add26 (liftI c l i (x.take j) a) (raise c l i) x[j].2 else liftI c l i (x.take j) a:=by
  unfold liftI; rw [List.take_succ_eq_append_getElem hj,List.foldl_append]; rfl
omit hE in
theorem liftI_gc {c:List Cel} (hc:c.length ≤ 11) (l:List Int) (i:Nat) {r u:Nat} (hu:u + 2000 ≤ 15000000000) (hr:r + 22 ≤ u) {a:List (Int × Int)} (ha:GC (idsC c) u a):∀ (x:List (Int × Int)),Bd (2 ^ r) x → x.length ≤ 1000 → GC (idsC c) (u + x.length) (liftI c l i x a):=by
  have key:∀ (x:List (Int × Int)) (v:Nat) (a:List (Int × Int)),v + x.length ≤ 15000000000 → r + 22 ≤ v → GC (idsC c) v a → Bd (2 ^ r) x → GC (idsC c) (v + x.length) (liftI c l i x a):=by
    intro x
    induction x with
    | nil=>intro v a _ _ ha _; exact ha
    | cons p q ih =>
      intro v a hv hr ha hx
      simp only [List.length_cons] at hv
      have:v + (p :: q).length = v + 1 + q.length:=by simp only [List.length_cons]; omega
      rw [this]
      have hq:Bd (2 ^ r) q:=fun y hy=>hx y (.tail _ hy)
      show GC (idsC c) (v + 1 + q.length) (liftI c l i q (if p.1 = (c.getD i zC).id then add26 a (raise c l i) p.2 else a))
      refine ih (v + 1) _ (by omega) (by omega) ?_ hq
      split
      · exact (gadd (by simpa [idsC] using hc) ha (raise_gc hc l i) (hx p (.head _)) (by omega) (by omega) (by omega)).2
      · exact ha.mono (by omega)
  exact fun x hx hl=>key x u a (by omega) hr ha hx
omit hE in
theorem liftN_gc {c:List Cel} (hc:c.length ≤ 11) (l:List Int) {r:Nat} (hr:r ≤ 14000000000) {x:List (Int × Int)} (hx:Bd (2 ^ r) x) (hxl:x.length ≤ 1000):∀ n,n ≤ 11 → GC (idsC c) (r + 22 + n * x.length) (liftN c l x n)
  | 0,_=>GC.nil
  | n + 1,h=>by
    have ih:=liftN_gc hc l hr hx hxl n (by omega)
    have hb:n * x.length ≤ 11 * 1000:=Nat.mul_le_mul (by omega) hxl
    rw [liftN_succ,Nat.succ_mul,← Nat.add_assoc]
    exact liftI_gc hc l n (r:=r) (by omega) (by omega) ih x hx hxl
theorem r29_lifted (c:List Cel) (hc:c.length ≤ 11) (hd:∀ x ∈ c,0 ≤ x.dim ∧ x.dim ≤ 3) (l:List Int) (hl:l.length ≤ 9223372036854775807) (hl8:∀ x ∈ l,-128 ≤ x ∧ x ≤ 127) {r:Nat} (hr:r ≤ 14000000000) (x:List (Int × Int)) (hx:Bd (2 ^ r) x) (hxl:x.length ≤ 1000) (H:Heap) :
    call E GP 247 [.isl (c.map cA),.isl (x.map fA),.isl (l.map bA)] H = some (.isl ((lift c l x).map fA),H,false):=by
  rw [call_fun (hE _ _ _ (by decide)) (f:=a247) rfl rfl]
  let S:Nat → St:=fun i=>{ vars:=[.isl (c.map cA),.isl (x.map fA),.isl (l.map bA),.isl [],.isl ((liftN c l x i).map fA),.int .i64 (i:Nat),.u,.u,.u,.u],heap:=[],rs:=false }
  have hstep:∀ i,i < c.length → run E GP a247l0 (S i) = run E GP a247l0 (S (i + 1)):=by
    intro i hi
    have g0:=liftN_gc hc l hr hx hxl i (by omega)
    have hb:i * x.length ≤ 11 * 1000:=Nat.mul_le_mul (by omega) hxl
    have hra:=fun H=>r29_raised hE c hc hd l hl hl8 i hi H
    let T:Nat → St:=fun j=>{ vars:=[.isl (c.map cA),.isl (x.map fA),.isl (l.map bA),.isl [],.isl ((liftI c l i (x.take j) (liftN c l x i)).map fA),.int .i64 (i:Nat),.int .i64 (j:Nat),.bool true,.u,.u],heap:=[],rs:=false }
    have eid:(c.getD i zC).id = c[i].id:=by simp [List.getD,hi]
    have tstep:∀ j,j < x.length → run E GP a247l1 (T j) = run E GP a247l1 (T (j + 1)):=by
      intro j hj
      have lt:(x.take j).length = j:=by simp; omega
      have g1:=liftI_gc hc l i (r:=r) (by omega) (by omega) g0 (x.take j) (fun p hp=>hx p (List.mem_of_mem_take hp)) (by omega)
      have hadd:=(gadd (by simpa [idsC] using hc) g1 (raise_gc hc l i) (hx x[j] (List.getElem_mem hj)) (Nat.le_succ _) (by omega) (by omega)).1 E hE
      have es:=liftI_succ c l i (liftN c l x i) hj
      rw [eid] at es
      show run E GP a247l1 { vars:=_,heap:=_,rs:=_ } = run E GP a247l1 { vars:=_,heap:=_,rs:=_ }
      by_cases hq:x[j].1 = c[i].id
      · rw [if_pos hq] at es
        rw [← es] at hadd
        generalize liftI c l i (x.take (j + 1)) (liftN c l x i) = a2 at *
        generalize liftI c l i (x.take j) (liftN c l x i) = a1 at *
        generalize raise c l i = q at *
        conv=>lhs; rw [a247l1_run]
        simp (maxSteps:=1000000) (disch:=first | omega | decide) only [si,sf,simprocAttr,a247b1,a247R,hi,hj,hra,hadd,fA,cA,hq]
      · rw [if_neg hq] at es
        rw [es]
        generalize liftI c l i (x.take j) (liftN c l x i) = a1 at *
        conv=>lhs; rw [a247l1_run]
        simp (maxSteps:=1000000) (disch:=first | omega | decide) only [si,sf,simprocAttr,a247b1,a247R,hi,hj,fA,cA,hq]
    have tl:=loop_ind T _ x.length tstep rfl
    have te:run E GP a247l1 (T x.length) = some (.exit 2,{ vars:=[.isl (c.map cA),.isl (x.map fA),.isl (l.map bA),.isl [],.isl ((liftN c l x (i + 1)).map fA),.int .i64 (i:Nat),.int .i64 x.length,.bool true,.bool false,.u],heap:=[],rs:=false }):=by
      show run E GP a247l1 { vars:=_,heap:=_,rs:=_ } = _
      rw [List.take_length,← liftN_succ]
      rw [a247l1_run]
      simp (maxSteps:=1000000) (disch:=first | omega | decide) only [si,sf,simprocAttr,a247b1,a247R,Nat.lt_irrefl]
    rw [te] at tl
    have tl:run E GP a247l1 { vars:=[.isl (c.map cA),.isl (x.map fA),.isl (l.map bA),.isl [],.isl ((liftN c l x i).map fA),.int .i64 (i:Nat),.int .i64 0,.bool true,.u,.u],heap:=[],rs:=false } = _:=tl
    show run E GP a247l0 { vars:=_,heap:=_,rs:=_ } = run E GP a247l0 { vars:=_,heap:=_,rs:=_ }
    generalize liftN c l x (i + 1) = a2 at *
    generalize liftN c l x i = a1 at *
    conv=>lhs; rw [a247l0_run]
    simp (maxSteps:=1000000) (disch:=first | omega | decide) only [si,sf,simprocAttr,a247b0,a247R,hi,tl]
  have hl:=loop_ind S _ c.length hstep rfl
  have he:run E GP a247l0 (S c.length) = some (.exit 0,{ vars:=[.isl (c.map cA),.isl (x.map fA),.isl (l.map bA),.isl [],.isl ((lift c l x).map fA),.int .i64 c.length,.u,.bool false,.u,.u],heap:=[],rs:=false }):=by
    show run E GP a247l0 { vars:=_,heap:=_,rs:=_ } = _
    rw [show liftN c l x c.length = lift c l x from rfl]
    rw [a247l0_run]
    simp (maxSteps:=1000000) (disch:=first | omega | decide) only [si,sf,simprocAttr,a247b0,a247R,Nat.lt_irrefl]
  rw [he] at hl
  have hl:run E GP a247l0 { vars:=[.isl (c.map cA),.isl (x.map fA),.isl (l.map bA),.isl [],.isl [],.int .i64 0,.u,.u,.u,.u],heap:=[],rs:=false } = _:=hl
  simp (maxSteps:=1000000) (disch:=first | omega | decide) only [si,sf,simprocAttr,a247,a247R,hl]
end Tor
namespace Tor
open Go
def homC (c:List Cel) (l:List Int) (n:Int) (i:Nat):List (Int × Int) :=
  add26 (add26 (add26 [] [((c.getD i zC).id,1)] n) (bz c (lift c l [((c.getD i zC).id,1)])) 1) (lift c l (c.getD i zC).b) 1
def homI (c:List Cel) (l:List Int) (n:Int) (i:Nat):Int × List (Int × Int):=((c.getD i zC).id,homC c l n i)
def hom (c:List Cel) (l:List Int) (n:Int):Mp:=(List.range c.length).map (homI c l n)
theorem Good.len11 {c s m} (g:Good c s m) (hm:m ≤ 11):(idsC c).length ≤ 11:=by have:=g.len; simp [idsC]; omega
theorem Good.ids64 {c s m} (g:Good c s m) (hm:m ≤ 11):∀ k ∈ idsC c,in64 k = true:=fun k hk=>by
  obtain ⟨x,hx,rfl⟩:=List.mem_map.1 hk
  have:=g.idr x hx
  simp [in64]; omega
theorem Good.bgc {c s m e} (g:Good c s m) (he:∀ k,s.b k ≤ e) {x:Cel} (hx:x ∈ c):GC (idsC c) e x.b :=
  ⟨g.cn x hx,fun p hp=>Nat.le_trans (g.bd x hx p hp) (pow_le (he _)),fun p hp=>cells_ids _ (g.key x hx p hp)⟩
theorem lift_gc {c:List Cel} (hc:c.length ≤ 11) (l:List Int) {r:Nat} (hr:r ≤ 14000000000) {S:List Int} (hS:S.length ≤ 11) {x:List (Int × Int)} (hx:GC S r x):GC (idsC c) (r + 143) (lift c l x):=by
  have:=hx.len
  have h:=liftN_gc hc l hr hx.bd (by omega) c.length hc
  have hb:c.length * x.length ≤ 11 * 11:=Nat.mul_le_mul hc (by omega)
  exact h.mono (by omega)
theorem bz_gc {c s m e} (g:Good c s m) (hm:m ≤ 11) (he:∀ k,s.b k ≤ e) {u:Nat} {x:List (Int × Int)} (hx:GC (idsC c) u x) (hu:e + u ≤ 14000000000) :
    (∀ H,call E1 GP 7 [.isl (c.map cA),.isl (x.map fA)] H = some (.tup [.isl ((bz c x).map fA),.int .i64 (dim26 c x).2],H,false)) ∧ GC (idsC c) (e + u + 11) (bz c x):=by
  have hl:=g.len11 hm
  have b7:=good_b7 g (by omega) he (hx.ch hl (g.ids64 hm)) (e2:=u) (Nat.le_refl _) (by omega) (by omega)
  have cd:=good_ch g (by omega) he (hx.ch hl (g.ids64 hm)) (e2:=u) (Nat.le_refl _) (by omega) (by omega)
  refine ⟨b7,cd.can,fun p hp=>Nat.le_trans (cd.bd p hp) ?_,?_⟩
  · have e1:2 ^ (e + u + 11) = 2 ^ u * 2 ^ e * 2048:=by rw [Nat.pow_add,Nat.pow_add,Nat.mul_comm (2 ^ e)]
    rw [e1,Nat.mul_assoc (2 ^ u * 2 ^ e)]
    exact Nat.mul_le_mul_left _ (by decide)
  · unfold bz
    split
    · refine bnd_keys c (· ∈ idsC c) x [] (fun p hp q hq=>?_) (fun p hp=>by cases hp)
      obtain ⟨y,hy,hid⟩:=List.mem_map.1 (hx.key p hp)
      rw [← hid,cellC_mem g.ids hy] at hq
      exact cells_ids _ (g.key y hy q hq)
    · exact fun p hp=>(by cases hp)
theorem hom_gc {c s m e} (g:Good c s m) (hm:m ≤ 11) (he:∀ k,s.b k ≤ e) (hee:e ≤ 1000000000) (l:List Int) {n:Int} (hn:-3 ≤ n ∧ n ≤ 3) {i:Nat} (hi:i < c.length) :
    GC (idsC c) (e + 170) (homC c l n i):=by
  have hl:=g.len11 hm
  have hc:c.length ≤ 11:=by have:=g.len; omega
  have hci:c.getD i zC ∈ c:=by simp [List.getD,hi]
  have hid:(c.getD i zC).id ∈ idsC c:=List.mem_map_of_mem hci
  have g1:GC (idsC c) 0 [((c.getD i zC).id,1)]:=GC.one hid (by decide) (by decide)
  have a1:=(gadd hl (GC.nil (u:=0)) g1 (n:=n) (r:=2) (by omega) (u:=7) (by omega) (by omega) (by omega)).2
  have l1:=lift_gc hc l (by omega) hl g1
  have b1:=(bz_gc g hm he l1 (by omega)).2
  have a2:=(gadd hl a1 b1 (n:=1) (r:=0) (by decide) (u:=e + 160) (by omega) (by omega) (by omega)).2
  have l2:=lift_gc hc l (by omega) hl (g.bgc he hci)
  exact (gadd hl a2 l2 (n:=1) (r:=0) (by decide) (u:=e + 170) (by omega) (by omega) (by omega)).2
theorem r29_hom {c s m e} (g:Good c s m) (hm:m ≤ 11) (he:∀ k,s.b k ≤ e) (hee:e ≤ 1000000000) (l:List Int) (hl:l.length ≤ 9223372036854775807) (hl8:∀ x ∈ l,-128 ≤ x ∧ x ≤ 127) {n:Int} (hn:-3 ≤ n ∧ n ≤ 3) (H:Heap) :
    call E1 GP 233 [.isl (c.map cA),.int .i64 n,.isl (l.map bA)] H = some (.isl ((hom c l n).map mA),H,false):=by
  rw [call_fun (free1 _ _ _ (by decide)) (f:=a233) rfl rfl]
  have hl11:=g.len11 hm
  have hc:c.length ≤ 11:=by have:=g.len; omega
  have hd:∀ x ∈ c,0 ≤ x.dim ∧ x.dim ≤ 3:=g.dims
  let W:Nat → List AV:=fun i=>((List.range i).map (homI c l n)).map mA
  have hW:∀ i,(W i).length = i:=fun i=>by simp [W]
  have hWr:∀ i,AV.hasRefs (W i) = false:=fun i=>fl_ref _
  have hWs:∀ i,AV.solids (W i) = true:=fun i=>fl_sol _
  have hWz:∀ i n H k,2 ≤ k → (W i).map (fz n H k) = W i:=fun i n H k hk=>fl_fz (e:=mA) hk
  let S:Nat → St:=fun i=>{ vars:=[.isl (c.map cA),.int .i64 n,.isl (l.map bA),.isl [],.sl 0 i 2 0 i,.int .i64 (i:Nat),.u,.u,.u],heap:=[.arr i 2 (W i)],rs:=false }
  have hstep:∀ i,i < c.length → run E1 GP a233l0 (S i) = run E1 GP a233l0 (S (i + 1)):=by
    intro i hi
    have hci:c.getD i zC ∈ c:=by simp [List.getD,hi]
    have eci:c.getD i zC = c[i]:=by simp [List.getD,hi]
    have hid:(c.getD i zC).id ∈ idsC c:=List.mem_map_of_mem hci
    have g1:GC (idsC c) 0 [((c.getD i zC).id,1)]:=GC.one hid (by decide) (by decide)
    have f1:=fun H=>r26_scale free1 hl11 g1 (n:=n) (r:=2) (by omega) (by omega) H
    have a1:=(gadd hl11 (GC.nil (u:=0)) g1 (n:=n) (r:=2) (by omega) (u:=7) (by omega) (by omega) (by omega)).2
    have f2:=fun H=>r29_lifted free1 c hc hd l hl hl8 (r:=0) (by omega) _ g1.bd (by simp) H
    have l1:=lift_gc hc l (by omega) hl11 g1
    obtain ⟨f3,b1⟩:=bz_gc g hm he l1 (by omega)
    have f3:=fun H=>r26_edge free1 f3 H
    obtain ⟨f4,a2⟩:=gadd hl11 a1 b1 (n:=1) (r:=0) (by decide) (u:=e + 160) (by omega) (by omega) (by omega)
    have f4:=f4 E1 free1
    have gb:=g.bgc he hci
    have f5:=fun H=>r29_lifted free1 c hc hd l hl hl8 (r:=e) (by omega) _ gb.bd (by have:=gb.len; omega) H
    have l2:=lift_gc hc l (by omega) hl11 gb
    have f6:=(gadd hl11 a2 l2 (n:=1) (r:=0) (by decide) (u:=e + 170) (by omega) (by omega) (by omega)).1 E1 free1
    have eW:W (i + 1) = W i ++ [.agg [.int .i64 c[i].id,.isl ((homC c l n i).map fA)]]:=by
      simp only [W,List.range_succ,List.map_append,List.map_cons,List.map_nil,homI,mA,eci]
    have hwi:=hW i
    have hh:homC c l n i = add26 (add26 (add26 [] [((c.getD i zC).id,1)] n) (bz c (lift c l [((c.getD i zC).id,1)])) 1) (lift c l (c.getD i zC).b) 1:=rfl
    rw [← hh] at f6
    rw [eci] at f1 f2 f3 f4 f5 f6
    have ho1:=fun H=>r1_of free1 1 H (by omega) (by omega)
    have hon:=fun H=>r1_of free1 n H (by omega) (by omega)
    have hm1:i + 1 ≤ 4294967296:=by omega
    show run E1 GP a233l0 { vars:=_,heap:=_,rs:=_ } = run E1 GP a233l0 { vars:=_,heap:=_,rs:=_ }
    rw [eW]
    generalize homC c l n i = y at *
    generalize lift c l c[i].b = y1 at *
    generalize add26 (add26 [] [(c[i].id,1)] n) (bz c (lift c l [(c[i].id,1)])) 1 = y2 at *
    generalize bz c (lift c l [(c[i].id,1)]) = y3 at *
    generalize lift c l [(c[i].id,1)] = y4 at *
    generalize add26 [] [(c[i].id,1)] n = y5 at *
    generalize W i = V at *
    simp only [List.map_cons,List.map_nil,fA] at f1 f2
    conv=>lhs; rw [a233l0_run]
    simp (maxSteps:=1000000) (disch:=first | omega | decide) only [si,sf,simprocAttr,a233b0,a233R,hi,cA,ho1,hon,f1,f2,f3,f4,f5,f6,hwi,hm1,maxLenA]
  have hl:=loop_ind S _ c.length hstep rfl
  have he:run E1 GP a233l0 (S c.length) = some (.exit 0,{ vars:=[.isl (c.map cA),.int .i64 n,.isl (l.map bA),.isl [],.sl 0 c.length 2 0 c.length,.int .i64 c.length,.u,.u,.bool false],heap:=[.arr c.length 2 (W c.length)],rs:=false }):=by
    show run E1 GP a233l0 { vars:=_,heap:=_,rs:=_ } = _
    rw [a233l0_run]
    simp (maxSteps:=1000000) (disch:=first | omega | decide) only [si,sf,simprocAttr,a233b0,a233R,Nat.lt_irrefl]
  rw [he] at hl
  have h0:S 0 = { vars:=[.isl (c.map cA),.int .i64 n,.isl (l.map bA),.isl [],.sl 0 0 2 0 0,.int .i64 0,.u,.u,.u],heap:=[.arr 0 2 []],rs:=false }:=rfl
  rw [h0] at hl
  have hwl:=hW c.length
  have hwr:=hWr c.length
  have hws:=hWs c.length
  have hwz:=fun n H=>hWz c.length n H 7 (by omega)
  rw [show (hom c l n).map mA = W c.length from rfl]
  generalize W c.length = V at *
  have htk:V.take c.length = V:=List.take_of_length_le (by omega)
  have hlv:c.length ≤ V.length:=by omega
  simp (maxSteps:=1000000) (disch:=first | omega | decide) only [si,sf,simprocAttr,a233,a233R,hl,hwl,hwr,hws,hwz,htk,hlv,Nat.le_refl]
end Tor
namespace Tor
open Go
def rawA (k:Nat) (ds:List Dg) (a:Nat) (n:Int) (l:List Int):AV:=.agg [.agg [.int .u8 k,.isl (ds.map gA)],.int .u8 a,.int .i8 n,.isl (l.map bA)]
theorem r29_made (k:Nat) (hk:k < 256) (ds:List Dg) (hds:∀ x ∈ ds,x.ok) (hdl:ds.length ≤ 9223372036854775807) (a:Nat) (ha:a < 256) (N:Int) (hN:-128 ≤ N ∧ N ≤ 127) (l:List Int) (hl:l.length ≤ 9223372036854775807) (hl8:∀ x ∈ l,-128 ≤ x ∧ x ≤ 127) :
    ∃ c s m n s2 m2,Good c s m ∧ m ≤ 11 ∧ s.fin = true ∧ n ≤ c.length ∧ Good (c.take n) s2 m2 ∧ m2 ≤ 11 ∧ s2.fin = true ∧
      ∀ H,call E1 GP 212 [rawA k ds a N l] H = some (.tup [.isl ((c.take n).map cA),.isl (c.map cA),.isl (((hom c l (N.tmod 4)).take n).map mA)],H,false):=by
  obtain ⟨c,s,m,g,hm,hf,hpre,hmade⟩:=r26_made2 k hk ds hds
  obtain ⟨e,e1,e2⟩:=fin_e hf
  have hlen:=g.len
  have t1:=Int.tmod_lt_of_pos N (show (0:Int) < 4 by omega)
  have t2:=Int.lt_tmod_of_pos N (show (0:Int) < 4 by omega)
  have hhom:=fun H=>r29_hom g hm e2 e1 l hl hl8 (n:=N.tmod 4) (by omega) H
  have wN:IntKind.i64.wrap (N.tmod 4) = N.tmod 4:=i64w (by omega)
  have wa:IntKind.i64.wrap (a:Int) = a:=i64w (by omega)
  have ta:(a:Int).tmod 3 = ((a % 3:Nat):Int):=by rw [Int.tmod_eq_emod_of_nonneg (by omega)]; push_cast; rfl
  have ha3:a % 3 < 3:=Nat.mod_lt _ (by decide)
  generalize a % 3 = t at *
  obtain ⟨n,hn1,hn2,hgood⟩:∃ n:Nat,n ≤ c.length ∧ (if ((c.length:Int) - t < (c.length:Int) - ds.length ∨ (c.length:Int) - t < 0) then n = c.length else (n:Int) = (c.length:Int) - t) ∧ ∃ s2 m2,Good (c.take n) s2 m2 ∧ m2 ≤ 11 ∧ s2.fin = true:=by
    split
    · refine ⟨c.length,Nat.le_refl _,rfl,?_⟩
      have:=hpre 0 (Nat.zero_le _) (by omega)
      rwa [Nat.sub_zero] at this
    · exact ⟨c.length - t,by omega,by omega,hpre t (by omega) (by omega)⟩
  obtain ⟨s2,m2,q1,q2,q3⟩:=hgood
  refine ⟨c,s,m,n,s2,m2,g,hm,hf,hn1,q1,q2,q3,fun H=>?_⟩
  rw [call_fun (free1 _ _ _ (by decide)) (f:=a212) rfl rfl]
  have hh:(hom c l (N.tmod 4)).length = c.length:=by simp [hom]
  have hrd:=refs_gA ds
  have tk1:List.take n (c.map cA) = (c.take n).map cA:=(List.map_take ..).symm
  generalize hom c l (N.tmod 4) = M at *
  have tk2:List.take n (M.map mA) = (M.take n).map mA:=(List.map_take ..).symm
  have hnM:(n:Int) ≤ (M.length:Int):=by omega
  have hnc:(n:Int) ≤ (c.length:Int):=by omega
  have hu:∀ x:AV,x = .agg [.agg [.int .u8 k,.isl (ds.map gA)],.int .u8 a,.int .i8 N,.isl (l.map bA)] → x.hasRef = false:=fun x hx=>by subst hx; simp [AV.hasRef,AV.hasRefs]
  unfold rawA
  by_cases h1:(c.length:Int) - t < (c.length:Int) - ds.length
  · rw [if_pos (.inl h1)] at hn2
    subst hn2
    simp (maxSteps:=1000000) (disch:=first | omega | decide) only [si,sf,simprocAttr,doBox,bxOf,a212,a212R,hmade,wa,ta,wN,h1,hhom,tk1,tk2,hnM,hnc,hh,hrd]
  · by_cases h2:(c.length:Int) - t < 0
    · rw [if_pos (.inr h2)] at hn2
      subst hn2
      simp (maxSteps:=1000000) (disch:=first | omega | decide) only [si,sf,simprocAttr,doBox,bxOf,a212,a212R,hmade,wa,ta,wN,h1,h2,hhom,tk1,tk2,hnM,hnc,hh,hrd]
    · rw [if_neg (by omega)] at hn2
      rw [← hn2] at h1 h2
      simp (maxSteps:=1000000) (disch:=first | omega | decide) only [si,sf,simprocAttr,doBox,bxOf,a212,a212R,hmade,wa,ta,wN,h1,h2,hhom,← hn2,tk1,tk2,hnM,hnc,hh,hrd]
end Tor
namespace Tor
open Go
variable {E:CallF} (hE:Free E)
include hE
theorem i_cmp (m n:Int) (H:Heap) (hm:(limbs m.natAbs).length < 2147483648) (hn:(limbs n.natAbs).length < 2147483648):call E GP 168 [Z m,Z n] H = some (.int .i64 (cmp3 m n),H,false):=by
  rw [call_fun (hE _ _ _ (by decide)) (f:=a168) rfl rfl]
  have c1:=fun H=>i_compare hE m.natAbs n.natAbs H hm hn
  have c2:=fun H=>i_compare hE n.natAbs m.natAbs H hn hm
  unfold Z
  by_cases h1:m < 0
  · by_cases h2:n < 0
    · have e:cmp3 (n.natAbs:Nat) (m.natAbs:Nat) = cmp3 m n:=by unfold cmp3; split <;> split <;> (try split) <;> (try split) <;> omega
      rw [e] at c2
      simp (maxSteps:=1000000) (disch:=first | omega | decide) only [si,sf,simprocAttr,a168,a168R,h1,h2,c2]
    · have e:cmp3 m n = -1:=by unfold cmp3; rw [if_pos (by omega)]
      rw [e]
      simp (maxSteps:=1000000) (disch:=first | omega | decide) only [si,sf,simprocAttr,a168,a168R,h1,h2]
  · by_cases h2:n < 0
    · have e:cmp3 m n = 1:=by unfold cmp3; rw [if_neg (by omega),if_pos (by omega)]
      rw [e]
      simp (maxSteps:=1000000) (disch:=first | omega | decide) only [si,sf,simprocAttr,a168,a168R,h1,h2]
    · have e:cmp3 (m.natAbs:Nat) (n.natAbs:Nat) = cmp3 m n:=by unfold cmp3; split <;> split <;> (try split) <;> (try split) <;> omega
      rw [e] at c1
      simp (maxSteps:=1000000) (disch:=first | omega | decide) only [si,sf,simprocAttr,a168,a168R,h1,h2,c1]
omit hE in
theorem cmp3_zero (m n:Int):cmp3 m n = 0 ↔ m = n:=by unfold cmp3; split <;> (try split) <;> omega
theorem same1 (p q:Int × Int) (hp:Sm p) (hq:Sm q) (H:Heap):call E GP 248 [fA p,fA q] H = some (.bool (decide (p = q)),H,false):=by
  rw [call_fun (hE _ _ _ (by decide)) (f:=a248) rfl rfl]
  have hc:=fun H=>i_cmp hE p.2 q.2 H (by unfold Sm at hp; omega) (by unfold Sm at hq; omega)
  by_cases hpq:p = q
  · subst hpq
    have e:(cmp3 p.2 p.2) = 0:=(cmp3_zero _ _).2 rfl
    rw [e] at hc
    unfold fA
    simp (maxSteps:=1000000) (disch:=first | omega | decide) only [si,sf,simprocAttr,a248,a248R,hc]
  · unfold fA
    by_cases h1:p.1 = q.1
    · have h2:¬ p.2 = q.2:=fun h=>hpq (Prod.ext h1 h)
      have e:¬ cmp3 p.2 q.2 = 0:=fun h=>h2 ((cmp3_zero _ _).1 h)
      simp (maxSteps:=1000000) (disch:=first | omega | decide) only [si,sf,simprocAttr,a248,a248R,h1,hc,e,hpq]
    · simp (maxSteps:=1000000) (disch:=first | omega | decide) only [si,sf,simprocAttr,a248,a248R,h1,hpq]
theorem eq249 (a b:List (Int × Int)) (ha:∀ p ∈ a,Sm p) (hb:∀ p ∈ b,Sm p) (hs:a.length < 2147483648) (H:Heap) :
    call E GP 249 [.isl (a.map fA),.isl (b.map fA),.fn 248 []] H = some (.bool (decide (a = b)),H,false):=by
  rw [call_fun (hE _ _ _ (by decide)) (f:=a249) rfl rfl]
  by_cases hl:a.length = b.length
  case neg =>
    have e:¬ a = b:=fun h=>hl (by rw [h])
    have hl':¬ ((a.length:Int) = (b.length:Int)):=by omega
    simp (maxSteps:=1000000) (disch:=first | omega | decide) only [si,sf,simprocAttr,a249,a249R,hl',e]
  have hl':((a.length:Int) = (b.length:Int)):=by omega
  have hs1:=fun i (hi:i < a.length) (hj:i < b.length) H=>same1 hE a[i] b[i] (ha _ (List.getElem_mem hi)) (hb _ (List.getElem_mem hj)) H
  let S:Nat → St:=fun i=>{ vars:=[.isl (a.map fA),.isl (b.map fA),.fn 248 [],.bool false,.u,.bool false,.isl (a.map fA),.int .i64 a.length,.int .i64 (i:Nat),.u,.u,.u,.u],heap:=[],rs:=false }
  have hstep:∀ i,i < a.length → (∀ (hi:i < a.length) (hj:i < b.length),a[i] = b[i]) → run E GP a249l0 (S i) = run E GP a249l0 (S (i + 1)):=by
    intro i hi he
    have hj:i < b.length:=by omega
    have h1:=hs1 i hi hj
    have he:=he hi hj
    show run E GP a249l0 { vars:=_,heap:=_,rs:=_ } = run E GP a249l0 { vars:=_,heap:=_,rs:=_ }
    simp only [he,decide_true] at h1
    simp only [fA] at h1
    conv=>lhs; rw [a249l0_run]
    simp (maxSteps:=1000000) (disch:=first | omega | decide) only [si,sf,simprocAttr,a249b0,a249R,hi,hj,fA,he,h1]
  rcases first_bad (fun i=>∀ (hi:i < a.length) (hj:i < b.length),a[i] = b[i]) a.length with hall | ⟨j,hj,hbad,hbefore⟩
  · have e:a = b:=List.ext_getElem hl fun i hi hj=>hall i hi hi hj
    have hlo:=loop_ind S _ a.length (fun i hi=>hstep i hi (hall i hi)) rfl
    have hend:run E GP a249l0 (S a.length) = some (.exit 0,{ vars:=[.isl (a.map fA),.isl (b.map fA),.fn 248 [],.bool false,.u,.bool false,.isl (a.map fA),.int .i64 a.length,.int .i64 a.length,.bool false,.u,.u,.u],heap:=[],rs:=false }):=by
      show run E GP a249l0 { vars:=_,heap:=_,rs:=_ } = _
      rw [a249l0_run]
      simp (maxSteps:=1000000) (disch:=first | omega | decide) only [si,sf,simprocAttr,a249b0,a249R,Nat.lt_irrefl]
    rw [hend] at hlo
    have hlo:run E GP a249l0 { vars:=[.isl (a.map fA),.isl (b.map fA),.fn 248 [],.bool false,.u,.bool false,.isl (a.map fA),.int .i64 a.length,.int .i64 0,.u,.u,.u,.u],heap:=[],rs:=false } = _:=hlo
    have e2:decide (a = b) = true:=by simpa using e
    rw [e2]
    simp only [hl'] at hlo
    simp (maxSteps:=1000000) (disch:=first | omega | decide) only [si,sf,simprocAttr,a249,a249R,hl',hlo]
  · have hjb:j < b.length:=by omega
    have hne:¬ a[j] = b[j]:=fun h=>hbad fun _ _=>h
    have e2:decide (a = b) = false:=by
      simp only [decide_eq_false_iff_not]
      intro h; subst h; exact hne rfl
    rw [e2]
    have hlo:=loop_ind S _ j (fun i hi=>hstep i (by omega) (hbefore i hi)) rfl
    have h1:=hs1 j hj hjb
    simp only [hne,decide_false] at h1
    have hend:∃ w1 w2 w3,run E GP a249l0 (S j) = some (.ret,{ vars:=[.isl (a.map fA),.isl (b.map fA),.fn 248 [],.bool false,w1,.bool false,.isl (a.map fA),.int .i64 a.length,.int .i64 j,.bool true,.bool true,w2,w3],heap:=[],rs:=false }):=by
      refine ⟨.int .i64 j,fA a[j],fA b[j],?_⟩
      show run E GP a249l0 { vars:=_,heap:=_,rs:=_ } = _
      simp only [fA] at h1 ⊢
      rw [a249l0_run]
      simp (maxSteps:=1000000) (disch:=first | omega | decide) only [si,sf,simprocAttr,a249b0,a249R,hj,hjb,fA,h1]
    obtain ⟨w1,w2,w3,hend⟩:=hend
    rw [hend] at hlo
    have hlo:run E GP a249l0 { vars:=[.isl (a.map fA),.isl (b.map fA),.fn 248 [],.bool false,.u,.bool false,.isl (a.map fA),.int .i64 a.length,.int .i64 0,.u,.u,.u,.u],heap:=[],rs:=false } = _:=hlo
    simp only [hl'] at hlo
    simp (maxSteps:=1000000) (disch:=first | omega | decide) only [si,sf,simprocAttr,a249,a249R,hl',hlo]
theorem i_same (a b:List (Int × Int)) (ha:∀ p ∈ a,Sm p) (hb:∀ p ∈ b,Sm p) (hs:a.length < 2147483648) (H:Heap) :
    call E GP 239 [.isl (a.map fA),.isl (b.map fA)] H = some (.bool (decide (a = b)),H,false):=by
  rw [call_fun (hE _ _ _ (by decide)) (f:=a239) rfl rfl]
  have h:=fun H=>eq249 hE a b ha hb hs H
  generalize decide (a = b) = d at *
  simp (maxSteps:=1000000) (disch:=first | omega | decide) only [si,sf,simprocAttr,a239,a239R,h]
end Tor
namespace Tor
open Go
def SmM (m:Mp):Prop:=∀ p ∈ m,(∀ q ∈ p.2,Sm q) ∧ p.2.length < 2147483648
variable {E:CallF} (hE:Free E)
include hE
theorem valid1 (x:Cel) (p:Int × List (Int × Int)) (hp:(∀ q ∈ p.2,Sm q) ∧ p.2.length < 2147483648) (H:Heap) :
    call E GP 236 [cA x,mA p] H = some (.bool (decide (x.id = p.1) && valid26 p.2),H,false):=by
  rw [call_fun (hE _ _ _ (by decide)) (f:=a236) rfl rfl]
  have hv:=fun H=>c_valid hE p.2 hp.1 hp.2 H
  unfold cA mA
  generalize valid26 p.2 = v at *
  by_cases h:x.id = p.1
  · simp (maxSteps:=1000000) (disch:=first | omega | decide) only [si,sf,simprocAttr,a236,a236R,h,hv]
  · simp (maxSteps:=1000000) (disch:=first | omega | decide) only [si,sf,simprocAttr,a236,a236R,h]
def okM (c:List Cel) (m:Mp):Prop:=c.length = m.length ∧ ∀ i (hi:i < c.length) (hj:i < m.length),c[i].id = m[i].1 ∧ valid26 m[i].2 = true
noncomputable instance (c:List Cel) (m:Mp):Decidable (okM c m):=Classical.propDecidable _
theorem eq237 (c:List Cel) (m:Mp) (hm:SmM m) (hs:c.length < 2147483648) (H:Heap) :
    call E GP 237 [.isl (c.map cA),.isl (m.map mA),.fn 236 []] H = some (.bool (decide (okM c m)),H,false):=by
  rw [call_fun (hE _ _ _ (by decide)) (f:=a237) rfl rfl]
  by_cases hl:c.length = m.length
  case neg =>
    have e:¬ okM c m:=fun h=>hl h.1
    have hl':¬ ((c.length:Int) = (m.length:Int)):=by omega
    simp (maxSteps:=1000000) (disch:=first | omega | decide) only [si,sf,simprocAttr,a237,a237R,hl',e]
  have hl':((c.length:Int) = (m.length:Int)):=by omega
  have hs1:=fun i (hi:i < c.length) (hj:i < m.length) H=>valid1 hE c[i] m[i] (hm _ (List.getElem_mem hj)) H
  let S:Nat → St:=fun i=>{ vars:=[.isl (c.map cA),.isl (m.map mA),.fn 236 [],.bool false,.u,.bool false,.isl (c.map cA),.int .i64 c.length,.int .i64 (i:Nat),.u,.u,.u,.u],heap:=[],rs:=false }
  have hstep:∀ i,i < c.length → (∀ (hi:i < c.length) (hj:i < m.length),c[i].id = m[i].1 ∧ valid26 m[i].2 = true) → run E GP a237l0 (S i) = run E GP a237l0 (S (i + 1)):=by
    intro i hi he
    have hj:i < m.length:=by omega
    have h1:=hs1 i hi hj
    obtain ⟨he1,he2⟩:=he hi hj
    show run E GP a237l0 { vars:=_,heap:=_,rs:=_ } = run E GP a237l0 { vars:=_,heap:=_,rs:=_ }
    simp only [he1,he2,decide_true,Bool.and_self] at h1
    simp only [cA,mA] at h1
    conv=>lhs; rw [a237l0_run]
    simp (maxSteps:=1000000) (disch:=first | omega | decide) only [si,sf,simprocAttr,a237b0,a237R,hi,hj,cA,mA,h1]
  rcases first_bad (fun i=>∀ (hi:i < c.length) (hj:i < m.length),c[i].id = m[i].1 ∧ valid26 m[i].2 = true) c.length with hall | ⟨j,hj,hbad,hbefore⟩
  · have e:okM c m:=⟨hl,fun i hi hj=>hall i hi hi hj⟩
    have hlo:=loop_ind S _ c.length (fun i hi=>hstep i hi (hall i hi)) rfl
    have hend:run E GP a237l0 (S c.length) = some (.exit 0,{ vars:=[.isl (c.map cA),.isl (m.map mA),.fn 236 [],.bool false,.u,.bool false,.isl (c.map cA),.int .i64 c.length,.int .i64 c.length,.bool false,.u,.u,.u],heap:=[],rs:=false }):=by
      show run E GP a237l0 { vars:=_,heap:=_,rs:=_ } = _
      rw [a237l0_run]
      simp (maxSteps:=1000000) (disch:=first | omega | decide) only [si,sf,simprocAttr,a237b0,a237R,Nat.lt_irrefl]
    rw [hend] at hlo
    have hlo:run E GP a237l0 { vars:=[.isl (c.map cA),.isl (m.map mA),.fn 236 [],.bool false,.u,.bool false,.isl (c.map cA),.int .i64 c.length,.int .i64 0,.u,.u,.u,.u],heap:=[],rs:=false } = _:=hlo
    have e2:decide (okM c m) = true:=by simpa using e
    rw [e2]
    simp only [hl'] at hlo
    simp (maxSteps:=1000000) (disch:=first | omega | decide) only [si,sf,simprocAttr,a237,a237R,hl',hlo]
  · have hjb:j < m.length:=by omega
    have hne:¬ (c[j].id = m[j].1 ∧ valid26 m[j].2 = true):=fun h=>hbad fun _ _=>h
    have e2:decide (okM c m) = false:=by
      simp only [decide_eq_false_iff_not]
      exact fun h=>hne (h.2 j hj hjb)
    rw [e2]
    have hlo:=loop_ind S _ j (fun i hi=>hstep i (by omega) (hbefore i hi)) rfl
    have h1:=hs1 j hj hjb
    have hb:(decide (c[j].id = m[j].1) && valid26 m[j].2) = false:=by
      cases hv:valid26 m[j].2 with
      | false=>simp
      | true=>rw [hv] at hne; simpa using hne
    rw [hb] at h1
    have hend:∃ w1 w2 w3,run E GP a237l0 (S j) = some (.ret,{ vars:=[.isl (c.map cA),.isl (m.map mA),.fn 236 [],.bool false,w1,.bool false,.isl (c.map cA),.int .i64 c.length,.int .i64 j,.bool true,.bool true,w2,w3],heap:=[],rs:=false }):=by
      refine ⟨.int .i64 j,cA c[j],mA m[j],?_⟩
      show run E GP a237l0 { vars:=_,heap:=_,rs:=_ } = _
      simp only [cA,mA] at h1 ⊢
      rw [a237l0_run]
      simp (maxSteps:=1000000) (disch:=first | omega | decide) only [si,sf,simprocAttr,a237b0,a237R,hj,hjb,cA,mA,h1]
    obtain ⟨w1,w2,w3,hend⟩:=hend
    rw [hend] at hlo
    have hlo:run E GP a237l0 { vars:=[.isl (c.map cA),.isl (m.map mA),.fn 236 [],.bool false,.u,.bool false,.isl (c.map cA),.int .i64 c.length,.int .i64 0,.u,.u,.u,.u],heap:=[],rs:=false } = _:=hlo
    simp only [hl'] at hlo
    simp (maxSteps:=1000000) (disch:=first | omega | decide) only [si,sf,simprocAttr,a237,a237R,hl',hlo]
theorem r29_same (m n:Mp) (hm:SmM m) (hn:SmM n) (hs:m.length < 2147483648) (H:Heap) :
    call E GP 216 [.isl (m.map mA),.isl (n.map mA)] H = some (.bool (decide (m = n)),H,false):=by
  rw [call_fun (hE _ _ _ (by decide)) (f:=a216) rfl rfl]
  by_cases hl:m.length = n.length
  case neg =>
    have e:¬ m = n:=fun h=>hl (by rw [h])
    have hl':¬ ((m.length:Int) = (n.length:Int)):=by omega
    simp (maxSteps:=1000000) (disch:=first | omega | decide) only [si,sf,simprocAttr,a216,a216R,hl',e]
  have hl':((m.length:Int) = (n.length:Int)):=by omega
  have hs1:=fun i (hi:i < m.length) (hj:i < n.length) H=>r26_same hE m[i].2 n[i].2 (hm _ (List.getElem_mem hi)).1 (hn _ (List.getElem_mem hj)).1 (hm _ (List.getElem_mem hi)).2 H
  let S:Nat → St:=fun i=>{ vars:=[.isl (m.map mA),.isl (n.map mA),.bool false,.int .i64 (i:Nat),.bool false,.u,.u],heap:=[],rs:=false }
  have hstep:∀ i,i < m.length → (∀ (hi:i < m.length) (hj:i < n.length),m[i] = n[i]) → run E GP a216l0 (S i) = run E GP a216l0 (S (i + 1)):=by
    intro i hi he
    have hj:i < n.length:=by omega
    have h1:=hs1 i hi hj
    have he:=he hi hj
    show run E GP a216l0 { vars:=_,heap:=_,rs:=_ } = run E GP a216l0 { vars:=_,heap:=_,rs:=_ }
    simp only [he,decide_true] at h1
    conv=>lhs; rw [a216l0_run]
    simp (maxSteps:=1000000) (disch:=first | omega | decide) only [si,sf,simprocAttr,a216b0,a216R,hi,hj,mA,he,h1]
  rcases first_bad (fun i=>∀ (hi:i < m.length) (hj:i < n.length),m[i] = n[i]) m.length with hall | ⟨j,hj,hbad,hbefore⟩
  · have e:m = n:=List.ext_getElem hl fun i hi hj=>hall i hi hi hj
    have hlo:=loop_ind S _ m.length (fun i hi=>hstep i hi (hall i hi)) rfl
    have hend:run E GP a216l0 (S m.length) = some (.exit 0,{ vars:=[.isl (m.map mA),.isl (n.map mA),.bool false,.int .i64 m.length,.bool false,.bool false,.u],heap:=[],rs:=false }):=by
      show run E GP a216l0 { vars:=_,heap:=_,rs:=_ } = _
      rw [a216l0_run]
      simp (maxSteps:=1000000) (disch:=first | omega | decide) only [si,sf,simprocAttr,a216b0,a216R,Nat.lt_irrefl]
    rw [hend] at hlo
    have hlo:run E GP a216l0 { vars:=[.isl (m.map mA),.isl (n.map mA),.bool false,.int .i64 0,.bool false,.u,.u],heap:=[],rs:=false } = _:=hlo
    have e2:decide (m = n) = true:=by simpa using e
    rw [e2]
    simp (maxSteps:=1000000) (disch:=first | omega | decide) only [si,sf,simprocAttr,a216,a216R,hl',hlo]
  · have hjb:j < n.length:=by omega
    have hne:¬ m[j] = n[j]:=fun h=>hbad fun _ _=>h
    have e2:decide (m = n) = false:=by
      simp only [decide_eq_false_iff_not]
      intro h; subst h; exact hne rfl
    rw [e2]
    have hlo:=loop_ind S _ j (fun i hi=>hstep i (by omega) (hbefore i hi)) rfl
    have h1:=hs1 j hj hjb
    have hend:run E GP a216l0 (S j) = some (.ret,{ vars:=[.isl (m.map mA),.isl (n.map mA),.bool false,.int .i64 j,.bool false,.bool true,.bool true],heap:=[],rs:=false }):=by
      show run E GP a216l0 { vars:=_,heap:=_,rs:=_ } = _
      rw [a216l0_run]
      by_cases hq:m[j].1 = n[j].1
      · have hq2:¬ m[j].2 = n[j].2:=fun h=>hne (Prod.ext hq h)
        simp only [hq2,decide_false] at h1
        simp (maxSteps:=1000000) (disch:=first | omega | decide) only [si,sf,simprocAttr,a216b0,a216R,hj,hjb,mA,h1,hq]
      · simp (maxSteps:=1000000) (disch:=first | omega | decide) only [si,sf,simprocAttr,a216b0,a216R,hj,hjb,mA,hq]
    rw [hend] at hlo
    have hlo:run E GP a216l0 { vars:=[.isl (m.map mA),.isl (n.map mA),.bool false,.int .i64 0,.bool false,.u,.u],heap:=[],rs:=false } = _:=hlo
    simp (maxSteps:=1000000) (disch:=first | omega | decide) only [si,sf,simprocAttr,a216,a216R,hl',hlo]
end Tor
namespace Tor
open Go
def incl (c:List Cel):Mp:=c.map fun x=>(x.id,[(x.id,1)])
theorem incl_get (c:List Cel) {i:Nat} (hi:i < c.length):(incl c).take (i + 1) = (incl c).take i ++ [(c[i].id,[(c[i].id,1)])]:=by
  have:i < (incl c).length:=by simpa [incl] using hi
  rw [List.take_succ_eq_append_getElem this]
  simp [incl]
variable {E:CallF} (hE:Free E)
include hE
theorem i_inclusion (c:List Cel) (hc:c.length < 2147483648) (hof:∀ H,call E GP 160 [.int .i64 1] H = some (Z 1,H,false)) (H:Heap) :
    call E GP 214 [.isl (c.map cA)] H = some (.isl ((incl c).map mA),H,false):=by
  rw [call_fun (hE _ _ _ (by decide)) (f:=a214) rfl rfl]
  let W:Nat → List AV:=fun i=>((incl c).take i).map mA
  have hWl:∀ i,i ≤ c.length → (W i).length = i:=fun i hi=>by simp [W,incl]; omega
  let S:Nat → St:=fun i=>{ vars:=[.isl (c.map cA),.isl [],.sl 0 i 2 0 i,.isl (c.map cA),.int .i64 c.length,.int .i64 (i:Nat),.u,.u],heap:=[.arr i 2 (W i)],rs:=false }
  have hstep:∀ i,i < c.length → run E GP a214l0 (S i) = run E GP a214l0 (S (i + 1)):=by
    intro i hi
    have eW:W (i + 1) = W i ++ [.agg [.int .i64 c[i].id,.isl [.agg [.int .i64 c[i].id,Z 1]]]]:=by
      simp only [W,incl_get c hi,List.map_append,List.map_cons,List.map_nil,mA,fA]
    have hwi:=hWl i (by omega)
    have hm1:i + 1 ≤ 4294967296:=by omega
    show run E GP a214l0 { vars:=_,heap:=_,rs:=_ } = run E GP a214l0 { vars:=_,heap:=_,rs:=_ }
    rw [eW]
    generalize W i = V at *
    conv=>lhs; rw [a214l0_run]
    simp (maxSteps:=1000000) (disch:=first | omega | decide) only [si,sf,simprocAttr,a214b0,a214R,hi,cA,hof,hwi,hm1,maxLenA]
  have hl:=loop_ind S _ c.length hstep rfl
  have he:run E GP a214l0 (S c.length) = some (.exit 0,{ vars:=[.isl (c.map cA),.isl [],.sl 0 c.length 2 0 c.length,.isl (c.map cA),.int .i64 c.length,.int .i64 c.length,.bool false,.u],heap:=[.arr c.length 2 (W c.length)],rs:=false }):=by
    show run E GP a214l0 { vars:=_,heap:=_,rs:=_ } = _
    rw [a214l0_run]
    simp (maxSteps:=1000000) (disch:=first | omega | decide) only [si,sf,simprocAttr,a214b0,a214R,Nat.lt_irrefl]
  rw [he] at hl
  have hl:run E GP a214l0 { vars:=[.isl (c.map cA),.isl [],.sl 0 0 2 0 0,.isl (c.map cA),.int .i64 c.length,.int .i64 0,.u,.u],heap:=[.arr 0 2 []],rs:=false } = _:=hl
  have hwl:=hWl c.length (Nat.le_refl _)
  have hwr:AV.hasRefs (W c.length) = false:=fl_ref _
  have hws:AV.solids (W c.length) = true:=fl_sol _
  have hwz:∀ n H,(W c.length).map (fz n H 7) = W c.length:=fun n H=>fl_fz (e:=mA) (by decide)
  have e0:(incl c).map mA = W c.length:=by
    show _ = ((incl c).take c.length).map mA
    rw [List.take_of_length_le (by simp [incl])]
  rw [e0]
  generalize W c.length = V at *
  have htk:V.take c.length = V:=List.take_of_length_le (by omega)
  have hlv:c.length ≤ V.length:=by omega
  simp (maxSteps:=1000000) (disch:=first | omega | decide) only [si,sf,simprocAttr,a214,a214R,hl,hwl,hwr,hws,hwz,htk,hlv,Nat.le_refl]
def compM (m n:Mp):Mp:=m.map fun p=>(p.1,appF (imgF n) p.2)
end Tor
namespace Tor
open Go Go.RowKit Go.Maps Go.Sort Go.Shelf Go.Proofs
open Go.WideElems (Fit rd rg pl rd_val elemAt rd_mk rg_of)
def R0:Value → Option (DataW Nat × List MemPlace):=fun _=>some (.lit (.bool false),[])
theorem in64_wf {n:Int} (h:in64 n = true):(Lit.int .i64 n).wf = true:=by
  have h:-9223372036854775808 ≤ n ∧ n ≤ 9223372036854775807:=of_decide_eq_true h
  simp only [Lit.wf,Bool.and_eq_true,IntKind.min,IntKind.max]
  simp [IntKind.signed,IntKind.bits] at *
  omega
theorem MapR_rd {P:Program} {k:TypeId} (hk:P.underlying k = some (.int .i64)) {C:Cx} {kvs es} (h:MapR C kvs es) (ha:∀ p ∈ kvs,in64 p.1 = true) :
    (∀ x ∈ es,∃ y,rd P k R0 x = some y) ∧ es.map (fun x=>Go.intOf (rg P k R0 x).1) = kvs.map (·.1) ∧ es.length = kvs.length:=by
  induction h with
  | nil=>exact ⟨fun x hx=>(by cases hx),rfl,rfl⟩
  | @cons n x e r es hkey _ _ _ ih =>
    obtain ⟨i1,i2,i3⟩:=ih fun p hp=>ha p (.tail _ hp)
    have hw:=in64_wf (ha (n,x) (.head _))
    have hr:rd P k R0 e = some (.int .i64 n,.lit (.bool false)):=by
      obtain ⟨key,val,born⟩:=e
      simp only at hkey
      subst hkey
      exact rd_mk (R:=R0) (yv:=(.lit (.bool false),[])) (keyOf_int_mk hk hw) rfl
    refine ⟨fun z hz=>?_,?_,by simp [i3]⟩
    · rcases List.mem_cons.1 hz with rfl | hz
      · exact ⟨_,hr⟩
      · exact i1 z hz
    · simp only [List.map_cons,i2,rg_of hr]; rfl
theorem insI_perm (k:Int):∀ l:List Int,(insI k l).Perm (k :: l)
  | []=>.refl _
  | j :: r=>by
    simp only [insI]
    split
    · exact .refl _
    · exact ((insI_perm k r).cons j).trans (.swap k j r)
theorem sortI_perm:∀ l:List Int,(sortI l).Perm l
  | []=>.refl _
  | k :: r=>(insI_perm k _).trans ((sortI_perm r).cons k)
theorem insI_le (k:Int):∀ l:List Int,l.Pairwise (fun a b=>leI a b = true) → (insI k l).Pairwise (fun a b=>leI a b = true)
  | [],_=>by simp [insI]
  | j :: r,h=>by
    rw [List.pairwise_cons] at h
    simp only [insI]
    split
    · rename_i hkj
      refine List.pairwise_cons.2 ⟨fun q hq=>?_,List.pairwise_cons.2 h⟩
      simp only [leI,decide_eq_true_eq]
      rcases List.mem_cons.1 hq with rfl | hq
      · exact hkj
      · have:=h.1 q hq; simp only [leI,decide_eq_true_eq] at this; omega
    · refine List.pairwise_cons.2 ⟨fun q hq=>?_,insI_le k r h.2⟩
      simp only [leI,decide_eq_true_eq]
      rcases (mem_insI k q r).1 hq with e | e
      · omega
      · have:=h.1 q e; simpa only [leI,decide_eq_true_eq] using this
theorem sortI_le:∀ l:List Int,(sortI l).Pairwise (fun a b=>leI a b = true)
  | []=>.nil
  | k :: r=>insI_le k _ (sortI_le r)
theorem sortI_of_perm {l l':List Int} (h:l.Perm l'):l.mergeSort leI = sortI l':=by
  have tr:∀ a b c:Int,leI a b = true → leI b c = true → leI a c = true:=fun a b c h1 h2=>by simp only [leI,decide_eq_true_eq] at *; exact Int.le_trans h1 h2
  have to:∀ a b:Int,(leI a b || leI b a) = true:=fun a b=>by simp only [leI,Bool.or_eq_true,decide_eq_true_eq]; exact Int.le_total a b
  refine List.Perm.eq_of_pairwise (le:=fun a b=>leI a b = true) (fun a b _ _ h1 h2=>?_) (List.pairwise_mergeSort tr to l) (sortI_le l') (((List.mergeSort_perm l leI).trans h).trans (sortI_perm l').symm)
  simp only [leI,decide_eq_true_eq] at h1 h2
  exact Int.le_antisymm h1 h2
theorem E1_inv {g args H r H' b} (h:E1 g args H = some (r,H',b)) :
    g = 56 ∧ b = false ∧ H' = H ∧ ∃ o kvs,args = [.fn 72 [.bx o]] ∧ H[o]? = some (.map kvs) ∧ kvs.length ≤ 1000000 ∧ (∀ p ∈ kvs,in64 p.1 = true) ∧ r = .isl ((sortI (kvs.map (·.1))).map iA):=by
  unfold E1 at h
  split at h
  case isFalse=>cases h
  rename_i hg
  unfold sortArgs at h
  split at h
  case h_2=>cases h
  rename_i o
  unfold sortedKeys at h
  split at h
  case h_2=>cases h
  rename_i kvs ho
  split at h
  case isFalse=>cases h
  rename_i hh
  simp only [Option.some.injEq,Prod.mk.injEq] at h
  obtain ⟨rfl,rfl,rfl⟩:=h
  exact ⟨hg,rfl,rfl,o,kvs,rfl,ho,hh.1,fun p hp=>(List.all_eq_true.1 hh.2) p hp,rfl⟩
theorem E1_keeps:CKeeps E1:=by
  intro g a H x H' b h _
  obtain ⟨_,rfl,rfl,_⟩:=E1_inv h
  exact Keeps.refl _
theorem E1_sound {P:Program} {ι:Nat → FuncId} {ρ ρ':Ren} (LK:SlLaysZI.n10 P ρ) (LS:SlLaysZI.n6 P ρ') (hS:∀ m,AnyZI.SortsIn P ρ' Fence.wide m) (e6:Enters P (ρ'.f 6)) (e9:Enters P (ρ'.f 9)) (eg:Enters P (ρ.f 10))
    (h72:ι 72 = ρ.f 10) (h56:ι 56 = ρ'.f 6):SoundC P ι E1:=by
  intro g args H r H' b h base C vals hι hs hr
  obtain ⟨rfl,rfl,rfl,o,kvs,rfl,ho,hlen,hin,rfl⟩:=E1_inv h
  cases hr with
  | cons hx hr =>
    cases hr
    rename_i v
    have hv:∃ a bm,v = .func (.func (C.ι 72)) #[] #[.pointer (some ⟨a,0,none⟩)] ∧ C.β o 0 = some (some (bm,0)) ∧ C.F a ∧ cellsAt C.w a 0 [.map (some bm)]:=by
      rcases hx with (e | ⟨h1,h2⟩) | ⟨l,vs,e,_⟩
      · cases e
      · simp only [AV.isA] at h2
        rw [cells_one h2] at h1
        simp only [Rc,List.cons.injEq,and_true] at h1
        obtain ⟨_,vs,rfl,hl⟩:=h1
        simp only [Rcl,Rc] at hl
        obtain ⟨c,r,e,⟨a,bm,h3,rfl,h4,h5⟩,rfl⟩:=hl
        obtain ⟨vs⟩:=vs
        cases vs with
        | nil=>cases e
        | cons x t =>
          cases t with
          | nil=>simp at e; subst e; exact ⟨a,bm,rfl,h3,h4,h5⟩
          | cons y t=>simp at e
      · cases e
    obtain ⟨a,bm,rfl,hβ,hF,hc⟩:=hv
    obtain ⟨b2,es,clock,hβ2,hb,hm,hge,hnF⟩:=(hs.obj o _ ho).1
    rw [hβ] at hβ2
    obtain rfl:bm = b2:=by simpa using hβ2
    obtain ⟨k1,k2,k3⟩:=MapR_rd LK.t26 hm.1 hin
    have hown:C.w.ownsMap P (ρ.t 26) R0 bm 1000000 (.map ((es.toList.map (rg P (ρ.t 26) R0)).foldr DataW.insert [])) :=
      ⟨es,clock,hb,⟨by rw [← Array.length_toList,k3]; unfold maxLen; omega,hm.2,k1⟩,by rw [← Array.length_toList,k3]; exact hlen,rfl⟩
    have ha:a < C.w.heap.size:=hs.fsz a hF
    have hcell:C.w.cell? ⟨a,0,none⟩ = some (.map (some bm)):=by simpa using hc 0 _ rfl
    have hsz:Maps.size (.map ((es.toList.map (rg P (ρ.t 26) R0)).foldr DataW.insert []):DataW Nat) ≤ 1000000:=hown.size_le
    have hseq:SeqGives Fence.wide 2 P (ρ.f 10) #[.pointer (some ⟨a,0,none⟩)] encZ _ _ C.w:=AnyZI.keys_gives LK Fence.wide _ trivial rfl (by omega) a bm _ _ C.w ha hcell hown
    have cS:=AnyZI.sorted_in LS Fence.wide 5 trivial trivial trivial trivial rfl (by omega) (hS _) e9 (ρ.f 10) #[.pointer (some ⟨a,0,none⟩)] trivial eg _ _ (by unfold maxLen; omega) (by omega) _ hseq
    have cS:=callsIn_wide.1 cS
    unfold Called
    rw [h56,e6 _ C.w]
    rw [hι,h72]
    refine Calls.mono cS fun e w' he=>?_
    obtain ⟨v,ss,rfl,hp,hrow,hnil,hbel⟩:=he
    have hkeys:intKeys (.map ((es.toList.map (rg P (ρ.t 26) R0)).foldr DataW.insert []):DataW Nat) = _:=rfl
    have hperm:ss.Perm (kvs.map (·.1)):=by
      refine hp.trans ?_
      rw [← k2]
      have:=(Go.WideShapes.sorted_perm (es.toList.map (rg P (ρ.t 26) R0))).map (fun (p:Lit × DataW Nat)=>Go.intOf p.1)
      simpa [intKeys,Function.comp_def] using this
    have hsort:=sortI_of_perm hperm
    rw [show (fun x y:Int=>decide (x ≤ y)) = leI from rfl,hsort] at hrow
    have hsl:(sortI (kvs.map (·.1))).length = ss.length:=by rw [← hsort]; simp
    let C':Cx:={ C with w:=w',F:=fun x=>C.F x ∨ (C.w.heap.size ≤ x ∧ v.ownBlock = some x) }
    have hob:∀ x,v.ownBlock = some x → C.w.heap.size ≤ x ∧ x < w'.heap.size:=by
      intro x hx
      rcases hrow.2 with ⟨rfl,_⟩ | ⟨g,cap,cur,rfl,hbase,hg,_⟩
      · cases hx
      · simp only [Value.ownBlock,Option.some.injEq] at hx
        subst hx
        exact ⟨hbase,lt_of_heap hg⟩
    have hle:Le C C':=⟨rfl,fun _ h=>.inl h,fun _ _ _ h=>h,fun x hx=>hbel.block x (hs.fsz x hx),fun x s hx=>(by
      have hlt:x < C.w.heap.size:=by
        unfold World.shape? at hx
        split at hx
        · rename_i hh; exact lt_of_heap hh
        · cases hx
      rw [← hx]; show w'.shape? x = _
      unfold World.shape?
      rw [hbel.block x hlt])⟩
    have hsim:Sim base C' H':=hs.world hle (fun x hx=>by
      rcases hx with hx | ⟨h1,h2⟩
      · exact ⟨Nat.lt_of_lt_of_le (hs.fsz x hx) hbel.size,.inl hx⟩
      · exact ⟨(hob x h2).2,.inr h1⟩) (fun _ _=>rfl) hbel.size (fun x hx _ _=>hbel.block x hx)
    refine ⟨C',rfl,⟨hle,hsim,hbel.mono hs.bsz,fun x hx=>?_,fun x hx hnx hno=>⟨hbel.block x hx,fun h=>h.elim hnx (fun h=>by omega),fun o1 ob1 h1 hb1=>hno o1 ob1 h1 hb1⟩⟩,?_⟩
    · rcases hx with hx | ⟨h1,_⟩
      · exact .inl hx
      · exact .inr (Nat.le_trans hs.bsz h1)
    · have hlit:∀ (zs:List Int),Rcl C' (zs.map iA) (zs.map fun z=>[encZ z]):=by
        intro zs
        induction zs with
        | nil=>simp [Rcl]
        | cons z r ih=>simp only [List.map_cons,Rcl,Rc,iA]; exact ⟨_,_,rfl,rfl,ih⟩
      have hnr:∀ (zs:List Int),AV.hasRefs (zs.map iA) = false:=by
        intro zs
        induction zs with
        | nil=>rfl
        | cons z r ih=>simp only [List.map_cons,AV.hasRefs,iA,AV.hasRef,Bool.false_or,ih]
      rcases hrow.2 with ⟨rfl,hz⟩ | ⟨g,cap,cur,rfl,hbase,hg,hcap,hmax,hsize,htake⟩
      · refine Rv_one ?_ rfl rfl
        simp only [Rc]
        refine ⟨hnr _,_,rfl,none,0,by simp [hsl,hz],.inl (by simp [hsl,hz])⟩
      · refine Rv_one ?_ rfl rfl
        simp only [Rc]
        refine ⟨hnr _,_,rfl,_,cap,by simp [hsl],.inr ⟨g,0,(sortI (kvs.map (·.1))).map fun z=>[encZ z],1,rfl,.inr ⟨hbase,rfl⟩,by simpa [hsl] using hcap,hlit _,fun c hc=>?_,?_⟩⟩
        · obtain ⟨z,_,rfl⟩:=List.mem_map.1 hc; rfl
        · intro i x hx
          have hfl:((sortI (kvs.map (·.1))).map fun z=>[encZ z]).flatten = (sortI (kvs.map (·.1))).map encZ:=by
            induction sortI (kvs.map (·.1)) with
            | nil=>rfl
            | cons z r ih=>simp [ih]
          rw [hfl,← htake] at hx
          have h1:cur.toList[i]? = some x:=by
            rw [List.getElem?_take] at hx
            split at hx
            · exact hx
            · cases hx
          simp only [World.cell?,Nat.zero_add]
          show (match w'.heap[g]? with | _=>_) = _
          rw [hg]
          simpa using h1
end Tor
namespace Tor
open Go Go.RowKit
structure OnceS (P:Program) (f:FuncId):Prop where
  ty:∃ t,sizeB P t = some 1
  enters:∀ args w,(callFunc f args).run P w = .ok (.enter f args) w
  done:∀ (a:Addr) (d:Int) (fv:Value) (w:World),¬ d = 0 → w.cell? a = some (.int .u32 d) → Calls P f #[.pointer (some a),fv] w fun e w'=>e = .returned (.tuple #[]) ∧ w' = w
  first:∀ (b off:Nat) (c:FuncId) (caps:Array Value) (R:World → Prop) (w:World),(∀ w,(callFunc c caps).run P w = .ok (.enter c caps) w) →
    w.cell? ⟨b,off,none⟩ = some (.int .u32 0) → w.cell? ⟨b,off + 1,none⟩ = some (.int .i32 0) → w.frozen? ⟨b,off,none⟩ = false → w.frozen? ⟨b,off + 1,none⟩ = false →
    (Calls P c caps (w.setCell ⟨b,off + 1,none⟩ (.int .i32 1)) fun e w2=>e = .returned (.tuple #[]) ∧ w2.cell? ⟨b,off,none⟩ = some (.int .u32 0) ∧ w2.cell? ⟨b,off + 1,none⟩ = some (.int .i32 1) ∧
      w2.frozen? ⟨b,off,none⟩ = false ∧ w2.frozen? ⟨b,off + 1,none⟩ = false ∧ R w2) →
    Calls P f #[.pointer (some ⟨b,off,none⟩),.func (.func c) #[] caps] w fun e w'=>e = .returned (.tuple #[]) ∧
      ∃ w2,R w2 ∧ w' = (w2.drew.setCell ⟨b,off,none⟩ (.int .u32 1)).setCell ⟨b,off + 1,none⟩ (.int .i32 0)
def dnA (o:Nat) (p:List (Nat × Nat)):AV:=.ptr o 0 (p ++ [(1,0),(1,0)])
def stA (o:Nat) (p:List (Nat × Nat)):AV:=.ptr o 0 (p ++ [(2,1),(1,0),(0,0)])
def onceH (b:Bool):Option (AV × Heap × Bool) → Option (AV × Heap × Bool)
  | some (_,H,_)=>some (.tup [],H,b)
  | none=>none
def onceG2 (o:Nat) (p:List (Nat × Nat)) (b:Bool) (H:Heap):Option AV → Option (AV × Heap × Bool)
  | some (.int .i32 _)=>onceH b (doStore 1 H (stA o p) (.int .i32 0))
  | _=>none
def onceG (o:Nat) (p:List (Nat × Nat)) (b:Bool):Option (AV × Heap × Bool) → Option (AV × Heap × Bool)
  | some (_,H,_)=>onceG2 o p b H (doLoad false 1 H (stA o p))
  | none=>none
def onceF (o:Nat) (p:List (Nat × Nat)) (b:Bool) (H:Heap):Option AV → Option (AV × Heap × Bool)
  | some (.int .i32 m)=>if m = 1 then onceG o p b (doStore 1 H (dnA o p) (.int .u32 1)) else none
  | _=>none
def onceE (o:Nat) (p:List (Nat × Nat)) (b:Bool) (H:Heap):Option AV → Option (AV × Heap × Bool)
  | some (.int .u32 d)=>if d = 0 then onceF o p b H (doLoad false 1 H (stA o p)) else none
  | _=>none
def onceD (o:Nat) (p:List (Nat × Nat)):Option (AV × Heap × Bool) → Option (AV × Heap × Bool)
  | some (.tup [],H,b)=>onceE o p b H (doLoad false 1 H (dnA o p))
  | _=>none
def onceC (K:CallF) (o:Nat) (p:List (Nat × Nat)) (c:Nat) (caps:List AV):Option (AV × Heap × Bool) → Option (AV × Heap × Bool)
  | some (_,H,_)=>if (GP c).isSome = true then onceD o p (K c caps H) else none
  | none=>none
def onceB (K:CallF) (o:Nat) (p:List (Nat × Nat)) (c:Nat) (caps:List AV) (H:Heap):Option AV → Option (AV × Heap × Bool)
  | some (.int .i32 m)=>if m = 0 then onceC K o p c caps (doStore 1 H (stA o p) (.int .i32 1)) else none
  | _=>none
def onceA (K:CallF) (o:Nat) (p:List (Nat × Nat)) (c:Nat) (caps:List AV) (H:Heap):Option AV → Option (AV × Heap × Bool)
  | some (.int .u32 d)=>if d = 0 then onceB K o p c caps H (doLoad false 1 H (stA o p)) else some (.tup [],H,false)
  | _=>none
def onceCall (K:CallF) (H:Heap):List AV → Option (AV × Heap × Bool)
  | [.ptr o 0 p,.fn c caps]=>onceA K o p c caps H (doLoad false 1 H (dnA o p))
  | _=>none
noncomputable def E2:CallF:=fun g args H=>if g = 253 then onceCall (call E1 GP) H args else E1 g args H
section
variable {P:Program} {base:Nat} {C:Cx} {H:Heap}
theorem offs_app (p q:List (Nat × Nat)):offs (p ++ q) = offs p + offs q:=by simp [offs]
theorem cell_of (hs:Sim base C H) {o q k n b bs} (hβ:C.β o 0 = some (some (b,bs))) (h:doLoad false 1 H (.ptr o 0 q) = some (.int k n)) :
    C.w.cell? ⟨b,bs + offs q,none⟩ = some (.int k n) ∧ C.w.frozen? ⟨b,bs + offs q,none⟩ = false:=by
  simp only [doLoad] at h
  cases ho:H[o]? with
  | none=>rw [ho] at h; cases h
  | some ob =>
    rw [ho] at h
    simp only [getIn] at h
    cases hg:objGet ob 0 q with
    | none=>rw [hg] at h; cases h
    | some y =>
      rw [hg] at h
      simp only [fits] at h
      split at h
      case isFalse=>cases h
      cases h
      obtain ⟨b',bs',ys,h1,h2,h3⟩:=objGet_ok hs ho hg
      rw [hβ] at h1
      simp only [Option.some.injEq,Prod.mk.injEq] at h1
      obtain ⟨rfl,rfl⟩:=h1
      simp only [Rc] at h2
      subst h2
      have hc:=h3 0 _ rfl
      refine ⟨by simpa using hc,?_⟩
      obtain ⟨hok,_⟩:=hs.obj o ob ho
      have hfr:∀ {c e},C.w.heap[b]? = some (.cells c e (0,0)) → C.w.frozen? ⟨b,bs + offs q,none⟩ = false:=fun hh=>by simp [World.frozen?,hh]
      cases ob with
      | var x =>
        obtain ⟨b2,c,e,q1,q2,_⟩:=hok
        rw [hβ] at q1
        simp only [Option.some.injEq,Prod.mk.injEq] at q1
        obtain ⟨rfl,_⟩:=q1
        exact hfr q2
      | arr g' sz l =>
        simp only [objGet] at hg
        cases q with
        | nil=>cases hg
        | cons i q =>
          obtain ⟨i,off⟩:=i
          simp only [objGet] at hg
          split at hg
          case isFalse=>cases hg
          rename_i hg2
          obtain ⟨rfl,_⟩:=hg2
          rcases hok with ⟨q1,_⟩ | ⟨b2,bs2,c,e,pre,css,post,q1,q2,_⟩
          · rw [hβ] at q1; cases q1
          · rw [hβ] at q1
            simp only [Option.some.injEq,Prod.mk.injEq] at q1
            obtain ⟨rfl,_⟩:=q1
            exact hfr q2
      | map kvs=>cases hg
      | dead=>cases hg
theorem put_cell (hs:Sim base C H) (hty:∃ t,sizeB P t = some 1) {o q k n k' n' b bs y H' b'} (hβ:C.β o 0 = some (some (b,bs))) (hl:doLoad false 1 H (.ptr o 0 q) = some (.int k' n')) (h:doStore 1 H (.ptr o 0 q) (.int k n) = some (y,H',b')) :
    ∃ C',C'.w = C.w.setCell ⟨b,bs + offs q,none⟩ (.int k n) ∧ OStep base C H C' H':=by
  obtain ⟨t,ht⟩:=hty
  obtain ⟨hc,hf⟩:=cell_of hs hβ hl
  obtain ⟨C',h1,h2,_⟩:=store_ok (P:=P) (v:=.pointer (some ⟨b,bs + offs q,none⟩)) (u:=.int k n) hs ht (Rv_one (by simp only [Rc]; exact ⟨b,bs,hβ,rfl⟩) rfl rfl) (mk_int k n) h
  refine ⟨C',?_,h2⟩
  have h3:(Instr.storeAt t (.pointer (some ⟨b,bs + offs q,none⟩)) (.int k n)).run P C.w = .ok () (C.w.setCell ⟨b,bs + offs q,none⟩ (.int k n)):=by
    simp only [Instr.storeAt,Instr.sureAddr,Sem.run_bind,Sem.run_pure,Result.andThen_ok,storeVar,run_sizeOf ht]
    simp [go_sem,hc,hf,Value.cells]
  rw [h1] at h3
  injection h3
theorem caps_Rvs:∀ (l:List AV) (vs:List Value),(∀ x ∈ l,x.isA = false) → Rcl C l (vs.map fun v=>[v]) → Rvs C l vs
  | [],vs,_,h=>by
    simp only [Rcl,List.map_eq_nil_iff] at h
    subst h; exact .nil
  | x :: l,vs,ha,h=>by
    simp only [Rcl] at h
    obtain ⟨c,r,e,h1,h2⟩:=h
    cases vs with
    | nil=>cases e
    | cons v vs =>
      simp only [List.map_cons,List.cons.injEq] at e
      obtain ⟨rfl,rfl⟩:=e
      refine .cons (Rv_one h1 (ha x (.head _)) ?_) (caps_Rvs l vs (fun y hy=>ha y (.tail _ hy)) h2)
      have:=Rc_one x [v] h1 v (by simp)
      cases v <;> first | rfl | cases this
theorem onceH_inv {b x r} (h:onceH b x = some r):∃ y H b',x = some (y,H,b') ∧ r = (.tup [],H,b):=by
  cases x with
  | none=>cases h
  | some q=>obtain ⟨y,H,b'⟩:=q; cases h; exact ⟨y,H,b',rfl,rfl⟩
theorem onceD_inv {o p x r} (h:onceD o p x = some r):∃ H2 b y H3 b3 y4 H4 b4 m,x = some (.tup [],H2,b) ∧ doLoad false 1 H2 (dnA o p) = some (.int .u32 0) ∧ doLoad false 1 H2 (stA o p) = some (.int .i32 1) ∧
    doStore 1 H2 (dnA o p) (.int .u32 1) = some (y,H3,b3) ∧ doLoad false 1 H3 (stA o p) = some (.int .i32 m) ∧ doStore 1 H3 (stA o p) (.int .i32 0) = some (y4,H4,b4) ∧ r = (.tup [],H4,b):=by
  unfold onceD at h
  split at h
  case h_2=>cases h
  rename_i H2 b
  cases h1:doLoad false 1 H2 (dnA o p) with
  | none=>rw [h1] at h; cases h
  | some z =>
    rw [h1] at h
    unfold onceE at h
    split at h
    case h_2=>cases h
    rename_i d e
    cases e
    split at h
    case isFalse=>cases h
    rename_i hd
    subst hd
    cases h2:doLoad false 1 H2 (stA o p) with
    | none=>rw [h2] at h; cases h
    | some z =>
      rw [h2] at h
      unfold onceF at h
      split at h
      case h_2=>cases h
      rename_i d e
      cases e
      split at h
      case isFalse=>cases h
      rename_i hd
      subst hd
      cases h3:doStore 1 H2 (dnA o p) (.int .u32 1) with
      | none=>rw [h3] at h; cases h
      | some q =>
        obtain ⟨y,H3,b3⟩:=q
        rw [h3] at h
        simp only [onceG] at h
        cases h5:doLoad false 1 H3 (stA o p) with
        | none=>rw [h5] at h; cases h
        | some z =>
          rw [h5] at h
          unfold onceG2 at h
          split at h
          case h_2=>cases h
          rename_i m e
          cases e
          obtain ⟨y4,H4,b4,h4,e⟩:=onceH_inv h
          exact ⟨H2,b,y,H3,b3,y4,H4,b4,m,rfl,h1,h2,h3,h5,h4,e⟩
theorem Step_le_β {ent:Nat} {C':Cx} {H':Heap} (h:Step base ent C H C' H') {o g q} (hq:C.β o g = some q):C'.β o g = some q:=h.le.β o g q hq
theorem E2_sound {ι:Nat → FuncId} {pureF:Nat → Bool} (T:Tied P ι pureF E1 GP) (O:OnceS P (ι 253)):SoundC P ι E2:=by
  intro g args H r H' b h base C vals hι hs hr
  unfold E2 at h
  split at h
  case isFalse=>exact T.soundE g args H r H' b h base C vals hι hs hr
  rename_i hg
  subst hg
  unfold onceCall at h
  split at h
  case h_2=>cases h
  rename_i o p c caps
  cases hr with
  | cons r1 hr =>
  cases hr with
  | cons r2 hr =>
  cases hr
  obtain ⟨bq,bs,hβ,rfl⟩:=Rv_ptr r1
  obtain ⟨vs,rfl,hcl,hca⟩:=Rv_fn r2
  have hcaps:=caps_Rvs caps vs.toList hca hcl
  have o1:offs (p ++ [(1,0),(1,0)]) = offs p:=by rw [offs_app]; simp [offs]
  have o2:offs (p ++ [(2,1),(1,0),(0,0)]) = offs p + 1:=by rw [offs_app]; simp [offs]
  cases h1:doLoad false 1 H (dnA o p) with
  | none=>rw [h1] at h; cases h
  | some z =>
  rw [h1] at h
  unfold onceA at h
  split at h
  case h_2=>cases h
  rename_i d e
  cases e
  obtain ⟨c1,f1⟩:=cell_of hs hβ h1
  rw [o1] at c1 f1
  unfold Called
  rw [O.enters]
  split at h
  case isFalse hd =>
    cases h
    refine Calls.mono (O.done ⟨bq,bs + offs p,none⟩ d _ C.w hd c1) ?_
    rintro e w' ⟨rfl,rfl⟩
    exact ⟨C,rfl,Step.refl hs,Rv_tup_mk (vs:=[]) .nil⟩
  rename_i hd
  subst hd
  cases h2:doLoad false 1 H (stA o p) with
  | none=>rw [h2] at h; cases h
  | some z =>
  rw [h2] at h
  unfold onceB at h
  split at h
  case h_2=>cases h
  rename_i m e
  cases e
  split at h
  case isFalse=>cases h
  rename_i hm
  subst hm
  obtain ⟨c2,f2⟩:=cell_of hs hβ h2
  rw [o2,← Nat.add_assoc] at c2 f2
  cases h3:doStore 1 H (stA o p) (.int .i32 1) with
  | none=>rw [h3] at h; cases h
  | some q =>
  obtain ⟨y1,H1,b1⟩:=q
  rw [h3] at h
  simp only [onceC] at h
  split at h
  case isFalse=>cases h
  rename_i hGP
  obtain ⟨H2,b2,y3,H3,b3,y4,H4,b4,m3,hK,l1,l2,s1,l3,s2,e⟩:=onceD_inv h
  cases e
  obtain ⟨C1,hw1,st1⟩:=put_cell hs O.ty hβ h2 h3
  rw [o2,← Nat.add_assoc] at hw1
  have hen:∀ w,(callFunc (C.ι c) vs).run P w = .ok (.enter (C.ι c) vs) w:=by
    intro w
    obtain ⟨f,hf⟩:=Option.isSome_iff_exists.1 hGP
    obtain ⟨k,fn,rfl,rfl,rfl,hfn,hok⟩:=T.funs c f hf
    unfold funOk at hok
    simp only [Bool.and_eq_true] at hok
    obtain ⟨⟨⟨⟨⟨⟨⟨q1,_⟩,_⟩,_⟩,_⟩,_⟩,_⟩,q8⟩:=hok
    have hname:(fn.name == "runtime.NumGoroutine") = false:=by simpa using q8
    rw [hι]
    cases hb:fn.body with
    | none=>rw [hb] at q1; cases q1
    | some cc=>simp [callFunc,hfn,beq_eq_false_iff_ne.1 hname,hb]
  have hcall:=call_sound T c caps H1 _ _ _ hK base C1 vs.toList (st1.le.ι.trans hι) st1.sim (Rvs_le st1.le hcaps)
  unfold Called at hcall
  rw [Array.toArray_toList,← hι,hen,hw1] at hcall
  have hβ1:=Step_le_β st1 hβ
  refine Calls.mono (O.first bq (bs + offs p) (C.ι c) vs (fun w2=>∃ C2,C2.w = w2 ∧ OStep base C1 H1 C2 H2) C.w hen c1 c2 f1 f2 (Calls.mono hcall ?_)) ?_
  · rintro e w2 he
    cases e with
    | panicked _=>exact he.elim
    | outgrown=>exact he.elim
    | returned v =>
      obtain ⟨C2,rfl,st2,hv⟩:=he
      have hβ2:=Step_le_β st2 hβ1
      obtain ⟨a1,a2⟩:=cell_of st2.sim hβ2 l1
      obtain ⟨a3,a4⟩:=cell_of st2.sim hβ2 l2
      rw [o1] at a1 a2
      rw [o2,← Nat.add_assoc] at a3 a4
      obtain ⟨vs2,rfl,hvl⟩:=Rv_tup hv
      have:vs2 = #[]:=by
        obtain ⟨vs2⟩:=vs2
        cases hvl; rfl
      subst this
      exact ⟨rfl,a1,a3,a2,a4,C2,rfl,st2⟩
  · rintro e w' ⟨rfl,w2,⟨C2,rfl,st2⟩,rfl⟩
    have hβ2:=Step_le_β st2 hβ1
    have st3:=st2.sim.redrawn (C2.w.drawn + 1) (Nat.le_refl _)
    have hβ3:=Step_le_β st3 hβ2
    obtain ⟨C4,hw4,st4⟩:=put_cell st3.sim O.ty hβ3 l1 s1
    have hβ4:=Step_le_β st4 hβ3
    obtain ⟨C5,hw5,st5⟩:=put_cell st4.sim O.ty hβ4 l3 s2
    rw [o1] at hw4
    rw [o2,← Nat.add_assoc,hw4] at hw5
    have z1:C.w.heap.size ≤ C1.w.heap.size:=st1.below.4
    have z2:C1.w.heap.size ≤ C2.w.heap.size:=st2.below.4
    have z4:C2.w.heap.size ≤ C4.w.heap.size:=st4.below.4
    refine ⟨C5,hw5,st1.trans ((st2.trans ((st3.trans ((st4.trans (st5.ent_le z4)))).ent_le z2)).ent_le z1),Rv_tup_mk (vs:=[]) .nil⟩
end
theorem store_keeps {H:Heap} {o q k n y H' b} (h:doStore 1 H (.ptr o 0 q) (.int k n) = some (y,H',b)):Keeps H H':=by
  simp only [doStore] at h
  split at h
  · cases ho:H[o]? with
    | none=>rw [ho] at h; cases h
    | some ob =>
      rw [ho] at h
      simp only [setIn] at h
      cases hs:objSet ob 0 q (.int k n) with
      | none=>rw [hs] at h; cases h
      | some ob' =>
        rw [hs] at h
        cases h
        exact keeps_set ho fun m hu=>objSet_under hs hu rfl
  · cases h
theorem call_keeps {E:CallF} {GP} (hE:CKeeps E):CKeeps (call E GP):=by
  intro g a H x H' b h
  obtain ⟨n,hn⟩:=call_ex h
  exact (runN_keeps hE n).2 g a H x H' b hn
theorem onceCall_inv {K:CallF} {H args r H' b} (h:onceCall K H args = some (r,H',b)) :
    ∃ o p c caps,args = [.ptr o 0 p,.fn c caps] ∧ r = .tup [] ∧ ((H' = H ∧ b = false) ∨ ∃ y1 H1 b1 H2 y3 H3 b3 y4 b4,doStore 1 H (stA o p) (.int .i32 1) = some (y1,H1,b1) ∧ K c caps H1 = some (.tup [],H2,b) ∧
      doStore 1 H2 (dnA o p) (.int .u32 1) = some (y3,H3,b3) ∧ doStore 1 H3 (stA o p) (.int .i32 0) = some (y4,H',b4)):=by
  unfold onceCall at h
  split at h
  case h_2=>cases h
  rename_i o p c caps
  refine ⟨o,p,c,caps,rfl,?_⟩
  unfold onceA at h
  split at h
  case h_2=>cases h
  split at h
  case isFalse=>cases h; exact ⟨rfl,.inl ⟨rfl,rfl⟩⟩
  unfold onceB at h
  split at h
  case h_2=>cases h
  split at h
  case isFalse=>cases h
  cases h3:doStore 1 H (stA o p) (.int .i32 1) with
  | none=>rw [h3] at h; cases h
  | some q =>
    obtain ⟨y1,H1,b1⟩:=q
    rw [h3] at h
    simp only [onceC] at h
    split at h
    case isFalse=>cases h
    obtain ⟨H2,b2,y3,H3,b3,y4,H4,b4,m3,hK,l1,l2,s1,l3,s2,e⟩:=onceD_inv h
    cases e
    exact ⟨rfl,.inr ⟨y1,H1,b1,H2,y3,H3,b3,y4,b4,rfl,hK,s1,s2⟩⟩
theorem E2_keeps:CKeeps E2:=by
  intro g a H x H' b h hb
  unfold E2 at h
  split at h
  case isFalse=>exact E1_keeps g a H x H' b h hb
  obtain ⟨o,p,c,caps,_,_,h | ⟨y1,H1,b1,H2,y3,H3,b3,y4,b4,s1,hK,s2,s3⟩⟩:=onceCall_inv h
  · rw [h.1]; exact Keeps.refl _
  · exact (store_keeps s1).trans ((call_keeps E1_keeps c caps H1 _ _ _ hK hb).trans ((store_keeps s2).trans (store_keeps s3)))
theorem E2_up:CLe (call E1 GP) (call E2 GP):=by
  have hE:CLe E1 E2:=fun g a H r h=>by
    unfold E2
    rw [if_neg (fun e=>by
      subst e
      unfold E1 at h
      cases h)]
    exact h
  have key:∀ n,RLe (runN E1 GP n) (runN E2 GP n) ∧ CLe (callN E1 GP n) (callN E2 GP n):=by
    intro n
    induction n with
    | zero=>exact ⟨fun c st r e=>(by rw [runN] at e; cases e),fun g a H r e=>(by rw [callN] at e; cases e)⟩
    | succ n ih =>
      refine ⟨fun c st r e=>?_,fun g a H r e=>?_⟩
      · rw [runN] at e ⊢; exact stepRun_mono ih.2 ih.1 _ _ _ e
      · rw [callN] at e ⊢
        have e2:=stepCall_mono ih.1 _ _ _ _ e
        unfold stepCall at e2 ⊢
        cases h1:E1 g a H with
        | some q=>rw [h1] at e2; rw [hE g a H q h1]; exact e2
        | none =>
          rw [h1] at e2
          by_cases hg:g = 253
          · subst hg
            simp only [callE] at e2
            rw [show GP 253 = none from rfl] at e2
            cases e2
          · rw [show E2 g a H = E1 g a H from if_neg hg,h1]; exact e2
  intro g a H r h
  obtain ⟨n,hn⟩:=call_ex h
  exact call_of ((key n).2 _ _ _ _ hn)
theorem E2_tied {P:Program} {ι:Nat → FuncId} {pureF:Nat → Bool} (T:Tied P ι pureF E1 GP) (O:OnceS P (ι 253)) (h:pureF 253 = false):Tied P ι pureF E2 GP where
  funs:=T.funs
  pureG:=fun g hg=>⟨(T.pureG g hg).1,fun args H H2 e=>by
    have hne:g ≠ 253:=fun e=>by rw [e,h] at hg; cases hg
    rw [show E2 g args H = E1 g args H from if_neg hne] at e
    rw [show E2 g args H2 = E1 g args H2 from if_neg hne]
    exact (T.pureG g hg).2 args H H2 e⟩
  pureE:=fun g hg args H r H' b e=>by
    have hne:g ≠ 253:=fun e=>by rw [e,h] at hg; cases hg
    rw [show E2 g args H = E1 g args H from if_neg hne] at e
    obtain ⟨a1,a2,a3⟩:=T.pureE g hg args H r H' b e
    exact ⟨a1,a2,fun H2=>by rw [show E2 g args H2 = E1 g args H2 from if_neg hne]; exact a3 H2⟩
  soundE:=E2_sound T O
  keepE:=E2_keeps
end Tor
namespace Tor
open Go
theorem loop_ex {E:CallF} {GP:Nat → Option AFun} {l:AIR} (Inv:Nat → St → Prop):∀ n st,Inv 0 st → (∀ i,i < n → ∀ st,Inv i st → ∃ st',Inv (i + 1) st' ∧ run E GP l st = run E GP l st') → ∃ st',Inv n st' ∧ run E GP l st = run E GP l st'
  | 0,st,h,_=>⟨st,h,rfl⟩
  | n + 1,st,h,hs=>by
    obtain ⟨st1,h1,e1⟩:=loop_ex Inv n st h fun i hi=>hs i (by omega)
    obtain ⟨st2,h2,e2⟩:=hs n (by omega) st1 h1
    exact ⟨st2,h2,e1.trans e2⟩
def yA (y:List (Int × Int)):AV:=.isl (y.map fA)
def kvsM (m:Mp):List (Int × AV):=m.foldl (fun k p=>mset p.1 (yA p.2) k) []
theorem mfind_mset (k j:Int) (y:AV):∀ l,mfind k (mset j y l) = if k = j then some y else mfind k l
  | []=>by simp only [mset,mfind]
  | (a,x) :: r=>by
    simp only [mset]
    by_cases h:j = a
    · subst h
      simp only [if_true,mfind]
      split <;> rfl
    · rw [if_neg h]
      simp only [mfind,mfind_mset k j y r]
      by_cases h1:k = a
      · subst h1
        rw [if_pos rfl,if_neg (fun e=>h e.symm),if_pos rfl]
      · rw [if_neg h1,if_neg h1]
theorem findM_cons (p:Int × List (Int × Int)) (r:Mp) (id:Int):findM (p :: r) id = if p.1 = id then some p.2 else findM r id:=by
  unfold findM
  by_cases hq:p.1 = id <;> simp [hq]
theorem findM_none {m:Mp} {id:Int} (h:id ∉ m.map (·.1)):findM m id = none:=by
  induction m with
  | nil=>rfl
  | cons p r ih =>
    rw [findM_cons]
    simp only [List.map_cons,List.mem_cons,not_or] at h
    rw [if_neg (fun e=>h.1 e.symm),ih h.2]
theorem mfind_kvs {m:Mp} (h:(m.map (·.1)).Nodup) (id:Int):mfind id (kvsM m) = (findM m id).map yA:=by
  have key:∀ (m:Mp) (l:List (Int × AV)),(m.map (·.1)).Nodup → mfind id (m.foldl (fun k p=>mset p.1 (yA p.2) k) l) = (match findM m id with | some y=>some (yA y) | none=>mfind id l):=by
    intro m
    induction m with
    | nil=>intro l _; rfl
    | cons p r ih =>
      intro l h
      simp only [List.map_cons,List.nodup_cons] at h
      rw [List.foldl_cons,ih _ h.2,findM_cons,mfind_mset]
      by_cases e:p.1 = id
      · subst e
        rw [findM_none h.1,if_pos rfl,if_pos rfl]
      · rw [if_neg e,if_neg (fun e2=>e e2.symm)]
  unfold kvsM
  rw [key m [] h]
  cases findM m id <;> rfl
def onceV (d:Int):AV:=.agg [.agg [],.agg [.agg [],.int .u32 d],.agg [.agg [],.agg [.int .i32 0,.int .u32 0]]]
def onceW (m:Int):AV:=.agg [.agg [],.agg [.agg [],.int .u32 0],.agg [.agg [],.agg [.int .i32 m,.int .u32 0]]]
def idx0 (m:Mp):AV:=.agg [.isl (m.map mA),onceV 0,.a (.map none)]
def idx1 (m:Mp) (q:Nat):AV:=.agg [.isl (m.map mA),onceV 1,.mp q]
def IX (H:Heap) (o:Nat) (m:Mp):Prop:=H[o]? = some (.var (idx0 m)) ∨ ∃ q,q ≠ o ∧ H[o]? = some (.var (idx1 m q)) ∧ H[q]? = some (.map (kvsM m))
def Ext (o:Nat) (H H':Heap):Prop:=H.length ≤ H'.length ∧ ∀ j,j < H.length → j ≠ o → H'[j]? = H[j]?
variable {E:CallF} (hE:Free E)
include hE
theorem i_of (n:Int) (H:Heap) (h1:-9223372036854775808 ≤ n) (h2:n ≤ 9223372036854775807):call E GP 160 [.int .i64 n] H = some (Z n,H,false):=by
  rw [call_fun (hE _ _ _ (by decide)) (f:=a160) rfl rfl]
  have key:∀ m:Nat,m < 18446744073709551616 → ∀ H,call E GP 54 [.isl [.int .u32 ((m % B32:Nat):Int),.int .u32 ((m / B32:Nat):Int)],.bool (decide (n < 0))] H = some (Z (if n < 0 then -(m:Int) else m),H,false):=by
    intro m hm H
    have:=i_norm_isl hE [m % B32,m / B32] (decide (n < 0)) H (fun d hd=>by
      simp only [B32] at hd ⊢
      simp only [List.mem_cons,List.not_mem_nil,or_false] at hd
      rcases hd with rfl | rfl <;> omega) (by simp)
    have hv:val [m % B32,m / B32] = m:=by simp only [val,B32]; omega
    unfold ofL at this
    rw [hv] at this
    simpa [limbA] using this
  have ws:∀ m:Nat,m < 18446744073709551616 → IntKind.u32.wrap (((m:Nat):Int).fdiv (2 ^ (Nat.min 32 IntKind.u64.bits))) = ((m / B32:Nat):Int):=by
    intro m hm
    have e:(2:Int) ^ (Nat.min 32 IntKind.u64.bits) = 4294967296:=by decide
    rw [e,Int.fdiv_eq_ediv_of_nonneg _ (by omega),IntKind.wrap_u32]
    simp only [B32]; omega
  by_cases hn:n < 0
  · have wu:IntKind.u64.wrap n = ((18446744073709551616 - n.natAbs:Nat):Int):=by rw [IntKind.wrap_u64]; omega
    have wn:IntKind.u64.wrap (0 - ((18446744073709551616 - n.natAbs:Nat):Int)) = ((n.natAbs:Nat):Int):=by rw [IntKind.wrap_u64]; omega
    have hk:=key n.natAbs (by omega)
    have hs:=ws n.natAbs (by omega)
    have e:(if n < 0 then -(n.natAbs:Int) else (n.natAbs:Int)) = n:=by rw [if_pos hn]; omega
    rw [e] at hk
    simp only [hn,decide_true,decide_false] at hk
    simp (maxSteps:=1000000) only [si,simprocAttr,a160,a160R,hn,wu,wn,u32n,hs,hk]
  · have wu:IntKind.u64.wrap n = ((n.natAbs:Nat):Int):=by rw [IntKind.wrap_u64]; omega
    have hk:=key n.natAbs (by omega)
    have hs:=ws n.natAbs (by omega)
    have e:(if n < 0 then -(n.natAbs:Int) else (n.natAbs:Int)) = n:=by rw [if_neg hn]; omega
    rw [e] at hk
    simp only [hn,decide_true,decide_false] at hk
    simp (maxSteps:=1000000) only [si,simprocAttr,a160,a160R,hn,wu,u32n,hs,hk]
theorem find_build (m:Mp) (hm:m.length < 2147483648) (H:Heap) (o bx:Nat) (on:AV) (hon:on.size = 3) (hok:on.known = true) (ho:H[o]? = some (.var (.agg [.isl (m.map mA),on,.a (.map none)]))) (hb:H[bx]? = some (.var (.ptr o 0 []))) :
    call E GP 252 [.ptr bx 0 []] H = some (.tup [],H.set o (.var (.agg [.isl (m.map mA),on,.mp H.length])) ++ [.map (kvsM m)],true):=by
  rw [call_fun (hE _ _ _ (by decide)) (f:=a252) rfl rfl]
  have hol:o < H.length:=(List.getElem?_eq_some_iff.1 ho).1
  have hbl:bx < H.length:=(List.getElem?_eq_some_iff.1 hb).1
  have hne:bx ≠ o:=fun e=>by subst e; rw [ho] at hb; cases hb
  have a1:(H ++ [AObj.map []])[o]? = some (.var (.agg [.isl (m.map mA),on,.a (.map none)])):=by rw [List.getElem?_append_left hol]; exact ho
  have a2:(H ++ [AObj.map []]).set o (.var (.agg [.isl (m.map mA),on,.mp H.length])) = H.set o (.var (.agg [.isl (m.map mA),on,.mp H.length])) ++ [.map []]:=List.set_append_left _ _ hol
  have k1:∀ x,(H.set o (.var (.agg [.isl (m.map mA),on,.mp H.length])) ++ [x])[o]? = some (.var (.agg [.isl (m.map mA),on,.mp H.length])):=fun x=>by
    rw [List.getElem?_append_left (by simpa using hol),List.getElem?_set_self hol]
  have k2:∀ x,(H.set o (.var (.agg [.isl (m.map mA),on,.mp H.length])) ++ [x])[bx]? = some (.var (.ptr o 0 [])):=fun x=>by
    rw [List.getElem?_append_left (by simpa using hbl),List.getElem?_set_ne (fun e=>hne e.symm)]; exact hb
  have k3:∀ x,(H.set o (.var (.agg [.isl (m.map mA),on,.mp H.length])) ++ [x])[H.length]? = some x:=fun x=>by
    rw [List.getElem?_append_right (by simp)]; simp
  have k4:∀ x y,(H.set o (.var (.agg [.isl (m.map mA),on,.mp H.length])) ++ [x]).set H.length y = H.set o (.var (.agg [.isl (m.map mA),on,.mp H.length])) ++ [y]:=fun x y=>by
    rw [List.set_append_right _ _ (by simp)]; simp
  generalize hG:H.set o (.var (.agg [.isl (m.map mA),on,.mp H.length])) = G at *
  let S:Nat → St:=fun i=>{ vars:=[.ptr bx 0 [],.isl (m.map mA),.int .i64 m.length,.int .i64 (i:Nat),.u,.u],heap:=G ++ [.map (kvsM (m.take i))],rs:=true }
  have hstep:∀ i,i < m.length → run E GP a252l0 (S i) = run E GP a252l0 (S (i + 1)):=by
    intro i hi
    have ek:kvsM (m.take (i + 1)) = mset m[i].1 (.isl (m[i].2.map fA)) (kvsM (m.take i)):=by
      unfold kvsM
      rw [List.take_succ_eq_append_getElem hi,List.foldl_append]; rfl
    show run E GP a252l0 { vars:=_,heap:=_,rs:=_ } = run E GP a252l0 { vars:=_,heap:=_,rs:=_ }
    rw [ek]
    generalize kvsM (m.take i) = kv at *
    conv=>lhs; rw [a252l0_run]
    simp (maxSteps:=1000000) (disch:=first | omega | decide) only [si,sf,simprocAttr,a252b0,a252R,hi,mA,k1,k2,k3,k4,hon,hok]
  have hl:=loop_ind S _ m.length hstep rfl
  have he:run E GP a252l0 (S m.length) = some (.exit 0,{ vars:=[.ptr bx 0 [],.isl (m.map mA),.int .i64 m.length,.int .i64 m.length,.bool false,.u],heap:=G ++ [.map (kvsM m)],rs:=true }):=by
    show run E GP a252l0 { vars:=_,heap:=_,rs:=_ } = _
    rw [List.take_length,a252l0_run]
    simp (maxSteps:=1000000) (disch:=first | omega | decide) only [si,sf,simprocAttr,a252b0,a252R,Nat.lt_irrefl]
  rw [he] at hl
  have hl:run E GP a252l0 { vars:=[.ptr bx 0 [],.isl (m.map mA),.int .i64 m.length,.int .i64 0,.u,.u],heap:=G ++ [.map []],rs:=true } = _:=hl
  simp (maxSteps:=1000000) (disch:=first | omega | decide) only [si,sf,simprocAttr,a252,a252R,hb,a1,a2,k1,k2,hl,hon,hok]
end Tor
namespace Tor
open Go
theorem up {g a H r} (h:call E1 GP g a H = some r):call E2 GP g a H = some r:=E2_up g a H r h
theorem E2_none {g a H} (h1:g ≠ 56) (h2:g ≠ 253):E2 g a H = none:=by
  unfold E2
  rw [if_neg h2]
  exact free1 g a H h1
theorem Ext.refl (o:Nat) (H:Heap):Ext o H H:=⟨Nat.le_refl _,fun _ _ _=>rfl⟩
theorem Ext.trans {o:Nat} {A B C:Heap} (h:Ext o A B) (k:Ext o B C):Ext o A C :=
  ⟨Nat.le_trans h.1 k.1,fun j hj hne=>(k.2 j (by have:=h.1; omega) hne).trans (h.2 j hj hne)⟩
theorem Ext.push (o:Nat) (H:Heap) (l:List AObj):Ext o H (H ++ l):=⟨by simp,fun j hj _=>List.getElem?_append_left hj⟩
theorem Ext.set (o:Nat) (H:Heap) (x:AObj):Ext o H (H.set o x):=⟨by simp,fun j hj hne=>List.getElem?_set_ne (fun e=>hne e.symm)⟩
theorem do_new (m:Mp) (hm:m.length < 2147483648) (H:Heap) (o bx:Nat) (ho:H[o]? = some (.var (idx0 m))) (hb:H[bx]? = some (.var (.ptr o 0 []))) :
    call E2 GP 253 [.ptr o 0 [(1,1)],.fn 252 [.ptr bx 0 []]] H = some (.tup [],H.set o (.var (idx1 m H.length)) ++ [.map (kvsM m)],true):=by
  apply call_ext
  have hol:o < H.length:=(List.getElem?_eq_some_iff.1 ho).1
  have hbl:bx < H.length:=(List.getElem?_eq_some_iff.1 hb).1
  have hne:bx ≠ o:=fun e=>by subst e; rw [ho] at hb; cases hb
  have ho1:(H.set o (.var (.agg [.isl (m.map mA),onceW 1,.a (.map none)])))[o]? = some (.var (.agg [.isl (m.map mA),onceW 1,.a (.map none)])):=List.getElem?_set_self hol
  have hb1:(H.set o (.var (.agg [.isl (m.map mA),onceW 1,.a (.map none)])))[bx]? = some (.var (.ptr o 0 [])):=by rw [List.getElem?_set_ne (fun e=>hne e.symm)]; exact hb
  have hbuild:=find_build free1 m hm _ o bx (onceW 1) rfl rfl ho1 hb1
  rw [List.length_set,List.set_set] at hbuild
  have k1:∀ z,(H.set o z ++ [.map (kvsM m)])[o]? = some z:=fun z=>by rw [List.getElem?_append_left (by simpa using hol),List.getElem?_set_self hol]
  have k2:∀ z z',(H.set o z ++ [AObj.map (kvsM m)]).set o z' = H.set o z' ++ [AObj.map (kvsM m)]:=fun z z'=>by
    rw [List.set_append_left _ _ (by simpa using hol),List.set_set]
  unfold E2
  rw [if_pos rfl]
  unfold idx0 at ho
  unfold idx1
  unfold onceV onceW at *
  have hgp:(GP 252).isSome = true:=rfl
  generalize kvsM m = kv at *
  simp (maxSteps:=1000000) (disch:=first | omega | decide) only [si,sf,simprocAttr,onceCall,onceA,onceB,onceC,onceD,onceE,onceF,onceG,onceG2,onceH,dnA,stA,ho,ho1,hbuild,hgp,k1,k2,List.set_set]
theorem do_old (m:Mp) (H:Heap) (o bx q:Nat) (ho:H[o]? = some (.var (idx1 m q))) :
    call E2 GP 253 [.ptr o 0 [(1,1)],.fn 252 [.ptr bx 0 []]] H = some (.tup [],H,false):=by
  apply call_ext
  unfold E2
  rw [if_pos rfl]
  unfold idx1 onceV at ho
  simp (maxSteps:=1000000) (disch:=first | omega | decide) only [si,sf,simprocAttr,onceCall,onceA,dnA,ho]
theorem i_find (m:Mp) (hm:m.length < 2147483648) (hnd:(m.map (·.1)).Nodup) (H:Heap) (o:Nat) (id:Int) (h:IX H o m) :
    ∃ H' b,call E2 GP 241 [.ptr o 0 [],.int .i64 id] H = some (.tup [(match findM m id with | some y=>yA y | none=>.nl),.bool (findM m id).isSome],H',b) ∧ IX H' o m ∧ Ext o H H':=by
  have hfind:=mfind_kvs hnd id
  have hE2:∀ a H,E2 241 a H = none:=fun a H=>E2_none (by decide) (by decide)
  rcases h with ho | ⟨q,hqo,ho,hq⟩
  · have hol:o < H.length:=(List.getElem?_eq_some_iff.1 ho).1
    have ho1:(H ++ [.var (.ptr o 0 [])])[o]? = some (.var (idx0 m)):=by rw [List.getElem?_append_left hol]; exact ho
    have hb1:(H ++ [AObj.var (.ptr o 0 [])])[H.length]? = some (.var (.ptr o 0 [])):=by simp
    have hdo:=do_new m hm _ o H.length ho1 hb1
    have hlen:(H ++ [AObj.var (.ptr o 0 [])]).length = H.length + 1:=by simp
    rw [hlen,List.set_append_left _ _ hol] at hdo
    have k1:(H.set o (.var (idx1 m (H.length + 1))) ++ [AObj.var (.ptr o 0 [])] ++ [.map (kvsM m)])[o]? = some (.var (idx1 m (H.length + 1))):=by
      rw [List.append_assoc,List.getElem?_append_left (by simpa using hol),List.getElem?_set_self hol]
    have k2:(H.set o (.var (idx1 m (H.length + 1))) ++ [AObj.var (.ptr o 0 [])] ++ [.map (kvsM m)])[H.length]? = some (.var (.ptr o 0 [])):=by
      rw [List.append_assoc,List.getElem?_append_right (by simp)]; simp
    have k3:(H.set o (.var (idx1 m (H.length + 1))) ++ [AObj.var (.ptr o 0 [])] ++ [.map (kvsM m)])[H.length + 1]? = some (.map (kvsM m)):=by
      rw [List.getElem?_append_right (by simp)]; simp
    refine ⟨_,true,?_,.inr ⟨H.length + 1,by omega,k1,k3⟩,?_⟩
    · rw [call_fun (hE2 _ _) (f:=a241) rfl rfl]
      generalize H.set o (.var (idx1 m (H.length + 1))) ++ [AObj.var (.ptr o 0 [])] ++ [.map (kvsM m)] = H2 at *
      unfold idx1 onceV at k1
      cases hf:findM m id with
      | none =>
        rw [hf] at hfind
        simp only [Option.map_none] at hfind
        simp only [Option.isSome_none]
        simp (maxSteps:=1000000) (disch:=first | omega | decide) only [si,sf,simprocAttr,doBox,a241,a241R,hb1,hdo,k1,k2,k3,hfind]
      | some y =>
        rw [hf] at hfind
        simp only [Option.map_some] at hfind
        simp only [Option.isSome_some]
        unfold yA at *
        simp (maxSteps:=1000000) (disch:=first | omega | decide) only [si,sf,simprocAttr,doBox,a241,a241R,hb1,hdo,k1,k2,k3,hfind]
    · rw [List.append_assoc]
      exact (Ext.set o H _).trans (Ext.push o _ _)
  · have hol:o < H.length:=(List.getElem?_eq_some_iff.1 ho).1
    have hql:q < H.length:=(List.getElem?_eq_some_iff.1 hq).1
    have ho1:(H ++ [.var (.ptr o 0 [])])[o]? = some (.var (idx1 m q)):=by rw [List.getElem?_append_left hol]; exact ho
    have hq1:(H ++ [.var (.ptr o 0 [])])[q]? = some (.map (kvsM m)):=by rw [List.getElem?_append_left hql]; exact hq
    have hb1:(H ++ [AObj.var (.ptr o 0 [])])[H.length]? = some (.var (.ptr o 0 [])):=by simp
    have hdo:=do_old m _ o H.length q ho1
    refine ⟨H ++ [.var (.ptr o 0 [])],true,?_,.inr ⟨q,hqo,ho1,hq1⟩,Ext.push o _ _⟩
    rw [call_fun (hE2 _ _) (f:=a241) rfl rfl]
    have hlen:(H ++ [AObj.var (.ptr o 0 [])]).length = H.length + 1:=by simp
    generalize hH1:H ++ [AObj.var (.ptr o 0 [])] = H1 at *
    unfold idx1 onceV at ho1
    cases hf:findM m id with
    | none =>
      rw [hf] at hfind
      simp only [Option.map_none] at hfind
      simp only [Option.isSome_none]
      simp (maxSteps:=1000000) (disch:=first | omega | decide) only [si,sf,simprocAttr,doBox,a241,a241R,hH1,hb1,hdo,ho1,hq1,hfind]
    | some y =>
      rw [hf] at hfind
      simp only [Option.map_some] at hfind
      simp only [Option.isSome_some]
      unfold yA at *
      simp (maxSteps:=1000000) (disch:=first | omega | decide) only [si,sf,simprocAttr,doBox,a241,a241R,hH1,hb1,hdo,ho1,hq1,hfind]
end Tor
namespace Tor
open Go
theorem i_make (l:List (Int × Int)) (N:Nat) (hl:Bd N l) (hs:l.length ≤ 1000000) (hN:N * (l.length + 1) < BIG) (hk:∀ p ∈ l,in64 p.1 = true) (H:Heap) :
    call E1 GP 22 [.isl (l.map fA)] H = some (.isl ((l.foldl insert26 []).map fA),H,false):=by
  have hkeys:=sums_keys (P:=fun n=>in64 n = true) l [] (fun p hp=>hk p hp) (fun p hp=>by cases hp)
  have hsl:(sums l []).length ≤ l.length:=by have:=hkeys.2; rw [List.length_nil,Nat.zero_add] at this; exact this
  have sS:=(sums_law l [] sums_nil).1
  have h:=c_make free1 l N hl (by omega) hN (ksOf (sums l [])) (srt1 _ (by omega) hkeys.1) (by simp [ksOf,sortI_len]; omega) H
  rw [make_eq _ _ (ksOf_lt _ sS) (ksOf_mem _)] at h
  exact h
theorem con_make2 (l a:List (Int × Int)) (h:∀ H,call E1 GP 22 [.isl (l.map fA)] H = some (.isl (a.map fA),H,false)) (H:Heap) (s g:Nat) (hs:H[s]? = some (.arr g 3 (l.map fA))) :
    call E1 GP 128 [.sl s g 3 0 l.length] H = some (.isl (a.map fA),H.set s .dead,false):=by
  have h0:=h []
  rw [call_fun (free1 _ _ _ (by decide)) (f:=a22) rfl rfl] at h0
  have hm:a22.mode = .iso:=rfl
  have hc:a128.mode = .con:=rfl
  rw [hm] at h0
  simp only [callFun] at h0
  have hr:runIso (run E1 GP) a22 [.isl (l.map fA)] = some (.isl (a.map fA)):=by
    cases hr:runIso (run E1 GP) a22 [.isl (l.map fA)] with
    | none=>rw [hr] at h0; cases h0
    | some r=>rw [hr] at h0; simp only [withHeap,Option.some.injEq,Prod.mk.injEq] at h0; rw [h0.1]
  have hr2:runIso (run E1 GP) a128 [.isl (l.map fA)] = some (.isl (a.map fA)):=hr
  rw [call_fun (free1 _ _ _ (by decide)) (f:=a128) rfl rfl,hc]
  have he:elems H (.sl s g 3 0 l.length) = some (l.map fA):=by
    simp only [elems,hs]
    rw [if_pos ⟨trivial,trivial,by simp⟩]
    simp only [List.drop_zero]
    rw [List.take_of_length_le (by simp)]
  simp only [callFun,consume,he,refs_fA,Bool.false_eq_true,if_false,consume1,conCall,hr2,withHeap]
def prods (F:Int → List (Int × Int)) (x:List (Int × Int)):List (Int × Int):=x.flatMap fun p=>(F p.1).map fun q=>(q.1,p.2 * q.2)
theorem prods_make (F:Int → List (Int × Int)):∀ (x a:List (Int × Int)),(prods F x).foldl insert26 a = x.foldl (fun a p=>add26 a (F p.1) p.2) a
  | [],_=>rfl
  | p :: r,a=>by
    unfold prods
    rw [List.flatMap_cons,List.foldl_append,List.foldl_cons]
    rw [show (List.flatMap (fun p=>(F p.1).map fun q=>(q.1,p.2 * q.2)) r) = prods F r from rfl,prods_make F r]
    congr 1
    unfold add26
    rw [List.foldl_map]
theorem prods_bd (F:Int → List (Int × Int)) (A N L:Nat) (hF:∀ id,Bd N (F id) ∧ (F id).length ≤ L):∀ (x:List (Int × Int)),(∀ p ∈ x,p.2.natAbs ≤ A) → Bd (A * N) (prods F x) ∧ (prods F x).length ≤ L * x.length
  | [],_=>⟨fun p hp=>(by cases hp),Nat.zero_le _⟩
  | p :: r,h=>by
    obtain ⟨h1,h2⟩:=prods_bd F A N L hF r fun q hq=>h q (.tail _ hq)
    have e:prods F (p :: r) = (F p.1).map (fun q=>(q.1,p.2 * q.2)) ++ prods F r:=by unfold prods; rw [List.flatMap_cons]
    rw [e]
    refine ⟨fun q hq=>?_,?_⟩
    · rcases List.mem_append.1 hq with hq | hq
      · obtain ⟨z,hz,rfl⟩:=List.mem_map.1 hq
        simp only
        rw [Int.natAbs_mul]
        exact Nat.mul_le_mul (h p (.head _)) ((hF p.1).1 z hz)
      · exact h1 q hq
    · have:=(hF p.1).2
      rw [List.length_append,List.length_map,List.length_cons,Nat.mul_succ]; omega
theorem prods_succ (F:Int → List (Int × Int)) {x:List (Int × Int)} {i:Nat} (hi:i < x.length):prods F (x.take (i + 1)) = prods F (x.take i) ++ (F x[i].1).map fun q=>(q.1,x[i].2 * q.2):=by
  unfold prods
  rw [List.take_succ_eq_append_getElem hi,List.flatMap_append]
  simp
theorem IX.set {H:Heap} {o s g z:Nat} {m:Mp} {l:List AV} (h:IX H o m) (hs:H[s]? = some (.arr g z l)) (x:AObj):IX (H.set s x) o m:=by
  have hso:s ≠ o:=fun e=>by
    subst e
    rcases h with h | ⟨q,_,h,_⟩ <;> (rw [h] at hs; cases hs)
  rcases h with h | ⟨q,h1,h2,h3⟩
  · exact .inl (by rw [List.getElem?_set_ne hso]; exact h)
  · have hsq:s ≠ q:=fun e=>by subst e; rw [h3] at hs; cases hs
    exact .inr ⟨q,h1,by rw [List.getElem?_set_ne hso]; exact h2,by rw [List.getElem?_set_ne hsq]; exact h3⟩
theorem IX.ne {H:Heap} {o s g z:Nat} {m:Mp} {l:List AV} (h:IX H o m) (hs:H[s]? = some (.arr g z l)):s ≠ o:=fun e=>by
  subst e
  rcases h with h | ⟨q,_,h,_⟩ <;> (rw [h] at hs; cases hs)
theorem IX.lt {H:Heap} {o:Nat} {m:Mp} (h:IX H o m):o < H.length:=by
  rcases h with h | ⟨q,_,h,_⟩ <;> exact (List.getElem?_eq_some_iff.1 h).1
theorem IX.push {H:Heap} {o:Nat} {m:Mp} (h:IX H o m) (l:List AObj):IX (H ++ l) o m:=by
  have hl:=h.lt
  rcases h with h | ⟨q,h1,h2,h3⟩
  · exact .inl (by rw [List.getElem?_append_left hl]; exact h)
  · have hq:q < H.length:=(List.getElem?_eq_some_iff.1 h3).1
    exact .inr ⟨q,h1,by rw [List.getElem?_append_left hl]; exact h2,by rw [List.getElem?_append_left hq]; exact h3⟩
def Ext2 (n o:Nat) (H H':Heap):Prop:=n ≤ H'.length ∧ ∀ j,j < n → j ≠ o → H'[j]? = H[j]?
theorem Ext2.ext {n o:Nat} {H A B:Heap} (h:Ext2 n o H A) (k:Ext o A B):Ext2 n o H B :=
  ⟨Nat.le_trans h.1 k.1,fun j hj hne=>(k.2 j (by have:=h.1; omega) hne).trans (h.2 j hj hne)⟩
theorem Ext2.set {n o s:Nat} {H A:Heap} (h:Ext2 n o H A) (hs:n ≤ s) (x:AObj):Ext2 n o H (A.set s x) :=
  ⟨by simpa using h.1,fun j hj hne=>by rw [List.getElem?_set_ne (by omega)]; exact h.2 j hj hne⟩
def ast0 (o:Nat) (x:List (Int × Int)) (s k i:Nat) (H:Heap) (b:Bool):St :=
  { vars:=[.ptr o 0 [],.isl (x.map fA),.isl [],.int .i64 0,.sl s k 3 0 k,.u,.u,.isl (x.map fA),.int .i64 x.length,.int .i64 (i:Nat),.u,.u,.u,.u,.u,.u,.u,.u],heap:=H,rs:=b }
theorem apply_inner (o s i:Nat) (x:List (Int × Int)) (hi:i < x.length) (y:List (Int × Int)) (hyl:y.length < 1000000) (hp:∀ q ∈ y,Sm q) (hc:Sm x[i]) (w11:AV) (m:Mp) (n:Nat) (H0:Heap) :
    ∀ (t j:Nat) (acc:List (Int × Int)) (H:Heap) (b:Bool),y.length = j + t → acc.length + t ≤ 4294967296 → IX H o m → H[s]? = some (.arr acc.length 3 (acc.map fA)) → n ≤ s → Ext2 n o H0 H →
    ∃ H' b',run E2 GP a238l1 { vars:=[.ptr o 0 [],.isl (x.map fA),.isl [],.int .i64 0,.sl s acc.length 3 0 acc.length,yA y,.bool true,.isl (x.map fA),.int .i64 x.length,.int .i64 (i:Nat),.bool true,w11,yA y,.int .i64 y.length,.int .i64 (j:Nat),.u,fA x[i],.u],heap:=H,rs:=b } =
      some (.exit 2,{ vars:=[.ptr o 0 [],.isl (x.map fA),.isl [],.int .i64 0,.sl s (acc.length + t) 3 0 (acc.length + t),yA y,.bool true,.isl (x.map fA),.int .i64 x.length,.int .i64 (i:Nat),.bool true,w11,yA y,.int .i64 y.length,.int .i64 y.length,.bool false,fA x[i],.u],heap:=H',rs:=b' }) ∧
      IX H' o m ∧ H'[s]? = some (.arr (acc.length + t) 3 ((acc ++ (y.drop j).map fun q=>(q.1,x[i].2 * q.2)).map fA)) ∧ Ext2 n o H0 H':=by
  intro t
  induction t with
  | zero =>
    intro j acc H b hj hacc hix hs hns hext
    have hjl:j = y.length:=by omega
    subst hjl
    refine ⟨H,b,?_,hix,by rw [List.drop_length]; simpa using hs,hext⟩
    unfold yA
    rw [a238l1_run]
    simp (maxSteps:=1000000) (disch:=first | omega | decide) only [si,sf,simprocAttr,a238b1,a238R,Nat.lt_irrefl,Nat.add_zero,fA]
  | succ t ih =>
    intro j acc H b hj hacc hix hs hns hext
    have hjl:j < y.length:=by omega
    have hmul:=fun H=>up (i_mul free1 x[i].2 y[j].2 H (by unfold Sm at hc; omega) (by have:=hp _ (List.getElem_mem hjl); unfold Sm at this; omega))
    have hsl:s < H.length:=(List.getElem?_eq_some_iff.1 hs).1
    have hs2:(H.set s (.arr (acc.length + 1) 3 ((acc ++ [(y[j].1,x[i].2 * y[j].2)]).map fA)))[s]? = some (.arr (acc ++ [(y[j].1,x[i].2 * y[j].2)]).length 3 ((acc ++ [(y[j].1,x[i].2 * y[j].2)]).map fA)):=by
      rw [List.getElem?_set_self hsl]; simp
    have hl2:(acc ++ [(y[j].1,x[i].2 * y[j].2)]).length = acc.length + 1:=by simp
    obtain ⟨H',b',r1,r2,r3,r4⟩:=ih (j + 1) (acc ++ [(y[j].1,x[i].2 * y[j].2)]) (H.set s (.arr (acc.length + 1) 3 ((acc ++ [(y[j].1,x[i].2 * y[j].2)]).map fA))) b (by omega) (by rw [hl2]; omega) (hix.set hs _) hs2 hns (hext.set hns _)
    rw [hl2] at r1 r3
    refine ⟨H',b',?_,r2,?_,r4⟩
    · rw [show acc.length + (t + 1) = acc.length + 1 + t by omega,← r1]
      have hm1:acc.length + 1 ≤ 4294967296:=by omega
      rw [List.map_append]
      simp only [List.map_cons,List.map_nil]
      unfold yA
      conv=>lhs; rw [a238l1_run]
      simp (maxSteps:=1000000) (disch:=first | omega | decide) only [si,sf,simprocAttr,a238b1,a238R,hjl,fA,hmul,hs,hm1,maxLenA]
    · rw [show acc.length + (t + 1) = acc.length + 1 + t by omega,r3,List.drop_eq_getElem_cons hjl]
      simp only [List.map_cons,List.append_assoc,List.cons_append,List.nil_append]
theorem i_apply (m:Mp) (x:List (Int × Int)) (A N L:Nat) (hm:m.length < 2147483648) (hnd:(m.map (·.1)).Nodup) (hxl:x.length < 1000) (hx:∀ p ∈ x,p.2.natAbs ≤ A) (hF:∀ id,Bd N (imgF m id) ∧ (imgF m id).length ≤ L) (hL:L ≤ 1000)
    (hA:A < BIG) (hN:N < BIG) (hB:A * N * (L * x.length + 1) < BIG) (hk:∀ id,∀ p ∈ imgF m id,in64 p.1 = true) (H:Heap) (o:Nat) (hix:IX H o m) :
    ∃ H' b,call E2 GP 238 [.ptr o 0 [],.isl (x.map fA)] H = some (if (∀ p ∈ x,(findM m p.1).isSome = true) then .tup [.isl ((appF (imgF m) x).map fA),.int .i64 0] else .tup [.isl [],.int .i64 290],H',b) ∧ IX H' o m ∧ Ext o H H':=by
  have hE2:∀ a H,E2 238 a H = none:=fun a H=>E2_none (by decide) (by decide)
  have hstart:(H ++ [AObj.arr 0 3 []])[H.length]? = some (.arr 0 3 []):=by simp
  have hprod:=prods_bd (imgF m) A N L hF
  have hplen:∀ i,(prods (imgF m) (x.take i)).length ≤ L * x.length:=fun i=>Nat.le_trans (hprod (x.take i) (fun p hp=>hx p (List.mem_of_mem_take hp))).2 (Nat.mul_le_mul_left _ (by simp; omega))
  have hLx:L * x.length ≤ 1000 * 1000:=Nat.mul_le_mul hL (by omega)
  have hstep:∀ i,i < x.length → (∀ hi:i < x.length,(findM m x[i].1).isSome = true) → ∀ st,(∃ H1 b,st = ast0 o x H.length (prods (imgF m) (x.take i)).length i H1 b ∧ IX H1 o m ∧ H1[H.length]? = some (.arr (prods (imgF m) (x.take i)).length 3 ((prods (imgF m) (x.take i)).map fA)) ∧ Ext2 H.length o H H1) →
      ∃ st',(∃ H1 b,st' = ast0 o x H.length (prods (imgF m) (x.take (i + 1))).length (i + 1) H1 b ∧ IX H1 o m ∧ H1[H.length]? = some (.arr (prods (imgF m) (x.take (i + 1))).length 3 ((prods (imgF m) (x.take (i + 1))).map fA)) ∧ Ext2 H.length o H H1) ∧ run E2 GP a238l0 st = run E2 GP a238l0 st':=by
    rintro i hi hs st ⟨H1,b,rfl,h1,h2,h3⟩
    obtain ⟨H2,b2,f1,f2,f3⟩:=i_find m hm hnd H1 o x[i].1 h1
    obtain ⟨y,hy⟩:=Option.isSome_iff_exists.1 (hs hi)
    have him:imgF m x[i].1 = y:=by unfold imgF; rw [hy]; rfl
    rw [hy] at f1
    simp only [Option.isSome_some] at f1
    have hyb:=hF x[i].1
    rw [him] at hyb
    have hsl:H.length < H1.length:=(List.getElem?_eq_some_iff.1 h2).1
    have h2':H2[H.length]? = some (.arr (prods (imgF m) (x.take i)).length 3 ((prods (imgF m) (x.take i)).map fA)):=by
      rw [f3.2 H.length hsl (h1.ne h2)]; exact h2
    have hl1:=hplen i
    obtain ⟨H3,b3,r1,r2,r3,r4⟩:=apply_inner o H.length i x hi y (by omega) (fun q hq=>sm_of hN (hyb.1 q hq)) (sm_of hA (hx _ (List.getElem_mem hi))) (.bool false) m H.length H y.length 0 _ H2 b2 (by omega) (by omega) f2 h2' (Nat.le_refl _) (h3.ext f3)
    have es:=prods_succ (imgF m) hi
    rw [him] at es
    rw [List.drop_zero,← es] at r3
    have el:(prods (imgF m) (x.take (i + 1))).length = (prods (imgF m) (x.take i)).length + y.length:=by rw [es]; simp
    rw [← el] at r1 r3
    refine ⟨_,⟨H3,b || b3,rfl,r2,r3,r4⟩,?_⟩
    unfold ast0
    generalize (prods (imgF m) (x.take (i + 1))).length = k2 at *
    generalize (prods (imgF m) (x.take i)).length = k1 at *
    unfold yA at *
    simp only [fA,Int.ofNat_zero] at r1
    conv=>lhs; rw [a238l0_run]
    simp (maxSteps:=1000000) (disch:=first | omega | decide) only [si,sf,simprocAttr,a238b0,a238R,hi,fA,f1,r1]
  have h0:∃ H1 b,ast0 o x H.length 0 0 (H ++ [.arr 0 3 []]) false = ast0 o x H.length (prods (imgF m) (x.take 0)).length 0 H1 b ∧ IX H1 o m ∧ H1[H.length]? = some (.arr (prods (imgF m) (x.take 0)).length 3 ((prods (imgF m) (x.take 0)).map fA)) ∧ Ext2 H.length o H H1 :=
    ⟨H ++ [.arr 0 3 []],false,rfl,hix.push _,hstart,by simp,fun j hj _=>List.getElem?_append_left hj⟩
  rcases first_bad (fun i=>∀ hi:i < x.length,(findM m x[i].1).isSome = true) x.length with hall | ⟨j,hj,hbad,hbefore⟩
  · have hp:∀ p ∈ x,(findM m p.1).isSome = true:=fun p hp=>by
      obtain ⟨i,hi,rfl⟩:=List.getElem_of_mem hp
      exact hall i hi hi
    rw [if_pos hp]
    obtain ⟨st,⟨H1,b,rfl,h1,h2,h3⟩,hl⟩:=loop_ex _ x.length _ h0 (fun i hi=>hstep i hi (hall i hi))
    rw [List.take_length] at *
    have he:run E2 GP a238l0 (ast0 o x H.length (prods (imgF m) x).length x.length H1 b) = some (.exit 0,{ vars:=[.ptr o 0 [],.isl (x.map fA),.isl [],.int .i64 0,.sl H.length (prods (imgF m) x).length 3 0 (prods (imgF m) x).length,.u,.u,.isl (x.map fA),.int .i64 x.length,.int .i64 x.length,.bool false,.u,.u,.u,.u,.u,.u,.u],heap:=H1,rs:=b }):=by
      unfold ast0
      rw [a238l0_run]
      simp (maxSteps:=1000000) (disch:=first | omega | decide) only [si,sf,simprocAttr,a238b0,a238R,Nat.lt_irrefl]
    rw [he] at hl
    obtain ⟨pb,pl⟩:=hprod x hx
    have hmake:=fun H=>i_make (prods (imgF m) x) (A * N) pb (by omega) (Nat.lt_of_le_of_lt (Nat.mul_le_mul_left _ (by omega)) hB) (fun p hp=>by
      unfold prods at hp
      obtain ⟨q,_,hp⟩:=List.mem_flatMap.1 hp
      obtain ⟨z,hz,rfl⟩:=List.mem_map.1 hp
      exact hk q.1 z hz) H
    rw [prods_make] at hmake
    have hcon:=up (con_make2 _ _ hmake H1 H.length _ h2)
    refine ⟨H1.set H.length .dead,b,?_,h1.set h2 _,(h3.set (Nat.le_refl _) _)⟩
    rw [call_fun (hE2 _ _) (f:=a238) rfl rfl]
    have hl:run E2 GP a238l0 { vars:=[.ptr o 0 [],.isl (x.map fA),.isl [],.int .i64 0,.sl H.length 0 3 0 0,.u,.u,.isl (x.map fA),.int .i64 x.length,.int .i64 0,.u,.u,.u,.u,.u,.u,.u,.u],heap:=H ++ [.arr 0 3 []],rs:=false } = _:=hl
    rw [show x.foldl (fun a p=>add26 a (imgF m p.1) p.2) [] = appF (imgF m) x from rfl] at hcon
    generalize appF (imgF m) x = y at *
    simp (maxSteps:=1000000) (disch:=first | omega | decide) only [si,sf,simprocAttr,a238,a238R,hl,hcon]
  · have hnp:¬ ∀ p ∈ x,(findM m p.1).isSome = true:=fun h=>hbad fun hi=>h _ (List.getElem_mem hi)
    rw [if_neg hnp]
    obtain ⟨st,⟨H1,b,rfl,h1,h2,h3⟩,hl⟩:=loop_ex _ j _ h0 (fun i hi=>hstep i (by omega) (hbefore i hi))
    obtain ⟨H2,b2,f1,f2,f3⟩:=i_find m hm hnd H1 o x[j].1 h1
    have hno:findM m x[j].1 = none:=by
      cases h:findM m x[j].1 with
      | none=>rfl
      | some y=>exact absurd (fun _=>by rw [h]; rfl) hbad
    rw [hno] at f1
    simp only [Option.isSome_none] at f1
    have he:∃ w4 w5 w7,run E2 GP a238l0 (ast0 o x H.length (prods (imgF m) (x.take j)).length j H1 b) = some (.ret,{ vars:=[.ptr o 0 [],.isl (x.map fA),.isl [],.int .i64 290,w4,w5,.bool false,.isl (x.map fA),.int .i64 x.length,.int .i64 j,.bool true,.bool true,.u,.u,.u,.u,w7,.u],heap:=H2,rs:=b || b2 }):=by
      refine ⟨.sl H.length (prods (imgF m) (x.take j)).length 3 0 (prods (imgF m) (x.take j)).length,.nl,fA x[j],?_⟩
      unfold ast0
      generalize (prods (imgF m) (x.take j)).length = k1 at *
      simp only [fA]
      rw [a238l0_run]
      simp (maxSteps:=1000000) (disch:=first | omega | decide) only [si,sf,simprocAttr,a238b0,a238R,hj,fA,f1]
    obtain ⟨w4,w5,w7,he⟩:=he
    rw [he] at hl
    refine ⟨H2,b || b2,?_,f2,(h3.ext f3)⟩
    rw [call_fun (hE2 _ _) (f:=a238) rfl rfl]
    have hl:run E2 GP a238l0 { vars:=[.ptr o 0 [],.isl (x.map fA),.isl [],.int .i64 0,.sl H.length 0 3 0 0,.u,.u,.isl (x.map fA),.int .i64 x.length,.int .i64 0,.u,.u,.u,.u,.u,.u,.u,.u],heap:=H ++ [.arr 0 3 []],rs:=false } = _:=hl
    simp (maxSteps:=1000000) (disch:=first | omega | decide) only [si,sf,simprocAttr,a238,a238R,hl]
end Tor
namespace Tor
open Go
theorem i_Apply (m:Mp) (x:List (Int × Int)) (A N L:Nat) (hm:m.length < 2147483648) (hnd:(m.map (·.1)).Nodup) (hxl:x.length < 1000) (hx:∀ p ∈ x,p.2.natAbs ≤ A) (hF:∀ id,Bd N (imgF m id) ∧ (imgF m id).length ≤ L) (hL:L ≤ 1000)
    (hA:A < BIG) (hN:N < BIG) (hB:A * N * (L * x.length + 1) < BIG) (hk:∀ id,∀ p ∈ imgF m id,in64 p.1 = true) (H:Heap) :
    call E2 GP 219 [.isl (m.map mA),.isl (x.map fA)] H = some (if (∀ p ∈ x,(findM m p.1).isSome = true) then .tup [.isl ((appF (imgF m) x).map fA),.int .i64 0] else .tup [.isl [],.int .i64 290],H,false):=by
  obtain ⟨H',b,h1,_,_⟩:=i_apply m x A N L hm hnd hxl hx hF hL hA hN hB hk [.var (idx0 m)] 0 (.inl rfl)
  rw [call_fun (E2_none (by decide) (by decide)) (f:=a219) rfl rfl]
  unfold idx0 onceV at h1
  by_cases h:∀ p ∈ x,(findM m p.1).isSome = true
  · rw [if_pos h] at h1 ⊢
    generalize appF (imgF m) x = y at *
    simp (maxSteps:=1000000) (disch:=first | omega | decide) only [si,sf,simprocAttr,doBox,a219,a219R,h1]
  · rw [if_neg h] at h1 ⊢
    simp (maxSteps:=1000000) (disch:=first | omega | decide) only [si,sf,simprocAttr,doBox,a219,a219R,h1]
def E2n (n:Nat):CallF:=fun g args H=>if g = 253 then onceCall (callN E1 GP n) H args else E1 g args H
theorem onceCall_mono {K K':CallF} (h:CLe K K') {H args r} (e:onceCall K H args = some r):onceCall K' H args = some r:=by
  unfold onceCall at e ⊢
  split at e
  case h_2=>cases e
  rename_i o p c caps
  try simp only
  unfold onceA at e ⊢
  split at e
  case h_2=>cases e
  try simp only
  split at e
  case isFalse hd=>rw [if_neg hd]; exact e
  rename_i hd
  rw [if_pos hd]
  unfold onceB at e ⊢
  split at e
  case h_2=>cases e
  try simp only
  split at e
  case isFalse=>cases e
  rename_i hm
  rw [if_pos hm]
  cases hs:doStore 1 H (stA o p) (.int .i32 1) with
  | none=>rw [hs] at e; cases e
  | some q =>
    obtain ⟨y,H1,b⟩:=q
    rw [hs] at e
    simp only [onceC] at e ⊢
    split at e
    case isFalse=>cases e
    rename_i hg
    rw [if_pos hg]
    cases hk:K c caps H1 with
    | none=>rw [hk] at e; cases e
    | some z=>rw [hk] at e; rw [h _ _ _ _ hk]; exact e
theorem E2n_le (m:Nat) {n g a H r} (h:callN (E2n m) GP n g a H = some r):call E2 GP g a H = some r:=by
  have hE:CLe (E2n m) E2:=fun g a H r h=>by
    unfold E2n at h
    unfold E2
    split at h
    · rename_i hg; rw [if_pos hg]; exact onceCall_mono (callN_call m) h
    · rename_i hg; rw [if_neg hg]; exact h
  have key:∀ n,RLe (runN (E2n m) GP n) (runN E2 GP n) ∧ CLe (callN (E2n m) GP n) (callN E2 GP n):=by
    intro n
    induction n with
    | zero=>exact ⟨fun c st r e=>(by rw [runN] at e; cases e),fun g a H r e=>(by rw [callN] at e; cases e)⟩
    | succ n ih =>
      refine ⟨fun c st r e=>?_,fun g a H r e=>?_⟩
      · rw [runN] at e ⊢; exact stepRun_mono ih.2 ih.1 _ _ _ e
      · rw [callN] at e ⊢
        have e2:=stepCall_mono ih.1 _ _ _ _ e
        unfold stepCall at e2 ⊢
        cases h1:E2n m g a H with
        | some q=>rw [h1] at e2; rw [hE g a H q h1]; exact e2
        | none =>
          rw [h1] at e2
          by_cases hg:g = 253
          · subst hg
            simp only [callE] at e2
            rw [show GP 253 = none from rfl] at e2
            cases e2
          · have q1:E2n m g a H = E1 g a H:=if_neg hg
            rw [show E2 g a H = E1 g a H from if_neg hg,← q1,h1]; exact e2
  exact call_of ((key n).2 _ _ _ _ h)
theorem san29_0:callN (E2n 200) GP 2000 211 [] [] = some (.bool true,[],false):=by kernel_rfl
theorem san29 (H:Heap):call E2 GP 211 [] H = some (.bool true,H,false):=by
  have h:=E2n_le 200 san29_0
  rw [call_fun (E2_none (by decide) (by decide)) (f:=a211) rfl rfl] at h ⊢
  have hm:a211.mode = .iso:=rfl
  rw [hm] at h ⊢
  simp only [callFun] at h ⊢
  cases hr:runIso (run E2 GP) a211 [] with
  | none=>rw [hr] at h; cases h
  | some r=>rw [hr] at h; simp only [withHeap,Option.some.injEq,Prod.mk.injEq] at h ⊢; simpa using h.1
end Tor
