import Derived.Test.YtpilpjameifcfaaDoorAll5
import Derived.WalkKit
import Derived.Deep.RegionLaw
import Derived.Lib.SliceRun
import Derived.Lib.Overlaps
import Derived.Lib.AppendZeros
import Derived.Lib.AppendZerosOnto
import Derived.Laws.Externs
import Derived.Test.YtpilpjameifcfaaDoorProg
import Derived.Test.YtpilpjameifcfaaDoorAll6
/- slices.Insert (one element) and slices.Delete (one element) on an own row, out of their walks ("roads"): what a program's own texts show by walking. -/
namespace Go.EW
set_option linter.unusedVariables false
set_option linter.unusedSimpArgs false
open Go Go.Lib
variable {P : Program}

/-- A copy into a row whose cells are known. -/
theorem run_copy_row (w : World) (dT sT ty elem : TypeId) (i : TypeInfo) (g o dLen dCap : Nat) (a : Addr) (sLen sCap : Nat) (cs : List Value) (cur : Array Value) (t : TypeId)
    (hu : P.underlying dT = some (.slice elem)) (hi : P.info? elem = some i) (hn : cs.length = Nat.min sLen dLen * i.size) (hg : w.heap[g]? = some (.cells cur t (0, 0))) (hl : o + cs.length ≤ cur.size)
    (hsrc : ∀ j v, cs[j]? = some v → w.cell? (a.add j) = some v) (h1 : ∀ v ∈ cs, v.oneCell' = true) :
    (Builtin.copy_ #[dT, sT] ty #[.slice (some ⟨g, o, none⟩) dLen dCap, .slice (some a) sLen sCap]).run P w = .ok (goInt (Nat.min sLen dLen)) (w.setRow g (cur.toList.take o ++ cs ++ cur.toList.drop (o + cs.length)).toArray) := by
  have hf := run_firstCells_some (P := P) w i.size (Nat.min sLen dLen) a sLen sCap cs hn hsrc
  have hst := run_storeCells_at P g o t cs 0 cur w hg (by omega) h1
  simp only [Nat.add_zero] at hst
  simp [Builtin.copy_, run_underlying hu, Builtin.lenOf, sizeOf, typeInfo, hi, hf, hst]

/-- An operation 'copy(d, s)' whose run is known by an equation. -/
theorem wp_copy_runI (w : World) {o : Oper} {a : Act} {K : Act → World → Prop} {Q : Exit → Act → World → Prop} (d s : Operand) (t t' : TypeId)
    (ho : o.op = .call { callee := .builtin .copy, args := #[d, s], argTypes := #[t, t'] }) (v u : Value) (hd : a.eval d = v) (hs : a.eval s = u) {v' : Value} {w' : World}
    (hr : (Builtin.copy_ #[t, t'] o.type #[v, u]).run P w = .ok v' w') (h : K (a.put o.dst v') w') : o.wp P a w K Q := by
  unfold Oper.wp execOp
  simp only [ho, resolve, invoke, builtin, Sem.run_bind, Sem.run_pure, Result.andThen_ok, List.map_toArray, List.map_cons, List.map_nil, hd, hs, hr]
  exact h
theorem wpList_copy_runI (w : World) {ops : Array Oper} {rest : List Oper} {o : Oper} {a : Act} {Q : Exit → Act → World → Prop} (hgd : o.guard = none) (d s : Operand) (t t' : TypeId)
    (ho : o.op = .call { callee := .builtin .copy, args := #[d, s], argTypes := #[t, t'] }) (v u : Value) (hd : a.eval d = v) (hs : a.eval s = u) {v' : Value} {w' : World}
    (hr : (Builtin.copy_ #[t, t'] o.type #[v, u]).run P w = .ok v' w') (h : wpList P ops Q rest (a.put o.dst v') w') : wpList P ops Q (o :: rest) a w :=
  wpList_plain hgd fun _ hK => wp_copy_runI w d s t t' ho v u hd hs hr (hK _ _ h)
theorem step_copy_runI {ops : Array Oper} {o : Oper} {a : Act} {w : World} {K : Act → World → Prop} {Q : Exit → Act → World → Prop} {E : Prop}
    (hg : o.guard = none) (d x : Operand) (dT sT : TypeId) (hop : o.op = Op.call { callee := Callee.builtin Builtin.copy, args := #[d, x], argTypes := #[dT, sT] })
    (v u : Value) (hd : a.eval d = v) (hx : a.eval x = u) {v' : Value} {w' : World} (hr : (Builtin.copy_ #[dT, sT] o.type #[v, u]).run P w = .ok v' w') (hK : K (a.put o.dst v') w') :
    if Region.wanted o (yielded ops a.tmps) = true then Oper.wp P o a w K Q else E := by
  have hw : Region.wanted o (yielded ops a.tmps) = true := by simp [Region.wanted, hg]
  rw [if_pos hw]
  unfold Oper.wp
  simp [execOp, hop, resolve, invoke, builtin, hd, hx, hr, Result.andThen]
  exact hK
theorem step_append_runI {ops : Array Oper} {o : Oper} {a : Act} {w : World} {K : Act → World → Prop} {Q : Exit → Act → World → Prop} {E : Prop}
    (hg : o.guard = none) (d x : Operand) (dT sT : TypeId) (hop : o.op = Op.call { callee := Callee.builtin Builtin.append, args := #[d, x], argTypes := #[dT, sT] })
    (v u : Value) (hd : a.eval d = v) (hx : a.eval x = u) {v' : Value} {w' : World} (hr : (Builtin.append_ #[dT, sT] o.type #[v, u]).run P w = .ok v' w') (hK : K (a.put o.dst v') w') :
    if Region.wanted o (yielded ops a.tmps) = true then Oper.wp P o a w K Q else E := by
  have hw : Region.wanted o (yielded ops a.tmps) = true := by simp [Region.wanted, hg]
  rw [if_pos hw]
  unfold Oper.wp
  simp [execOp, hop, resolve, invoke, builtin, hd, hx, hr, Result.andThen]
  exact hK

/-! ### the roads -/
def InsShift (P : Program) (f fov : FuncId) (tS : TypeId) (es : Nat) : Prop := ∀ (g n c i vb mc : Nat) (W1 W2 w : World), i < n → n + 1 ≤ c → c ≤ 9223372036854775807 →
  (∀ lb cb, (callFunc fov #[.slice (some ⟨vb, 0, none⟩) 1 mc, .slice (some ⟨g, (i + 1) * es, none⟩) lb cb]).run P w = .ok (.value (.bool false)) w) →
  (∀ ty, (Builtin.copy_ #[tS, tS] ty #[.slice (some ⟨g, (i + 1) * es, none⟩) (n - i) (c - (i + 1)), .slice (some ⟨g, i * es, none⟩) (n + 1 - i) (c - i)]).run P w.drew = .ok (goInt ((n - i : Nat) : Int)) W1) →
  (∀ ty, (Builtin.copy_ #[tS, tS] ty #[.slice (some ⟨g, i * es, none⟩) (n + 1 - i) (c - i), .slice (some ⟨vb, 0, none⟩) 1 mc]).run P W1 = .ok (goInt 1) W2) →
  Calls P f #[.slice (some ⟨g, 0, none⟩) n c, .int .i64 i, .slice (some ⟨vb, 0, none⟩) 1 mc] w fun e w' => e = .returned (.slice (some ⟨g, 0, none⟩) (n + 1) c) ∧ w' = W2
def InsEnd (P : Program) (f : FuncId) (tS : TypeId) : Prop := ∀ (base : Option Addr) (n c vb m mc : Nat) (v' : Value) (w W1 : World), n ≤ c → 0 < m →
  ((Builtin.append_ #[tS, tS] tS #[.slice base n c, .slice (some ⟨vb, 0, none⟩) m mc]).run P w = .ok v' W1) →
  Calls P f #[.slice base n c, .int .i64 n, .slice (some ⟨vb, 0, none⟩) m mc] w fun e w' => e = .returned v' ∧ w' = W1
def InsGrow (P : Program) (f : FuncId) (tS tI : TypeId) (es : Nat) : Prop := ∀ (g n c i vb mc g2 C : Nat) (W1 W2 W3 w : World), i < n → n ≤ c → c < n + 1 → c ≤ 9223372036854775806 → n + 1 ≤ C → C ≤ 9223372036854775807 →
  (∀ ty, (Builtin.append_ #[tS, tI] ty #[.slice (some ⟨g, 0, none⟩) i c, .int .i64 ((n : Int) + 1 - (i : Int))]).run P w = .ok (.slice (some ⟨g2, 0, none⟩) (n + 1) C) W1) →
  (∀ ty, (Builtin.copy_ #[tS, tS] ty #[.slice (some ⟨g2, i * es, none⟩) (n + 1 - i) (C - i), .slice (some ⟨vb, 0, none⟩) 1 mc]).run P W1 = .ok (goInt 1) W2) →
  (∀ ty, (Builtin.copy_ #[tS, tS] ty #[.slice (some ⟨g2, (i + 1) * es, none⟩) (n - i) (C - (i + 1)), .slice (some ⟨g, i * es, none⟩) (n - i) (c - i)]).run P W2.drew = .ok (goInt ((n - i : Nat) : Int)) W3) →
  Calls P f #[.slice (some ⟨g, 0, none⟩) n c, .int .i64 i, .slice (some ⟨vb, 0, none⟩) 1 mc] w fun e w' => e = .returned (.slice (some ⟨g2, 0, none⟩) (n + 1) C) ∧ w' = W3
def DelOne (P : Program) (f : FuncId) (tS : TypeId) (es : Nat) : Prop := ∀ (g n c i j k : Nat) (A : Addr) (W1 W2 w : World), j = i + 1 → k = n - 1 → j ≤ n → n ≤ c → c ≤ 9223372036854775807 →
  ((if c = j then some (⟨g, 0, none⟩ : Addr) else some ⟨g, j * es, none⟩) = some A) →
  (∀ ty, (Builtin.append_ #[tS, tS] ty #[.slice (some ⟨g, 0, none⟩) i c, .slice (some A) (n - j) (c - j)]).run P w.drew = .ok (.slice (some ⟨g, 0, none⟩) k c) W1) →
  (∀ ty, (Builtin.clear_ #[tS] ty #[.slice (some ⟨g, k * es, none⟩) (n - k) (c - k)]).run P W1 = .ok (.tuple #[]) W2) →
  Calls P f #[.slice (some ⟨g, 0, none⟩) n c, .int .i64 i, .int .i64 j] w fun e w' => e = .returned (.slice (some ⟨g, 0, none⟩) k c) ∧ w' = W2

/-- What is known of a slice's element type. -/
structure ElemT (P : Program) (tS e : TypeId) (es bytes : Nat) (ti : TypeInfo) (z : Value) : Prop where
  u : P.underlying tS = some (.slice e)
  hi : P.info? e = some ti
  hz : ti.zero = some z
  hs : ti.size = es
  hb : ti.bytes = bytes
  zs : z.cells.size = es
  zo : ∀ u ∈ z.cells.toList, u.oneCell' = true
  pos : 0 < es

theorem elemT_of {P : Program} {tS e : TypeId} {es bytes : Nat} (hu : P.underlying tS = some (.slice e)) (hz : (zer P e).map (·.length) = some es) (hs : (P.info? e).map (·.size) = some es) (hb : (P.info? e).map (·.bytes) = some bytes) (hp : 0 < es) :
    ∃ ti z, ElemT P tS e es bytes ti z := by
  obtain ⟨zl, hz1, hz2⟩ := Option.map_eq_some_iff.1 hz
  obtain ⟨i', zv, hi', hzi, hzc, hone⟩ := zer_some hz1
  rw [hi'] at hs hb
  simp only [Option.map_some, Option.some.injEq] at hs hb
  refine ⟨i', zv, hu, hi', hzi, hs, hb, by rw [← hz2, ← hzc]; simp, ?_, hp⟩
  intro u hu'
  rw [hzc] at hu'
  exact hone u hu'
theorem addr_add {b o j : Nat} : (⟨b, o, none⟩ : Addr).add j = ⟨b, o + j, none⟩ := Addr.add_lit ..
theorem row_cell {w : World} {g : Nat} {cur : Array Value} {e : TypeId} (hg : w.heap[g]? = some (.cells cur e (0, 0))) {L : List Value} {o : Nat} (h : ∀ (j : Nat) (u : Value), L[j]? = some u → cur.toList[o + j]? = some u) :
    ∀ (j : Nat) (u : Value), L[j]? = some u → w.cell? ((⟨g, o, none⟩ : Addr).add j) = some u := by
  intro j u hu
  rw [addr_add, cell_of_row w g (o + j) cur e (0, 0) hg]
  simpa using h j u hu

/-- The insertion, as a step of the world. -/
theorem ins_run {f fov : FuncId} {tS tI e tB : TypeId} {es bytes : Nat} {ti : TypeInfo} {z : Value} (E : ElemT P tS e es bytes ti z) (hI : P.underlying tI = some (.int .i64))
    (hs : InsShift P f fov tS es) (he : InsEnd P f tS) (hgr : InsGrow P f tS tI es)
    (hfov : ∀ w a b, (callFunc fov #[a, b]).run P w = ((Extern.SlicesOverlaps.overlaps #[tS, tS] #[tB] #[a, b]).run P w).andThen fun v w' => .ok (.value v) w')
    (w : World) (base : Option Addr) (n cap i vb mc : Nat) (flat vs : List Value) (cur1 : Array Value) (how : w.ownsRow 0 e es (.slice base n cap) n flat) (hvr : w.heap[vb]? = some (.cells cur1 e (0, 0))) (hv1 : cur1.toList.take es = vs) (hvl : vs.length = es) (hmc : 1 ≤ mc)
    (h1f : ∀ u ∈ flat, u.oneCell' = true) (h1v : ∀ u ∈ vs, u.oneCell' = true) (hne : ∀ a, base = some a → a.block ≠ vb) (hin : i ≤ n) (hn : n + 1 ≤ 1000000000) (hby : (n + 1) * bytes ≤ 140737488355328) :
    ∃ v' W', (Calls P f #[.slice base n cap, .int .i64 i, .slice (some ⟨vb, 0, none⟩) 1 mc] w fun e w' => e = .returned v' ∧ w' = W') ∧ W'.ownsRow 0 e es v' (n + 1) (flat.take (i * es) ++ vs ++ flat.drop (i * es)) ∧
      w.grownBy W' (Value.slice base n cap).ownBlock ∧ (v'.ownBlock = (Value.slice base n cap).ownBlock ∨ v'.ownBlock = some w.heap.size) := by
  have hvc : ∀ (j : Nat) (u : Value), vs[j]? = some u → cur1.toList[0 + j]? = some u := by
    intro j u hu
    rw [← hv1, List.getElem?_take] at hu
    split at hu
    · simpa using hu
    · simp at hu
  have hvlt : vb < w.heap.size := (Array.getElem?_eq_some_iff.1 hvr).1
  have hi' := E.hi
  have hpos := E.pos
  by_cases hie : i = n
  · subst hie
    obtain ⟨v', W', hrun, hown, hg, hnil, hat⟩ := run_append_own_at (P := P) w 0 tS tS e ti z es bytes E.u E.hi E.hz E.hs E.hb E.zs E.pos (.slice base i cap) i flat how ⟨vb, 0, none⟩ 1 mc vs (by rw [hvl]; omega)
      (row_cell hvr hvc) h1v (by unfold maxLen; omega) hby (Nat.zero_le _)
    have hnc : i ≤ cap := by
      rcases how.2 with ⟨h1, h2⟩ | ⟨g, cap', cur, h1, _, _, h2, _⟩
      · simp only [Value.slice.injEq] at h1; omega
      · simp only [Value.slice.injEq] at h1; omega
    refine ⟨v', W', he base i cap vb 1 mc v' w W' hnc (by omega) hrun, ?_, hg, hat⟩
    have h1 : flat.take (i * es) = flat := List.take_of_length_le (by rw [how.1]; omega)
    have h2 : flat.drop (i * es) = [] := List.drop_of_length_le (by rw [how.1]; omega)
    rw [h1, h2, List.append_nil]
    exact hown
  · have hlt : i < n := by omega
    rcases how.2 with ⟨h1, h2⟩ | ⟨g, cap', cur, h1, _, hg, hnc, hcm, hcs, htk⟩
    · omega
    · simp only [Value.slice.injEq] at h1
      obtain ⟨rfl, _, rfl⟩ := h1
      have hgv : g ≠ vb := hne _ rfl
      have hml : cap ≤ 9223372036854775807 := by unfold maxLen at hcm; omega
      have hfl : flat.length = n * es := how.1
      -- what stands in the row
      obtain ⟨A, hA⟩ : ∃ A, A = flat.take (i * es) := ⟨_, rfl⟩
      obtain ⟨B, hB⟩ : ∃ B, B = flat.drop (i * es) := ⟨_, rfl⟩
      have hmul : i * es + (n - i) * es = n * es := by rw [← Nat.add_mul]; congr 1; omega
      have hm1 : (i + 1) * es = i * es + es := by rw [Nat.add_mul]; omega
      have hm2 : (n + 1) * es = n * es + es := by rw [Nat.add_mul]; omega
      have hAl : A.length = i * es := by rw [hA, List.length_take]; omega
      have hBl : B.length = (n - i) * es := by rw [hB, List.length_drop]; omega
      have hAB : flat = A ++ B := by rw [hA, hB, List.take_append_drop]
      have hncm : n * es ≤ cap * es := Nat.mul_le_mul_right _ hnc
      obtain ⟨sp, hsp⟩ : ∃ sp, cur.toList = A ++ (B ++ sp) := ⟨cur.toList.drop (n * es), by rw [← List.append_assoc, ← hAB, ← htk, List.take_append_drop]⟩
      have hcl : cur.toList.length = cap * es := by simpa using hcs
      have hspl : i * es + ((n - i) * es + sp.length) = cap * es := by rw [← hcl, hsp]; simp [hAl, hBl]
      have h1B : ∀ u ∈ B, u.oneCell' = true := fun u hu => h1f u (by rw [hAB]; exact List.mem_append_right _ hu)
      have hBc : ∀ (j : Nat) (u : Value), B[j]? = some u → cur.toList[i * es + j]? = some u := by
        intro j u hu
        rw [hsp, List.getElem?_append_right (by omega), hAl, show i * es + j - i * es = j by omega, List.getElem?_append_left (lt_of_get hu)]
        exact hu
      rw [← hA, ← hB]
      by_cases hroom : n + 1 ≤ cap
      · have hcap1 : (n + 1) * es ≤ cap * es := Nat.mul_le_mul_right _ hroom
        have hov : ∀ lb cb, (callFunc fov #[.slice (some ⟨vb, 0, none⟩) 1 mc, .slice (some ⟨g, (i + 1) * es, none⟩) lb cb]).run P w = .ok (.value (.bool false)) w := fun lb cb => by
          rw [hfov, Lib.run_overlaps_apart w tS tB e E.u es (fun w => by simp [sizeOf, typeInfo, hi', E.hs]) ⟨vb, 0, none⟩ ⟨g, (i + 1) * es, none⟩ 1 mc lb cb (by simpa using hgv.symm) e e cur1.size cur.size (by simp [World.shape?, hvr]) (by simp [World.shape?, hg]) (by rw [hcs]; omega) (by simp [World.frozen?, hvr]) (by simp [World.frozen?, hvr])]
          rfl
        -- the first copy
        have hg' : w.drew.heap[g]? = some (.cells cur e (0, 0)) := hg
        have hc1 := fun ty => run_copy_row (P := P) w.drew tS tS ty e ti g ((i + 1) * es) (n - i) (cap - (i + 1)) ⟨g, i * es, none⟩ (n + 1 - i) (cap - i) B cur e E.u hi' (by rw [hBl, E.hs]; congr 1; simp only [Nat.min_def]; split <;> omega) hg' (by rw [hBl, hcs]; omega) (row_cell hg' hBc) h1B
        rw [show Nat.min (n + 1 - i) (n - i) = n - i by simp only [Nat.min_def]; split <;> omega] at hc1
        obtain ⟨cur2, hcur2⟩ : ∃ cur2, (cur.toList.take ((i + 1) * es) ++ B ++ cur.toList.drop ((i + 1) * es + B.length)).toArray = cur2 := ⟨_, rfl⟩
        rw [hcur2] at hc1
        have hw2 := setRow_heap w.drew g cur cur2 e (0, 0) hg'
        have hl2 : cur2.toList = A ++ ((cur.toList.drop (i * es)).take es ++ (B ++ cur.toList.drop ((i + 1) * es + B.length))) := by
          rw [← hcur2]
          have : cur.toList.take ((i + 1) * es) = A ++ (cur.toList.drop (i * es)).take es := by
            rw [hm1, List.take_add]
            congr 1
            rw [hsp, List.take_left' hAl]
          simp only [this, List.append_assoc]
        have hX : ((cur.toList.drop (i * es)).take es).length = es := by rw [List.length_take, List.length_drop, hcl]; omega
        obtain ⟨R, hR⟩ : ∃ R, cur.toList.drop ((i + 1) * es + B.length) = R := ⟨_, rfl⟩
        rw [hR] at hl2
        have hrest : R.length = cap * es - (n + 1) * es := by rw [← hR, List.length_drop, hcl, hBl]; omega
        have hs2 : cur2.size = cap * es := by
          have : cur2.toList.length = cap * es := by rw [hl2]; simp only [List.length_append, hAl, hX, hBl, hrest]; omega
          simpa using this
        -- the second copy
        have hvr2 : (w.drew.setRow g cur2).heap[vb]? = some (.cells cur1 e (0, 0)) := by rw [setRow_other _ _ _ _ hgv.symm]; exact hvr
        have hc2 := fun ty => run_copy_row (P := P) (w.drew.setRow g cur2) tS tS ty e ti g (i * es) (n + 1 - i) (cap - i) ⟨vb, 0, none⟩ 1 mc vs cur2 e E.u hi' (by rw [hvl, E.hs, show Nat.min 1 (n + 1 - i) = 1 by simp only [Nat.min_def]; split <;> omega]; omega) hw2 (by rw [hvl, hs2]; omega) (row_cell hvr2 hvc) h1v
        rw [show Nat.min 1 (n + 1 - i) = 1 by simp only [Nat.min_def]; split <;> omega] at hc2
        refine ⟨_, _, hs g n cap i vb mc _ _ w hlt hroom hml hov hc1 hc2, ⟨?_, .inr ⟨g, cap, _, rfl, Nat.zero_le _, setRow_heap _ _ _ _ _ _ hw2, hroom, hcm, ?_, ?_⟩⟩, ⟨rfl, rfl, rfl, by simp, ?_⟩, .inl rfl⟩
        · simp only [List.length_append, hAl, hvl, hBl]; omega
        · simp only [List.size_toArray, List.length_append, List.length_take, List.length_drop]
          have : cur2.toList.length = cap * es := by simpa using hs2
          omega
        · have e1 : cur2.toList.take (i * es) = A := by rw [hl2, List.take_left' hAl]
          have e2 : cur2.toList.drop (i * es + vs.length) = B ++ R := by
            rw [hl2, hvl, ← List.drop_drop, List.drop_left' hAl, List.drop_left' hX]
          simp only [e1, e2]
          rw [← List.append_assoc, List.take_left']
          simp only [List.length_append, hAl, hvl, hBl]; omega
        · intro k hk hne'
          have hkg : k ≠ g := by rintro rfl; exact hne' rfl
          rw [setRow_other _ _ _ _ hkg, setRow_other _ _ _ _ hkg]
          rfl
      · have hcn : cap = n := by omega
        subst hcn
        have hold : (Builtin.firstCells ti.size i (.slice (some ⟨g, 0, none⟩) i cap)).run P w.drew = .ok A.toArray w.drew :=
          run_firstCells_some w.drew ti.size i ⟨g, 0, none⟩ i cap A (by rw [hAl, E.hs]) (row_cell (show w.drew.heap[g]? = some (.cells cur e (0, 0)) from hg) fun j u hu => by
            rw [hsp, Nat.zero_add, List.getElem?_append_left (lt_of_get hu)]; exact hu)
        have hge := grownCap_ge w (cap + 1) cap e
        have hgm := grownCap_le_maxLen w (cap + 1) cap e (by unfold maxLen; omega)
        have hap := fun ty => Lib.run_append_grow_zeros (P := P) w tS tI ty e ti z .i64 .i64 E.u hI E.hi E.hz (some ⟨g, 0, none⟩) i cap A hold (cap + 1 - i) (by omega) (by rw [E.hs]; exact hpos) (by omega) (by omega)
          (by
            have : (cap + 1 - i) * ti.bytes ≤ (cap + 1) * ti.bytes := Nat.mul_le_mul_right _ (by omega)
            rw [E.hb] at this ⊢; omega)
          (by rw [show i + (cap + 1 - i) = cap + 1 by omega, E.hb]; exact growslice_fits (by omega) hby)
        rw [show i + (cap + 1 - i) = cap + 1 by omega] at hap
        obtain ⟨C, hC⟩ : ∃ C, grownCap w (cap + 1) cap e = C := ⟨_, rfl⟩
        rw [hC] at hge hgm hap
        have hCe : (cap + 1) * es ≤ C * es := Nat.mul_le_mul_right _ hge
        obtain ⟨ROW, hROW⟩ : ∃ ROW, (A.toArray ++ Builtin.zeroCells z.cells (cap + 1 - i) ++ Builtin.zeroCells z.cells (C - (cap + 1))) = ROW := ⟨_, rfl⟩
        rw [hROW] at hap
        obtain ⟨Z, hRl⟩ : ∃ Z, ROW.toList = A ++ Z := ⟨(Builtin.zeroCells z.cells (cap + 1 - i)).toList ++ (Builtin.zeroCells z.cells (C - (cap + 1))).toList, by rw [← hROW]; simp⟩
        have hRs : ROW.size = C * es := by
          rw [← hROW]
          simp only [Array.size_append, List.size_toArray, size_zeroCells, E.zs, hAl]
          rw [← Nat.add_mul, ← Nat.add_mul]
          congr 1
          omega
        have hZl : i * es + Z.length = C * es := by
          have : ROW.toList.length = C * es := by simpa using hRs
          rw [hRl, List.length_append, hAl] at this
          exact this
        obtain ⟨W1, hW1⟩ : ∃ W1, w.drew.alloc (.cells ROW e) = W1 := ⟨_, rfl⟩
        rw [hW1] at hap
        have hN : W1.heap[w.heap.size]? = some (.cells ROW e (0, 0)) := by rw [← hW1]; exact Go.heap_alloc_new w.drew _
        have hO : ∀ k, k < w.heap.size → W1.heap[k]? = w.heap[k]? := fun k hk => by rw [← hW1]; first | exact heap_alloc_old w.drew _ k hk | exact heap_alloc_old w.drew _ hk
        have hgl : g < w.heap.size := (Array.getElem?_eq_some_iff.1 hg).1
        have hvr1 : W1.heap[vb]? = some (.cells cur1 e (0, 0)) := by rw [hO vb hvlt]; exact hvr
        have hc1 := fun ty => run_copy_row (P := P) W1 tS tS ty e ti w.heap.size (i * es) (cap + 1 - i) (C - i) ⟨vb, 0, none⟩ 1 mc vs ROW e E.u hi' (by rw [hvl, E.hs, show Nat.min 1 (cap + 1 - i) = 1 by simp only [Nat.min_def]; split <;> omega]; omega) hN (by rw [hvl, hRs]; omega) (row_cell hvr1 hvc) h1v
        rw [show Nat.min 1 (cap + 1 - i) = 1 by simp only [Nat.min_def]; split <;> omega] at hc1
        obtain ⟨R2, hR2⟩ : ∃ R2, (ROW.toList.take (i * es) ++ vs ++ ROW.toList.drop (i * es + vs.length)).toArray = R2 := ⟨_, rfl⟩
        rw [hR2] at hc1
        have hl2 : R2.toList = A ++ (vs ++ Z.drop es) := by
          rw [← hR2, hRl, hvl, List.take_left' hAl, ← List.drop_drop, List.drop_left' hAl]
          simp
        have hs2 : R2.size = C * es := by
          have : R2.toList.length = C * es := by rw [hl2]; simp only [List.length_append, hAl, hvl, List.length_drop]; omega
          simpa using this
        have hN2 := setRow_heap W1 w.heap.size ROW R2 e (0, 0) hN
        have hg2 : (W1.setRow w.heap.size R2).drew.heap[g]? = some (.cells cur e (0, 0)) := by
          show (W1.setRow w.heap.size R2).heap[g]? = _
          rw [setRow_other _ _ _ _ (by omega), hO g hgl]
          exact hg
        have hN2' : (W1.setRow w.heap.size R2).drew.heap[w.heap.size]? = some (.cells R2 e (0, 0)) := hN2
        have hc2 := fun ty => run_copy_row (P := P) (W1.setRow w.heap.size R2).drew tS tS ty e ti w.heap.size ((i + 1) * es) (cap - i) (C - (i + 1)) ⟨g, i * es, none⟩ (cap - i) (cap - i) B R2 e E.u hi' (by rw [hBl, E.hs]; congr 1; simp only [Nat.min_def]; split <;> omega) hN2' (by rw [hBl, hs2]; omega) (row_cell hg2 hBc) h1B
        rw [show Nat.min (cap - i) (cap - i) = cap - i by simp only [Nat.min_def]; split <;> omega] at hc2
        refine ⟨_, _, hgr g cap cap i vb mc w.heap.size C _ _ _ w hlt (Nat.le_refl _) (by omega) (by omega) hge (by unfold maxLen at hgm; omega) (fun ty => by rw [show (cap : Int) + 1 - (i : Int) = ((cap + 1 - i : Nat) : Int) by omega]; exact hap ty) hc1 hc2,
          ⟨?_, .inr ⟨w.heap.size, C, _, rfl, Nat.zero_le _, setRow_heap _ _ _ _ _ _ hN2', hge, hgm, ?_, ?_⟩⟩, ⟨?_, ?_, ?_, ?_, ?_⟩, .inr rfl⟩
        · simp only [List.length_append, hAl, hvl, hBl]; omega
        · simp only [List.size_toArray, List.length_append, List.length_take, List.length_drop]
          have : R2.toList.length = C * es := by simpa using hs2
          omega
        · have e1 : R2.toList.take ((i + 1) * es) = A ++ vs := by rw [hl2, ← List.append_assoc, List.take_left' (by rw [List.length_append, hAl, hvl, hm1])]
          simp only [e1]
          rw [List.take_left']
          simp only [List.length_append, hAl, hvl, hBl]; omega
        · rw [← hW1]; rfl
        · rw [← hW1]; rfl
        · rw [← hW1]; rfl
        · rw [← hW1]; simp
        · intro k hk _
          rw [setRow_other _ _ _ _ (by omega)]
          show (W1.setRow w.heap.size R2).heap[k]? = _
          rw [setRow_other _ _ _ _ (by omega), hO k hk]

/-- One element taken out, as a step of the world. -/
theorem del_run {f : FuncId} {tS e : TypeId} {es bytes : Nat} {ti : TypeInfo} {z : Value} (E : ElemT P tS e es bytes ti z) (hd : DelOne P f tS es)
    (w : World) (base : Option Addr) (n cap i : Nat) (flat : List Value) (how : w.ownsRow 0 e es (.slice base n cap) n flat) (h1f : ∀ u ∈ flat, u.oneCell' = true) (hin : i < n) :
    ∃ v' W', (Calls P f #[.slice base n cap, .int .i64 i, .int .i64 ((i : Int) + 1)] w fun e w' => e = .returned v' ∧ w' = W') ∧ W'.ownsRow 0 e es v' (n - 1) (flat.take (i * es) ++ flat.drop ((i + 1) * es)) ∧
      w.grownBy W' (Value.slice base n cap).ownBlock ∧ (v'.ownBlock = (Value.slice base n cap).ownBlock ∨ v'.ownBlock = some w.heap.size) := by
  have hi' := E.hi
  have hpos := E.pos
  rcases how.2 with ⟨h1, h2⟩ | ⟨g, cap', cur, h1, _, hg, hnc, hcm, hcs, htk⟩
  · omega
  · simp only [Value.slice.injEq] at h1
    obtain ⟨rfl, _, rfl⟩ := h1
    have hml : cap ≤ 9223372036854775807 := by unfold maxLen at hcm; omega
    have hfl : flat.length = n * es := how.1
    have hmul : (i + 1) * es + (n - (i + 1)) * es = n * es := by rw [← Nat.add_mul]; congr 1; omega
    have hm1 : (i + 1) * es = i * es + es := by rw [Nat.add_mul]; omega
    have hm2 : (n - 1) * es = i * es + (n - (i + 1)) * es := by rw [← Nat.add_mul]; congr 1; omega
    have hncm : n * es ≤ cap * es := Nat.mul_le_mul_right _ hnc
    have hcl : cur.toList.length = cap * es := by simpa using hcs
    obtain ⟨B, hB⟩ : ∃ B, B = flat.drop ((i + 1) * es) := ⟨_, rfl⟩
    have hBl : B.length = (n - (i + 1)) * es := by rw [hB, List.length_drop]; omega
    have h1B : ∀ u ∈ B, u.oneCell' = true := fun u hu => h1f u (by rw [hB] at hu; exact List.mem_of_mem_drop hu)
    have hBc : ∀ (j : Nat) (u : Value), B[j]? = some u → cur.toList[(i + 1) * es + j]? = some u := by
      intro j u hu
      have hlt := lt_of_get hu
      rw [hB, List.getElem?_drop, ← htk, List.getElem?_take] at hu
      split at hu
      · exact hu
      · simp at hu
    have hAt : cur.toList.take (i * es) = flat.take (i * es) := by
      rw [← htk, List.take_take]
      congr 1
      have := Nat.mul_le_mul_right es (Nat.le_of_lt hin)
      omega
    have hg' : w.drew.heap[g]? = some (.cells cur e (0, 0)) := hg
    obtain ⟨A, hA, hAc⟩ : ∃ A : Addr, (if cap = i + 1 then some (⟨g, 0, none⟩ : Addr) else some ⟨g, (i + 1) * es, none⟩) = some A ∧ ∀ (j : Nat) (u : Value), B[j]? = some u → w.drew.cell? (A.add j) = some u := by
      by_cases hc : cap = i + 1
      · refine ⟨⟨g, 0, none⟩, by rw [if_pos hc], fun j u hu => ?_⟩
        have h0 : B = [] := List.eq_nil_of_length_eq_zero (by rw [hBl, show n - (i + 1) = 0 by omega, Nat.zero_mul])
        rw [h0] at hu
        simp at hu
      · exact ⟨⟨g, (i + 1) * es, none⟩, by rw [if_neg hc], row_cell hg' hBc⟩
    have hap := fun ty => run_append_room (P := P) w.drew tS ty e ti E.u hi' g i cap cur hg' A (n - (i + 1)) (cap - (i + 1)) B (by rw [hBl, E.hs]) hAc h1B (by omega) (by rw [hBl, hcs, E.hs]; omega)
    rw [show i + (n - (i + 1)) = n - 1 by omega, E.hs] at hap
    obtain ⟨R, hR⟩ : ∃ R, (cur.toList.take (i * es) ++ B ++ cur.toList.drop (i * es + B.length)).toArray = R := ⟨_, rfl⟩
    rw [hR] at hap
    have hAl : (flat.take (i * es)).length = i * es := by
      have := Nat.mul_le_mul_right es (Nat.le_of_lt hin)
      rw [List.length_take]; omega
    obtain ⟨S, hS⟩ : ∃ S, cur.toList.drop (i * es + B.length) = S := ⟨_, rfl⟩
    have hSl : S.length = cap * es - (i * es + B.length) := by rw [← hS, List.length_drop, hcl]
    have hRl : R.toList = flat.take (i * es) ++ (B ++ S) := by rw [← hR, hAt, hS]; simp
    have hRs : R.size = cap * es := by
      have : R.toList.length = cap * es := by rw [hRl]; simp only [List.length_append, hAl, hSl]; omega
      simpa using this
    have hw1 := setRow_heap w.drew g cur R e (0, 0) hg'
    have hzc : (Builtin.zeroCells z.cells (n - (n - 1))).toList.length = es := by
      have := size_zeroCells z.cells (n - (n - 1))
      rw [E.zs, show n - (n - 1) = 1 by omega] at this
      rw [show n - (n - 1) = 1 by omega]
      simpa using this
    have hzo : ∀ u ∈ (Builtin.zeroCells z.cells (n - (n - 1))).toList, u.oneCell' = true := by
      intro u hu
      rw [show n - (n - 1) = 1 by omega] at hu
      refine E.zo u ?_
      obtain ⟨a, ha, rfl⟩ : ∃ a, a < z.cells.size ∧ z.cells[a % z.cells.size]! = u := by simpa [Builtin.zeroCells] using hu
      have hlt : a % z.cells.size < z.cells.size := Nat.mod_lt _ (by omega)
      rw [getElem!_pos z.cells _ hlt]
      simp
    obtain ⟨ZZ, hZZ⟩ : ∃ ZZ, (Builtin.zeroCells z.cells (n - (n - 1))).toList = ZZ := ⟨_, rfl⟩
    rw [hZZ] at hzc hzo
    have hst := run_storeCells_at P g ((n - 1) * es) e ZZ 0 R (w.drew.setRow g R) hw1 (by rw [hzc, hRs]; omega) hzo
    simp only [Nat.add_zero] at hst
    obtain ⟨k1, hk1⟩ : ∃ k1, n - (n - 1) = k1 + 1 := ⟨0, by omega⟩
    have hclr : ∀ ty, (Builtin.clear_ #[tS] ty #[.slice (some ⟨g, (n - 1) * es, none⟩) (n - (n - 1)) (cap - (n - 1))]).run P (w.drew.setRow g R) = .ok (.tuple #[]) _ := fun ty => by
      rw [hk1] at hZZ ⊢
      simp only [Builtin.clear_]
      simp only [List.getElem?_toArray, List.getElem?_cons_zero, Sem.run_bind, run_underlying E.u, zeroValue, typeInfo, hi', E.hz]
      simp [zeroValue, typeInfo, hi', E.hz, hZZ, hst]
      rfl
    refine ⟨_, _, hd g n cap i (i + 1) (n - 1) A _ _ w rfl rfl hin hnc hml hA hap hclr, ⟨?_, .inr ⟨g, cap, _, rfl, Nat.zero_le _, setRow_heap _ _ _ _ _ _ hw1, by omega, hcm, ?_, ?_⟩⟩, ⟨rfl, rfl, rfl, by simp, ?_⟩, .inl rfl⟩
    · rw [← hB]; simp only [List.length_append, hAl, hBl]; omega
    · have : R.toList.length = cap * es := by simpa using hRs
      simp only [List.size_toArray, List.length_append, List.length_take, List.length_drop, hzc]
      omega
    · have e1 : R.toList.take ((n - 1) * es) = flat.take (i * es) ++ B := by
        rw [hRl, ← List.append_assoc, List.take_left']
        simp only [List.length_append, hAl, hBl]; omega
      simp only [e1, List.append_assoc]
      rw [← List.append_assoc, List.take_left', hB]
      simp only [List.length_append, hAl, hBl]; omega
    · intro k hk hne'
      have hkg : k ≠ g := by rintro rfl; exact hne' rfl
      rw [setRow_other _ _ _ _ hkg, setRow_other _ _ _ _ hkg]
      rfl

/-! ### as contracts -/
theorem ones_of {Φ : Nat → Prop} {w : World} {fs : List FV} {vs : List Value} (h : All2 (FR Φ w) fs vs) : ∀ u ∈ vs, u.oneCell' = true := by
  intro u hu
  obtain ⟨j, hj⟩ := List.getElem?_of_mem hu
  obtain ⟨c, _, hr⟩ := h.get' hj
  exact hr.oneCell
theorem row_own {w : World} {m : Nat} {ρ0 : Nat → Value} {Φ0 : Nat → Prop} {H : Nat → Option EO} {X : Cx} (r : Rel w m ρ0 Φ0 H X) {o : Nat} {e : TypeId} {es : Nat} {xs : List (List FV)} (hH : H o = some (.row e es xs)) {v : Value} (hv : VR X (.row o xs.length) v) :
    ∃ base cap flat, v = .slice base xs.length cap ∧ X.ρ o = v ∧ 0 < es ∧ (∀ x ∈ xs, x.length = es) ∧ X.w.ownsRow 0 e es (.slice base xs.length cap) xs.length flat ∧ All2 (FR X.Φ X.w) xs.flatten flat := by
  obtain ⟨hu, a, n0, cap, hρ, q1, q2, q3⟩ := hv
  obtain ⟨h0, hl, flat, how, hall⟩ := (r.obj o _ hH).2
  rw [hρ] at how
  have hn : n0 = xs.length := by
    rcases how.2 with ⟨hn, hz⟩ | ⟨g, cap', cur, he, _⟩
    · simp only [Value.slice.injEq] at hn; omega
    · simp only [Value.slice.injEq] at he; omega
  subst hn
  exact ⟨a, cap, flat, q3, by rw [hρ, q3], h0, hl, how, hall⟩

theorem ins_ecalls {f fov : FuncId} {tS tI e tB : TypeId} {es bytes : Nat} {ti : TypeInfo} {z : Value} (E : ElemT P tS e es bytes ti z) (hI : P.underlying tI = some (.int .i64))
    (hs : InsShift P f fov tS es) (he : InsEnd P f tS) (hgr : InsGrow P f tS tI es)
    (hfov : ∀ w a b, (callFunc fov #[a, b]).run P w = ((Extern.SlicesOverlaps.overlaps #[tS, tS] #[tB] #[a, b]).run P w).andThen fun v w' => .ok (.value v) w')
    (xs : List (List FV)) (x : List FV) (i : Nat) (hin : i ≤ xs.length) (hn : xs.length + 1 ≤ 1000000000) (hby : (xs.length + 1) * bytes ≤ 140737488355328) :
    ECalls P f [.v (.c (.row 0 xs.length)), .lit (.int .i64 i), .v (.c (.row 1 1))] [.row e es xs, .row e es [x]] fun y H' =>
      H' = [none, some (.row e es [x]), some (.row e es (xs.take i ++ x :: xs.drop i))] ∧ y = .v (.c (.row 2 (xs.length + 1))) := by
  intro ρ Φ w vals r ha
  obtain ⟨v0, vs0, rfl, h0, ha⟩ := ha.cons_left
  obtain ⟨v1, vs1, rfl, h1, ha⟩ := ha.cons_left
  obtain ⟨v2, vs2, rfl, h2, ha⟩ := ha.cons_left
  obtain rfl := ha.nil_left
  have h1' : FR Φ w (.lit (.int .i64 i)) v1 := h1
  obtain rfl : v1 = .int .i64 i := by cases h1'; rfl
  obtain ⟨base, cap, flat, rfl, hρ0, hp, hl, how, hall⟩ := row_own r (o := 0) (e := e) (es := es) (xs := xs) rfl h0
  obtain ⟨base2, mc, vs, rfl, hρ1, _, hl2, how2, hall2⟩ := row_own r (o := 1) (e := e) (es := es) (xs := [x]) rfl h2
  have hxl : x.length = es := hl2 x (by simp)
  rcases how2.2 with ⟨_, hbad⟩ | ⟨vb, mc', cur1, hvb, _, hvr, hmc, _, _, htk⟩
  · simp at hbad
  simp only [List.length_cons, List.length_nil, Nat.zero_add, Value.slice.injEq, true_and] at hvb hmc htk
  obtain ⟨rfl, rfl⟩ := hvb
  have hvl : vs.length = es := by have := how2.1; simpa using this
  have hne : ∀ a, base = some a → a.block ≠ vb := by
    rintro a rfl hb'
    have hb0 : hb (ρ 0) = some vb := by have : ρ 0 = _ := hρ0; rw [this]; simp [hb, hb']
    have hb1 : hb (ρ 1) = some vb := by have : ρ 1 = _ := hρ1; rw [this]; rfl
    exact absurd (r.inj 0 1 _ _ vb rfl rfl hb0 hb1) (by decide)
  obtain ⟨v', W', hcalls, hown, hg, hat⟩ := ins_run E hI hs he hgr hfov w base xs.length cap i vb mc flat vs cur1 how hvr (by simpa using htk) hvl hmc (ones_of hall) (by have := ones_of hall2; exact this) hne hin hn hby
  refine hcalls.mono ?_
  rintro e' w' ⟨rfl, rfl⟩
  have hob : (Value.slice base xs.length cap).ownBlock = hb (Value.slice base xs.length cap) := own_hb _ rfl
  obtain ⟨a', n', hv'⟩ : ∃ a' c', v' = .slice a' (xs.length + 1) c' ∧ xs.length + 1 ≤ c' := by
    rcases hown.2 with ⟨h1, h2⟩ | ⟨g, cap', cur, h1, _, _, h2, _⟩
    · omega
    · exact ⟨_, cap', h1, h2⟩
  have hob' := own_hb v' hv'.1
  have nbo : ∀ b, Φ b → some b ≠ (Value.slice base xs.length cap).ownBlock := by
    intro b hb' e'
    refine r.dis 0 _ b rfl ?_ hb'
    have : ρ 0 = _ := hρ0
    show hb (ρ 0) = some b
    rw [this, ← hob, e']
  have hl0 : Later ⟨fun o => o < 2, ρ, Φ, w⟩ { U := fun o => o < 2 ∨ o = 2, ρ := upd ρ 2 v', Φ := Φ, w := w' } :=
    ⟨fun _ h => .inl h, fun o hu => upd_ne _ _ _ (by have : o < 2 := hu; omega), fun _ h => h, fun b hb' => hg.block b (r.fro b hb') (nbo b hb')⟩
  have hfl : (xs.take i ++ x :: xs.drop i).flatten = xs.flatten.take (i * es) ++ x ++ xs.flatten.drop (i * es) := by
    rw [List.flatten_append, List.flatten_cons, flatten_take hl, flatten_drop hl, List.append_assoc]
  have hlen : (xs.take i ++ x :: xs.drop i).length = xs.length + 1 := by simp; omega
  have hx2 : All2 (FR Φ w) x vs := by have := hall2; simpa using this
  obtain ⟨r', l'⟩ := r.grow (some 0) (Value.slice base xs.length cap).ownBlock (.inr ⟨0, _, rfl, rfl, by have : ρ 0 = _ := hρ0; show hb (ρ 0) = _; rw [this, hob]⟩) hg (id := 2) (by show ¬ (2 < 2); omega) (Nat.le_refl _) v'
    (by rw [← hob']; rcases hat with h | h; exact .inr (.inl h); exact .inr (.inr h)) (.row e es (xs.take i ++ x :: xs.drop i))
    ⟨hp, by
      intro y hy
      rcases List.mem_append.1 hy with h | h
      · exact hl y (List.mem_of_mem_take h)
      · rcases List.mem_cons.1 h with rfl | h
        · exact hxl
        · exact hl y (List.mem_of_mem_drop h), _, by rw [hlen]; exact hown, by
      rw [hfl]
      exact (((hall.take _).append hx2).append (hall.drop _)).mono fun _ _ => hl0.fr⟩
  have hU : (fun o => o < 2 ∨ o = 2) = fun o => o < 3 := funext fun o => propext (by omega)
  have hH : upd (dropO (ofL [EO.row e es xs, .row e es [x]]) (some 0)) 2 (some (.row e es (xs.take i ++ x :: xs.drop i))) = ofO [none, some (.row e es [x]), some (.row e es (xs.take i ++ x :: xs.drop i))] := by
    funext o
    match o with
    | 0 => rfl
    | 1 => rfl
    | 2 => rfl
    | o + 3 => simp [upd, dropO, ofL, ofO]
  refine ⟨_, _, v', upd ρ 2 v', Φ, rfl, ⟨rfl, rfl⟩, by simp, ?_, ?_⟩
  · exact ⟨by show 2 < _; simp, a', xs.length + 1, n', by simp [upd_same, hv'.1], Nat.le_refl _, hv'.2, hv'.1⟩
  · have r2 : Rel w 2 ρ Φ _ { U := fun o => o < 2 ∨ o = 2, ρ := upd ρ 2 v', Φ := Φ, w := w' } := r'
    rw [hU] at r2
    have r3 := hH ▸ r2
    exact r3

theorem del_ecalls {f : FuncId} {tS e : TypeId} {es bytes : Nat} {ti : TypeInfo} {z : Value} (E : ElemT P tS e es bytes ti z) (hd : DelOne P f tS es)
    (xs : List (List FV)) (i : Nat) (hin : i < xs.length) :
    ECalls P f [.v (.c (.row 0 xs.length)), .lit (.int .i64 i), .lit (.int .i64 ((i : Int) + 1))] [.row e es xs] fun y H' =>
      H' = [none, some (.row e es (xs.take i ++ xs.drop (i + 1)))] ∧ y = .v (.c (.row 1 (xs.length - 1))) := by
  intro ρ Φ w vals r ha
  obtain ⟨v0, vs0, rfl, h0, ha⟩ := ha.cons_left
  obtain ⟨v1, vs1, rfl, h1, ha⟩ := ha.cons_left
  obtain ⟨v2, vs2, rfl, h2, ha⟩ := ha.cons_left
  obtain rfl := ha.nil_left
  have h1' : FR Φ w (.lit (.int .i64 i)) v1 := h1
  obtain rfl : v1 = .int .i64 i := by cases h1'; rfl
  have h2' : FR Φ w (.lit (.int .i64 ((i : Int) + 1))) v2 := h2
  obtain rfl : v2 = .int .i64 ((i : Int) + 1) := by cases h2'; rfl
  obtain ⟨base, cap, flat, rfl, hρ0, hp, hl, how, hall⟩ := row_own r (o := 0) (e := e) (es := es) (xs := xs) rfl h0
  obtain ⟨v', W', hcalls, hown, hg, hat⟩ := del_run E hd w base xs.length cap i flat how (ones_of hall) hin
  refine hcalls.mono ?_
  rintro e' w' ⟨rfl, rfl⟩
  have hob : (Value.slice base xs.length cap).ownBlock = hb (Value.slice base xs.length cap) := own_hb _ rfl
  obtain ⟨a', n', hv'⟩ : ∃ a' c', v' = .slice a' (xs.length - 1) c' ∧ xs.length - 1 ≤ c' := by
    rcases hown.2 with ⟨h1, h2⟩ | ⟨g, cap', cur, h1, _, _, h2, _⟩
    · exact ⟨none, 0, by rw [h1, h2], by omega⟩
    · exact ⟨_, cap', h1, h2⟩
  have hob' := own_hb v' hv'.1
  have nbo : ∀ b, Φ b → some b ≠ (Value.slice base xs.length cap).ownBlock := by
    intro b hb' e'
    refine r.dis 0 _ b rfl ?_ hb'
    have : ρ 0 = _ := hρ0
    show hb (ρ 0) = some b
    rw [this, ← hob, e']
  have hl0 : Later ⟨fun o => o < 1, ρ, Φ, w⟩ { U := fun o => o < 1 ∨ o = 1, ρ := upd ρ 1 v', Φ := Φ, w := w' } :=
    ⟨fun _ h => .inl h, fun o hu => upd_ne _ _ _ (by have : o < 1 := hu; omega), fun _ h => h, fun b hb' => hg.block b (r.fro b hb') (nbo b hb')⟩
  have hfl : (xs.take i ++ xs.drop (i + 1)).flatten = xs.flatten.take (i * es) ++ xs.flatten.drop ((i + 1) * es) := by
    rw [List.flatten_append, flatten_take hl, flatten_drop hl]
  have hlen : (xs.take i ++ xs.drop (i + 1)).length = xs.length - 1 := by simp; omega
  obtain ⟨r', l'⟩ := r.grow (some 0) (Value.slice base xs.length cap).ownBlock (.inr ⟨0, _, rfl, rfl, by have : ρ 0 = _ := hρ0; show hb (ρ 0) = _; rw [this, hob]⟩) hg (id := 1) (by show ¬ (1 < 1); omega) (Nat.le_refl _) v'
    (by rw [← hob']; rcases hat with h | h; exact .inr (.inl h); exact .inr (.inr h)) (.row e es (xs.take i ++ xs.drop (i + 1)))
    ⟨hp, by
      intro y hy
      rcases List.mem_append.1 hy with h | h
      · exact hl y (List.mem_of_mem_take h)
      · exact hl y (List.mem_of_mem_drop h), _, by rw [hlen]; exact hown, by
      rw [hfl]
      exact ((hall.take _).append (hall.drop _)).mono fun _ _ => hl0.fr⟩
  have hU : (fun o => o < 1 ∨ o = 1) = fun o => o < 2 := funext fun o => propext (by omega)
  have hH : upd (dropO (ofL [EO.row e es xs]) (some 0)) 1 (some (.row e es (xs.take i ++ xs.drop (i + 1)))) = ofO [none, some (.row e es (xs.take i ++ xs.drop (i + 1)))] := by
    funext o
    match o with
    | 0 => rfl
    | 1 => rfl
    | o + 2 => simp [upd, dropO, ofL, ofO]
  refine ⟨_, _, v', upd ρ 1 v', Φ, rfl, ⟨rfl, rfl⟩, by simp, ?_, ?_⟩
  · exact ⟨by show 1 < _; simp, a', xs.length - 1, n', by simp [upd_same, hv'.1], Nat.le_refl _, hv'.2, hv'.1⟩
  · have r2 : Rel w 1 ρ Φ _ { U := fun o => o < 1 ∨ o = 1, ρ := upd ρ 1 v', Φ := Φ, w := w' } := r'
    rw [hU] at r2
    have r3 := hH ▸ r2
    exact r3

end Go.EW

set_option linter.unusedVariables false
set_option linter.unusedSimpArgs false
namespace Go.Proofs.YtpilpjameifcfaaDoor
open Go.RowKit Go.Lib Go.EW
namespace InsP

theorem elem : ∃ ti z, ElemT Tryd.prog 36 45 36 64 ti z := elemT_of (by kernel_rfl) (by kernel_rfl) (by kernel_rfl) (by kernel_rfl) (by decide)
theorem fov (w : World) (a b : Value) : (callFunc 77 #[a, b]).run Tryd.prog w = ((Extern.SlicesOverlaps.overlaps #[36, 36] #[4] #[a, b]).run Tryd.prog w).andThen fun v w' => .ok (.value v) w' := by
  rw [run_callFunc_extern Tryd.func77 (by kernel_rfl) (by kernel_rfl) (by kernel_rfl) (e := Extern.SlicesOverlaps.overlaps #[36, 36] #[4]) (by kernel_rfl)]

set_option maxHeartbeats 4000000 in
set_option maxRecDepth 100000 in
theorem shift : InsShift Tryd.prog 51 77 36 36 := by
  intro g n c i vb mc W1 W2 w hi hroom hc63 hov hc1 hc2
  have hz2 : ¬ ((i : Int) = (n : Int)) := by omega
  have hw1 : IntKind.i64.wrap ((i : Int) + 1) = (i : Int) + 1 := by rw [IntKind.wrap_i64]; omega
  have hw2 : IntKind.i64.wrap ((n : Int) + 1) = (n : Int) + 1 := by rw [IntKind.wrap_i64]; omega
  have hb1 : (0 : Int) ≤ (i : Int) + 1 := by omega
  have hin : i ≤ n := by omega
  have htn : ((i : Int) + 1).toNat = i + 1 := by omega
  have hb2 : ¬ (c = i + 1) := by omega
  have hb3 : (i : Int) ≤ (n : Int) + 1 := by omega
  have hb4 : ¬ (c = i) := by omega
  go_enter Tryd.func51, Tryd.ntmps51
  go_wp2_with (simp only [hov])
  go_region_law (refine step_copy_runI rfl _ _ 36 36 rfl _ _ (by simp [Act.eval, Act.put]) (by simp [Act.eval, Act.put]) (hc1 _) ?_)
  go_wp2_with (at_builtin; refine wpList_copy_runI _ rfl _ _ 36 36 rfl _ _ rfl rfl (hc2 _) ?_)
  go_ret
  exact ⟨rfl, rfl⟩

set_option maxHeartbeats 4000000 in
set_option maxRecDepth 100000 in
theorem atEnd : InsEnd Tryd.prog 51 36 := by
  intro base n c vb m mc v' w W1 hnc hm hap
  have hz1 : ¬ ((m : Int) = 0) := by omega
  go_enter Tryd.func51, Tryd.ntmps51
  cases base with
  | none =>
    go_wp2_with (at_builtin; refine Lib.wpList_append_run _ rfl _ _ _ _ rfl _ _ rfl rfl _ _ hap ?_)
    go_ret
    exact ⟨rfl, rfl⟩
  | some a =>
    obtain ⟨ab, ao, asp⟩ := a
    go_wp2_with (at_builtin; refine Lib.wpList_append_run _ rfl _ _ _ _ rfl _ _ rfl rfl _ _ hap ?_)
    all_goals (go_ret; exact ⟨rfl, rfl⟩)

set_option maxHeartbeats 4000000 in
set_option maxRecDepth 100000 in
theorem grow : InsGrow Tryd.prog 51 36 3 36 := by
  intro g n c i vb mc g2 C W1 W2 W3 w hi hnc hroom hc63 hC hC63 hap hc1 hc2
  have hz2 : ¬ ((i : Int) = (n : Int)) := by omega
  have hz3 : (c : Int) < (n : Int) + 1 := by omega
  have hw1 : IntKind.i64.wrap ((i : Int) + 1) = (i : Int) + 1 := by rw [IntKind.wrap_i64]; omega
  have hw2 : IntKind.i64.wrap ((n : Int) + 1) = (n : Int) + 1 := by rw [IntKind.wrap_i64]; omega
  have hw3 : IntKind.i64.wrap ((n : Int) + 1 - (i : Int)) = (n : Int) + 1 - (i : Int) := by rw [IntKind.wrap_i64]; omega
  have hb1 : (0 : Int) ≤ (i : Int) + 1 := by omega
  have hin : i ≤ n := by omega
  have htn : ((i : Int) + 1).toNat = i + 1 := by omega
  have hb2 : ¬ (C = i + 1) := by omega
  have hb3 : (i : Int) ≤ (n : Int) := by omega
  have hb4 : ¬ (C = i) := by omega
  have hb5 : ¬ (c = i) := by omega
  have hb6 : (i : Int) ≤ (n : Int) + 1 := by omega
  go_enter Tryd.func51, Tryd.ntmps51
  go_wp2_with (first
    | (at_builtin; refine Lib.wpList_append_run _ rfl _ _ _ _ rfl _ _ rfl rfl _ _ (hap _) ?_)
    | (at_builtin; refine wpList_copy_runI _ rfl _ _ 36 36 rfl _ _ rfl rfl (hc1 _) ?_))
  go_region_law (refine step_copy_runI rfl _ _ 36 36 rfl _ _ (by simp [Act.eval, Act.put]) (by simp [Act.eval, Act.put]) (hc2 _) ?_)
  go_wp2
  go_ret
  exact ⟨rfl, rfl⟩

/-- slices.Insert of one element. -/
theorem ins_ok (xs : List (List FV)) (x : List FV) (i : Nat) (hin : i ≤ xs.length) (hn : xs.length + 1 ≤ 10000000) :
    ECalls Tryd.prog 51 [.v (.c (.row 0 xs.length)), .lit (.int .i64 i), .v (.c (.row 1 1))] [.row 45 36 xs, .row 45 36 [x]] fun y H' =>
      H' = [none, some (.row 45 36 [x]), some (.row 45 36 (xs.take i ++ x :: xs.drop i))] ∧ y = .v (.c (.row 2 (xs.length + 1))) := by
  obtain ⟨ti, z, E⟩ := elem
  exact ins_ecalls E (by kernel_rfl) shift atEnd grow fov xs x i hin (by omega) (by omega)

set_option maxHeartbeats 4000000 in
set_option maxRecDepth 100000 in
theorem del1 : DelOne Tryd.prog 79 36 36 := by
  intro g n c i j k A W1 W2 w hj hk hi hnc hc63 hA hap hcl
  have hz2 : ¬ ((i : Int) = (j : Int)) := by omega
  have hb1 : (i : Int) ≤ (j : Int) := by omega
  have hb2 : (j : Int) ≤ (n : Int) := by omega
  have hin : i ≤ n := by omega
  have hic : i ≤ c := by omega
  have hjc : j ≤ c := by omega
  have hb3 : (k : Int) ≤ (n : Int) := by omega
  have hb4 : ¬ (c = k) := by omega
  have hb5 : (n : Int) ≤ (c : Int) := by omega
  clear hj hk
  go_enter Tryd.func79, Tryd.ntmps79
  go_wp2_with fail
  go_region_law (refine step_append_runI rfl _ _ 36 36 rfl _ _ (by simp [Act.eval, Act.put]) (by simp [Act.eval, Act.put, hA]) (hap _) ?_)
  go_wp2
  go_ret
  exact ⟨rfl, rfl⟩

/-- slices.Delete of one element. -/
theorem del_ok (xs : List (List FV)) (i : Nat) (hin : i < xs.length) :
    ECalls Tryd.prog 79 [.v (.c (.row 0 xs.length)), .lit (.int .i64 i), .lit (.int .i64 ((i : Int) + 1))] [.row 45 36 xs] fun y H' =>
      H' = [none, some (.row 45 36 (xs.take i ++ xs.drop (i + 1)))] ∧ y = .v (.c (.row 1 (xs.length - 1))) := by
  obtain ⟨ti, z, E⟩ := elem
  exact del_ecalls E del1 xs i hin

end InsP
end Go.Proofs.YtpilpjameifcfaaDoor

namespace Go.Proofs.YtpilpjameifcfaaDoor
open Go Go.EW
set_option linter.unusedSimpArgs false
set_option linter.unusedVariables false

@[simp] def l_CmpI_1 (_ : Unit) : List EOp := [⟨0, (some 4), none, (.q (.mov (.k (.int .i64 0)))), []⟩]
@[simp] def b_CmpI_2 (_ : Unit) : EB := reg0 (hid l_CmpI_1) 1
@[simp] def l_CmpI_3 (_ : Unit) : List EOp := [⟨0, (some 7), none, (.q (.mov (.t 0))), []⟩, ⟨1, (some 8), none, (.call 87 [(.t 7)]), []⟩, ⟨2, (some 5), none, (.q (.mov (.t 8))), []⟩]
@[simp] def b_CmpI_4 (_ : Unit) : EB := reg0 (hid l_CmpI_3) 3
@[simp] def l_CmpI_5 (_ : Unit) : List EOp := [⟨0, (some 9), none, (.q (.mov (.t 1))), []⟩, ⟨1, (some 10), none, (.call 87 [(.t 9)]), []⟩, ⟨2, (some 6), none, (.q (.mov (.t 10))), []⟩]
@[simp] def b_CmpI_6 (_ : Unit) : EB := reg0 (hid l_CmpI_5) 3
@[simp] def l_CmpI_7 (_ : Unit) : List EOp := [⟨0, (some 11), none, (.q (.mov (.t 5))), []⟩]
@[simp] def b_CmpI_8 (_ : Unit) : EB := reg0 (hid l_CmpI_7) 1
@[simp] def l_CmpI_9 (_ : Unit) : List EOp := [⟨0, (some 12), none, (.q (.mov (.t 6))), []⟩]
@[simp] def b_CmpI_10 (_ : Unit) : EB := reg0 (hid l_CmpI_9) 1
@[simp] def l_CmpI_11 (_ : Unit) : List EOp := [⟨0, (some 4), none, (.q (.mov (.k (.int .i64 0)))), []⟩]
@[simp] def b_CmpI_12 (_ : Unit) : EB := reg0 (hid l_CmpI_11) 1
@[simp] def b_CmpI_13 (_ : Unit) : EB := .seq (hid b_CmpI_12) .ret
@[simp] def b_CmpI_14 (_ : Unit) : EB := .cond (.t 12) (hid b_CmpI_13) .skip
@[simp] def b_CmpI_15 (_ : Unit) : EB := .seq (hid b_CmpI_10) (hid b_CmpI_14)
@[simp] def l_CmpI_16 (_ : Unit) : List EOp := [⟨0, (some 4), none, (.q (.mov (.k (.int .i64 (-1))))), []⟩]
@[simp] def b_CmpI_17 (_ : Unit) : EB := reg0 (hid l_CmpI_16) 1
@[simp] def b_CmpI_18 (_ : Unit) : EB := .seq (hid b_CmpI_17) .ret
@[simp] def b_CmpI_19 (_ : Unit) : EB := .seq (hid b_CmpI_15) (hid b_CmpI_18)
@[simp] def b_CmpI_20 (_ : Unit) : EB := .cond (.t 11) (hid b_CmpI_19) .skip
@[simp] def b_CmpI_21 (_ : Unit) : EB := .seq (hid b_CmpI_8) (hid b_CmpI_20)
@[simp] def l_CmpI_22 (_ : Unit) : List EOp := [⟨0, (some 13), none, (.q (.mov (.t 6))), []⟩]
@[simp] def b_CmpI_23 (_ : Unit) : EB := reg0 (hid l_CmpI_22) 1
@[simp] def l_CmpI_24 (_ : Unit) : List EOp := [⟨0, (some 4), none, (.q (.mov (.k (.int .i64 1)))), []⟩]
@[simp] def b_CmpI_25 (_ : Unit) : EB := reg0 (hid l_CmpI_24) 1
@[simp] def b_CmpI_26 (_ : Unit) : EB := .seq (hid b_CmpI_25) .ret
@[simp] def b_CmpI_27 (_ : Unit) : EB := .cond (.t 13) (hid b_CmpI_26) .skip
@[simp] def b_CmpI_28 (_ : Unit) : EB := .seq (hid b_CmpI_23) (hid b_CmpI_27)
@[simp] def l_CmpI_29 (_ : Unit) : List EOp := [⟨0, (some 14), none, (.q (.mov (.t 0))), []⟩, ⟨1, (some 15), none, (.q (.mov (.t 1))), []⟩, ⟨2, (some 16), none, (.q (.bin .lss (.t 14) (.t 15))), []⟩]
@[simp] def b_CmpI_30 (_ : Unit) : EB := reg0 (hid l_CmpI_29) 3
@[simp] def l_CmpI_31 (_ : Unit) : List EOp := [⟨0, (some 4), none, (.q (.mov (.k (.int .i64 (-1))))), []⟩]
@[simp] def b_CmpI_32 (_ : Unit) : EB := reg0 (hid l_CmpI_31) 1
@[simp] def b_CmpI_33 (_ : Unit) : EB := .seq (hid b_CmpI_32) .ret
@[simp] def b_CmpI_34 (_ : Unit) : EB := .cond (.t 16) (hid b_CmpI_33) .skip
@[simp] def b_CmpI_35 (_ : Unit) : EB := .seq (hid b_CmpI_30) (hid b_CmpI_34)
@[simp] def l_CmpI_36 (_ : Unit) : List EOp := [⟨0, (some 17), none, (.q (.mov (.t 0))), []⟩, ⟨1, (some 18), none, (.q (.mov (.t 1))), []⟩, ⟨2, (some 19), none, (.q (.bin .gtr (.t 17) (.t 18))), []⟩]
@[simp] def b_CmpI_37 (_ : Unit) : EB := reg0 (hid l_CmpI_36) 3
@[simp] def l_CmpI_38 (_ : Unit) : List EOp := [⟨0, (some 4), none, (.q (.mov (.k (.int .i64 1)))), []⟩]
@[simp] def b_CmpI_39 (_ : Unit) : EB := reg0 (hid l_CmpI_38) 1
@[simp] def b_CmpI_40 (_ : Unit) : EB := .seq (hid b_CmpI_39) .ret
@[simp] def b_CmpI_41 (_ : Unit) : EB := .cond (.t 19) (hid b_CmpI_40) .skip
@[simp] def b_CmpI_42 (_ : Unit) : EB := .seq (hid b_CmpI_37) (hid b_CmpI_41)
@[simp] def l_CmpI_43 (_ : Unit) : List EOp := [⟨0, (some 4), none, (.q (.mov (.k (.int .i64 0)))), []⟩]
@[simp] def b_CmpI_44 (_ : Unit) : EB := reg0 (hid l_CmpI_43) 1
@[simp] def b_CmpI_45 (_ : Unit) : EB := .seq (hid b_CmpI_44) .ret
@[simp] def b_CmpI_46 (_ : Unit) : EB := .seq (hid b_CmpI_42) (hid b_CmpI_45)
@[simp] def b_CmpI_47 (_ : Unit) : EB := .seq (hid b_CmpI_35) (hid b_CmpI_46)
@[simp] def b_CmpI_48 (_ : Unit) : EB := .seq (hid b_CmpI_28) (hid b_CmpI_47)
@[simp] def b_CmpI_49 (_ : Unit) : EB := .seq (hid b_CmpI_21) (hid b_CmpI_48)
@[simp] def b_CmpI_50 (_ : Unit) : EB := .seq (hid b_CmpI_6) (hid b_CmpI_49)
@[simp] def b_CmpI_51 (_ : Unit) : EB := .seq (hid b_CmpI_4) (hid b_CmpI_50)
@[simp] def b_CmpI_52 (_ : Unit) : EB := .seq (hid b_CmpI_2) (hid b_CmpI_51)
def c_CmpI : EB × List QOp × Nat := ((hid b_CmpI_52), [(.mov (.t 4))], 20)
theorem k_CmpI : cfun Tryd.prog 76 = some c_CmpI := by kernel_rfl

@[simp] def l_NaNI_1 (_ : Unit) : List EOp := [⟨0, (some 2), none, (.q (.mov (.k (.bool false)))), []⟩]
@[simp] def b_NaNI_2 (_ : Unit) : EB := reg0 (hid l_NaNI_1) 1
@[simp] def l_NaNI_3 (_ : Unit) : List EOp := [⟨0, (some 3), none, (.q (.mov (.t 0))), []⟩, ⟨1, (some 4), none, (.q (.mov (.t 0))), []⟩, ⟨2, (some 5), none, (.q (.bin .neq (.t 3) (.t 4))), []⟩, ⟨3, (some 2), none, (.q (.mov (.t 5))), []⟩]
@[simp] def b_NaNI_4 (_ : Unit) : EB := reg0 (hid l_NaNI_3) 4
@[simp] def b_NaNI_5 (_ : Unit) : EB := .seq (hid b_NaNI_4) .ret
@[simp] def b_NaNI_6 (_ : Unit) : EB := .seq (hid b_NaNI_2) (hid b_NaNI_5)
def c_NaNI : EB × List QOp × Nat := ((hid b_NaNI_6), [(.mov (.t 2))], 6)
theorem k_NaNI : cfun Tryd.prog 87 = some c_NaNI := by kernel_rfl

@[simp] def l_byPay_1 (_ : Unit) : List EOp := [⟨0, (some 2), none, (.q (.box 45 (.t 0))), []⟩, ⟨1, (some 4), none, (.q (.mov (.k (.int .i64 0)))), []⟩]
@[simp] def b_byPay_2 (_ : Unit) : EB := reg0 (hid l_byPay_1) 2
@[simp] def l_byPay_3 (_ : Unit) : List EOp := [⟨0, (some 5), none, (.q (.fad 0 (.t 2))), []⟩, ⟨1, (some 6), none, (.q (.ldc (.t 5))), []⟩, ⟨2, (some 7), none, (.q (.mov (.t 1))), []⟩, ⟨3, (some 8), none, (.call 76 [(.t 6), (.t 7)]), []⟩, ⟨4, (some 4), none, (.q (.mov (.t 8))), []⟩]
@[simp] def b_byPay_4 (_ : Unit) : EB := reg0 (hid l_byPay_3) 5
@[simp] def b_byPay_5 (_ : Unit) : EB := .seq (hid b_byPay_4) .ret
@[simp] def b_byPay_6 (_ : Unit) : EB := .seq (hid b_byPay_2) (hid b_byPay_5)
def c_byPay : EB × List QOp × Nat := ((hid b_byPay_6), [(.mov (.t 4))], 9)
theorem k_byPay : cfun Tryd.prog 48 = some c_byPay := by kernel_rfl

@[simp] def l_BinP_1 (_ : Unit) : List EOp := [⟨0, (some 6), none, (.q (.mov (.k (.int .i64 0)))), []⟩, ⟨1, (some 7), none, (.q (.mov (.k (.bool false)))), []⟩]
@[simp] def b_BinP_2 (_ : Unit) : EB := reg0 (hid l_BinP_1) 2
@[simp] def l_BinP_3 (_ : Unit) : List EOp := [⟨0, (some 12), none, (.q (.mov (.t 0))), []⟩, ⟨1, (some 13), none, (.q (.len (.t 12))), []⟩, ⟨2, (some 8), none, (.q (.mov (.t 13))), []⟩]
@[simp] def b_BinP_4 (_ : Unit) : EB := reg0 (hid l_BinP_3) 3
@[simp] def l_BinP_5 (_ : Unit) : List EOp := [⟨0, (some 14), none, (.q (.mov (.t 8))), []⟩, ⟨1, (some 9), none, (.q (.mov (.k (.int .i64 0)))), []⟩, ⟨2, (some 10), none, (.q (.mov (.t 14))), []⟩]
@[simp] def b_BinP_6 (_ : Unit) : EB := reg0 (hid l_BinP_5) 3
@[simp] def l_BinP_7 (_ : Unit) : List EOp := [⟨0, (some 15), none, (.q (.mov (.t 9))), []⟩, ⟨1, (some 16), none, (.q (.mov (.t 10))), []⟩, ⟨2, (some 17), none, (.q (.bin .lss (.t 15) (.t 16))), []⟩]
@[simp] def b_BinP_8 (_ : Unit) : EB := reg0 (hid l_BinP_7) 3
@[simp] def b_BinP_9 (_ : Unit) : EB := .cond (.t 17) .skip (.exit 0)
@[simp] def b_BinP_10 (_ : Unit) : EB := .seq (hid b_BinP_8) (hid b_BinP_9)
@[simp] def l_BinP_12 (_ : Unit) : List EOp := [⟨6, (some 11), none, (.q (.mov (.t 23))), []⟩]
@[simp] def l_BinP_11 (_ : Unit) : List EOp := ⟨0, (some 18), none, (.q (.mov (.t 9))), []⟩ :: ⟨1, (some 19), none, (.q (.mov (.t 10))), []⟩ :: ⟨2, (some 20), none, (.q (.bin .add (.t 18) (.t 19))), []⟩ :: ⟨3, (some 21), none, (.q (.cnv .u64 (.t 20))), []⟩ :: ⟨4, (some 22), none, (.q (.bin .shr (.t 21) (.k (.int .u64 1)))), []⟩ :: ⟨5, (some 23), none, (.q (.cnv .i64 (.t 22))), []⟩ :: hid l_BinP_12
@[simp] def b_BinP_13 (_ : Unit) : EB := reg0 (hid l_BinP_11) 7
@[simp] def l_BinP_15 (_ : Unit) : List EOp := [⟨6, (some 30), none, (.clo (.t 24) [(.t 28), (.t 29)]), []⟩, ⟨7, (some 31), none, (.q (.bin .lss (.t 30) (.k (.int .i64 0)))), []⟩]
@[simp] def l_BinP_14 (_ : Unit) : List EOp := ⟨0, (some 24), none, (.q (.mov (.t 2))), []⟩ :: ⟨1, (some 25), none, (.q (.mov (.t 0))), []⟩ :: ⟨2, (some 26), none, (.q (.mov (.t 11))), []⟩ :: ⟨3, (some 27), none, (.q (.isl 36 (.t 25) (.t 26))), []⟩ :: ⟨4, (some 28), none, (.q (.lda 36 (.t 27))), []⟩ :: ⟨5, (some 29), none, (.q (.mov (.t 1))), []⟩ :: hid l_BinP_15
@[simp] def b_BinP_16 (_ : Unit) : EB := reg0 (hid l_BinP_14) 8
@[simp] def l_BinP_17 (_ : Unit) : List EOp := [⟨0, (some 32), none, (.q (.mov (.t 11))), []⟩, ⟨1, (some 33), none, (.q (.bin .add (.t 32) (.k (.int .i64 1)))), []⟩, ⟨2, (some 9), none, (.q (.mov (.t 33))), []⟩]
@[simp] def b_BinP_18 (_ : Unit) : EB := reg0 (hid l_BinP_17) 3
@[simp] def l_BinP_19 (_ : Unit) : List EOp := [⟨0, (some 34), none, (.q (.mov (.t 11))), []⟩, ⟨1, (some 10), none, (.q (.mov (.t 34))), []⟩]
@[simp] def b_BinP_20 (_ : Unit) : EB := reg0 (hid l_BinP_19) 2
@[simp] def b_BinP_21 (_ : Unit) : EB := .cond (.t 31) (hid b_BinP_18) (hid b_BinP_20)
@[simp] def b_BinP_22 (_ : Unit) : EB := .seq (hid b_BinP_16) (hid b_BinP_21)
@[simp] def b_BinP_23 (_ : Unit) : EB := .seq (hid b_BinP_13) (hid b_BinP_22)
@[simp] def b_BinP_24 (_ : Unit) : EB := .block 1 (hid b_BinP_23)
@[simp] def b_BinP_25 (_ : Unit) : EB := .seq (hid b_BinP_10) (hid b_BinP_24)
@[simp] def b_BinP_26 (_ : Unit) : EB := .loop (hid b_BinP_25)
@[simp] def b_BinP_27 (_ : Unit) : EB := .block 0 (hid b_BinP_26)
@[simp] def l_BinP_30 (_ : Unit) : List EOp := [⟨12, (some 47), (some (39, true)), (.q (.bin .eql (.t 46) (.k (.int .i64 0)))), []⟩, ⟨13, (some 48), none, (.q (.pick (.t 39) (.t 47) (.k (.bool false)))), []⟩, ⟨14, (some 6), none, (.q (.mov (.t 35))), []⟩, ⟨15, (some 7), none, (.q (.mov (.t 48))), []⟩]
@[simp] def l_BinP_29 (_ : Unit) : List EOp := ⟨6, (some 41), (some (39, true)), (.q (.mov (.t 0))), []⟩ :: ⟨7, (some 42), (some (39, true)), (.q (.mov (.t 9))), []⟩ :: ⟨8, (some 43), (some (39, true)), (.q (.isl 36 (.t 41) (.t 42))), []⟩ :: ⟨9, (some 44), (some (39, true)), (.q (.lda 36 (.t 43))), []⟩ :: ⟨10, (some 45), (some (39, true)), (.q (.mov (.t 1))), []⟩ :: ⟨11, (some 46), (some (39, true)), (.clo (.t 40) [(.t 44), (.t 45)]), []⟩ :: hid l_BinP_30
@[simp] def l_BinP_28 (_ : Unit) : List EOp := ⟨0, (some 35), none, (.q (.mov (.t 9))), []⟩ :: ⟨1, (some 36), none, (.q (.mov (.t 9))), []⟩ :: ⟨2, (some 37), none, (.q (.mov (.t 8))), []⟩ :: ⟨3, (some 38), none, (.q (.bin .lss (.t 36) (.t 37))), []⟩ :: ⟨4, (some 39), none, (.q (.mov (.t 38))), []⟩ :: ⟨5, (some 40), (some (39, true)), (.q (.mov (.t 2))), []⟩ :: hid l_BinP_29
@[simp] def b_BinP_31 (_ : Unit) : EB := reg0 (hid l_BinP_28) 16
@[simp] def b_BinP_32 (_ : Unit) : EB := .seq (hid b_BinP_31) .ret
@[simp] def b_BinP_33 (_ : Unit) : EB := .seq (hid b_BinP_27) (hid b_BinP_32)
@[simp] def b_BinP_34 (_ : Unit) : EB := .seq (hid b_BinP_6) (hid b_BinP_33)
@[simp] def b_BinP_35 (_ : Unit) : EB := .seq (hid b_BinP_4) (hid b_BinP_34)
@[simp] def b_BinP_36 (_ : Unit) : EB := .seq (hid b_BinP_2) (hid b_BinP_35)
def c_BinP : EB × List QOp × Nat := ((hid b_BinP_36), [(.mov (.t 6)), (.mov (.t 7))], 49)
theorem k_BinP : cfun Tryd.prog 47 = some c_BinP := by kernel_rfl

@[simp] def l_SAdd_1 (_ : Unit) : List EOp := [⟨0, (some 2), none, (.q (.box 39 (.t 0))), []⟩, ⟨1, (some 3), none, (.q (.box 45 (.t 1))), []⟩, ⟨2, (some 4), none, (.q (.alloc 39 [(.int .i64 0), (.int .i64 0), (.int .i64 0), (.slice none 0 0), (.slice none 0 0)])), []⟩, ⟨3, (some 5), none, (.q (.mov (.k .nilIface))), []⟩]
@[simp] def b_SAdd_2 (_ : Unit) : EB := reg0 (hid l_SAdd_1) 4
@[simp] def l_SAdd_4 (_ : Unit) : List EOp := [⟨6, none, none, (.fz (.sto 5 (.t 6) (.t 13))), []⟩, ⟨7, (some 7), none, (.q (.mov (.t 14))), []⟩]
@[simp] def l_SAdd_3 (_ : Unit) : List EOp := ⟨0, (some 11), none, (.q (.lda 5 (.t 2))), []⟩ :: ⟨1, (some 12), none, (.call 45 [(.t 11)]), []⟩ :: ⟨2, (some 10), none, (.q (.mov (.t 12))), []⟩ :: ⟨3, (some 13), none, (.q (.ext 0 (.t 10))), []⟩ :: ⟨4, (some 14), none, (.q (.ext 1 (.t 10))), []⟩ :: ⟨5, (some 6), none, (.q (.alloc 39 [(.int .i64 0), (.int .i64 0), (.int .i64 0), (.slice none 0 0), (.slice none 0 0)])), []⟩ :: hid l_SAdd_4
@[simp] def b_SAdd_5 (_ : Unit) : EB := reg0 (hid l_SAdd_3) 8
@[simp] def l_SAdd_6 (_ : Unit) : List EOp := [⟨0, (some 15), none, (.q (.mov (.t 7))), []⟩, ⟨1, (some 16), none, (.q (.eqi true (.t 15))), []⟩]
@[simp] def b_SAdd_7 (_ : Unit) : EB := reg0 (hid l_SAdd_6) 2
@[simp] def l_SAdd_8 (_ : Unit) : List EOp := [⟨0, (some 17), none, (.q (.build [(.int .i64 0), (.int .i64 0), (.int .i64 0), (.slice none 0 0), (.slice none 0 0)] [])), []⟩, ⟨1, (some 18), none, (.q (.mov (.t 7))), []⟩, ⟨2, none, none, (.fz (.sto 5 (.t 4) (.t 17))), []⟩, ⟨3, (some 5), none, (.q (.mov (.t 18))), []⟩]
@[simp] def b_SAdd_9 (_ : Unit) : EB := reg0 (hid l_SAdd_8) 4
@[simp] def b_SAdd_10 (_ : Unit) : EB := .seq (hid b_SAdd_9) .ret
@[simp] def b_SAdd_11 (_ : Unit) : EB := .cond (.t 16) (hid b_SAdd_10) .skip
@[simp] def b_SAdd_12 (_ : Unit) : EB := .seq (hid b_SAdd_7) (hid b_SAdd_11)
@[simp] def l_SAdd_14 (_ : Unit) : List EOp := [⟨6, (some 25), none, (.q (.ext 0 (.t 19))), []⟩, ⟨7, (some 26), none, (.q (.ext 1 (.t 19))), []⟩, ⟨8, (some 8), none, (.q (.mov (.t 25))), []⟩, ⟨9, (some 9), none, (.q (.mov (.t 26))), []⟩]
@[simp] def l_SAdd_13 (_ : Unit) : List EOp := ⟨0, (some 20), none, (.q (.fad 3 (.t 6))), []⟩ :: ⟨1, (some 21), none, (.q (.ldc (.t 20))), []⟩ :: ⟨2, (some 22), none, (.q (.fad 0 (.t 3))), []⟩ :: ⟨3, (some 23), none, (.q (.ldc (.t 22))), []⟩ :: ⟨4, (some 24), none, (.call 47 [(.t 21), (.t 23), (.k (.func (.func 48) #[] #[]))]), []⟩ :: ⟨5, (some 19), none, (.q (.mov (.t 24))), []⟩ :: hid l_SAdd_14
@[simp] def b_SAdd_15 (_ : Unit) : EB := reg0 (hid l_SAdd_13) 10
@[simp] def l_SAdd_16 (_ : Unit) : List EOp := [⟨0, (some 28), none, (.q (.fad 1 (.t 3))), []⟩, ⟨1, (some 29), none, (.q (.ldc (.t 28))), []⟩, ⟨2, (some 30), none, (.call 46 [(.t 29)]), []⟩, ⟨3, (some 31), none, (.q (.un .not (.t 30))), []⟩, ⟨4, (some 27), none, (.q (.mov (.t 31))), []⟩]
@[simp] def b_SAdd_17 (_ : Unit) : EB := reg0 (hid l_SAdd_16) 5
@[simp] def l_SAdd_18 (_ : Unit) : List EOp := [⟨0, (some 32), none, (.q (.build [(.int .i64 0), (.int .i64 0), (.int .i64 0), (.slice none 0 0), (.slice none 0 0)] [])), []⟩, ⟨1, (some 33), none, (.q (.mki 73 (.k (.int .i64 33)))), []⟩, ⟨2, none, none, (.fz (.sto 5 (.t 4) (.t 32))), []⟩, ⟨3, (some 5), none, (.q (.mov (.t 33))), []⟩]
@[simp] def b_SAdd_19 (_ : Unit) : EB := reg0 (hid l_SAdd_18) 4
@[simp] def b_SAdd_20 (_ : Unit) : EB := .seq (hid b_SAdd_19) .ret
@[simp] def l_SAdd_21 (_ : Unit) : List EOp := [⟨0, (some 35), none, (.q (.fad 2 (.t 3))), []⟩, ⟨1, (some 36), none, (.q (.ldc (.t 35))), []⟩, ⟨2, (some 37), none, (.q (.bin .lss (.t 36) (.k (.int .i64 10)))), []⟩, ⟨3, (some 34), none, (.q (.mov (.t 37))), []⟩]
@[simp] def b_SAdd_22 (_ : Unit) : EB := reg0 (hid l_SAdd_21) 4
@[simp] def l_SAdd_23 (_ : Unit) : List EOp := [⟨0, (some 38), none, (.q (.build [(.int .i64 0), (.int .i64 0), (.int .i64 0), (.slice none 0 0), (.slice none 0 0)] [])), []⟩, ⟨1, (some 39), none, (.q (.mki 73 (.k (.int .i64 27)))), []⟩, ⟨2, none, none, (.fz (.sto 5 (.t 4) (.t 38))), []⟩, ⟨3, (some 5), none, (.q (.mov (.t 39))), []⟩]
@[simp] def b_SAdd_24 (_ : Unit) : EB := reg0 (hid l_SAdd_23) 4
@[simp] def b_SAdd_25 (_ : Unit) : EB := .seq (hid b_SAdd_24) .ret
@[simp] def l_SAdd_26 (_ : Unit) : List EOp := [⟨0, (some 41), none, (.q (.lda 36 (.t 3))), []⟩, ⟨1, (some 42), none, (.call 49 [(.t 41)]), []⟩, ⟨2, (some 43), none, (.q (.un .not (.t 42))), []⟩, ⟨3, (some 40), none, (.q (.mov (.t 43))), []⟩]
@[simp] def b_SAdd_27 (_ : Unit) : EB := reg0 (hid l_SAdd_26) 4
@[simp] def l_SAdd_28 (_ : Unit) : List EOp := [⟨0, (some 44), none, (.q (.build [(.int .i64 0), (.int .i64 0), (.int .i64 0), (.slice none 0 0), (.slice none 0 0)] [])), []⟩, ⟨1, (some 45), none, (.q (.mki 73 (.k (.int .i64 1)))), []⟩, ⟨2, none, none, (.fz (.sto 5 (.t 4) (.t 44))), []⟩, ⟨3, (some 5), none, (.q (.mov (.t 45))), []⟩]
@[simp] def b_SAdd_29 (_ : Unit) : EB := reg0 (hid l_SAdd_28) 4
@[simp] def b_SAdd_30 (_ : Unit) : EB := .seq (hid b_SAdd_29) .ret
@[simp] def l_SAdd_31 (_ : Unit) : List EOp := [⟨0, (some 47), none, (.q (.mov (.t 9))), []⟩, ⟨1, (some 46), none, (.q (.mov (.t 47))), []⟩]
@[simp] def b_SAdd_32 (_ : Unit) : EB := reg0 (hid l_SAdd_31) 2
@[simp] def l_SAdd_33 (_ : Unit) : List EOp := [⟨0, (some 48), none, (.q (.build [(.int .i64 0), (.int .i64 0), (.int .i64 0), (.slice none 0 0), (.slice none 0 0)] [])), []⟩, ⟨1, (some 49), none, (.q (.mki 73 (.k (.int .i64 9)))), []⟩, ⟨2, none, none, (.fz (.sto 5 (.t 4) (.t 48))), []⟩, ⟨3, (some 5), none, (.q (.mov (.t 49))), []⟩]
@[simp] def b_SAdd_34 (_ : Unit) : EB := reg0 (hid l_SAdd_33) 4
@[simp] def b_SAdd_35 (_ : Unit) : EB := .seq (hid b_SAdd_34) .ret
@[simp] def l_SAdd_36 (_ : Unit) : List EOp := [⟨0, (some 51), none, (.q (.lda 5 (.t 6))), []⟩, ⟨1, (some 52), none, (.call 50 [(.t 51)]), []⟩, ⟨2, (some 53), none, (.q (.bin .geq (.t 52) (.k (.int .i64 8)))), []⟩, ⟨3, (some 50), none, (.q (.mov (.t 53))), []⟩]
@[simp] def b_SAdd_37 (_ : Unit) : EB := reg0 (hid l_SAdd_36) 4
@[simp] def l_SAdd_38 (_ : Unit) : List EOp := [⟨0, (some 54), none, (.q (.build [(.int .i64 0), (.int .i64 0), (.int .i64 0), (.slice none 0 0), (.slice none 0 0)] [])), []⟩, ⟨1, (some 55), none, (.q (.mki 73 (.k (.int .i64 30)))), []⟩, ⟨2, none, none, (.fz (.sto 5 (.t 4) (.t 54))), []⟩, ⟨3, (some 5), none, (.q (.mov (.t 55))), []⟩]
@[simp] def b_SAdd_39 (_ : Unit) : EB := reg0 (hid l_SAdd_38) 4
@[simp] def b_SAdd_40 (_ : Unit) : EB := .seq (hid b_SAdd_39) .ret
@[simp] def l_SAdd_42 (_ : Unit) : List EOp := [⟨6, (some 63), none, (.q (.ldc (.t 62))), []⟩, ⟨7, (some 64), none, (.q (.bin .lss (.t 61) (.t 63))), []⟩, ⟨8, (some 56), none, (.q (.mov (.t 64))), []⟩]
@[simp] def l_SAdd_41 (_ : Unit) : List EOp := ⟨0, (some 57), none, (.q (.fad 1 (.t 3))), []⟩ :: ⟨1, (some 58), none, (.q (.ldc (.t 57))), []⟩ :: ⟨2, (some 59), none, (.q (.fad 1 (.t 6))), []⟩ :: ⟨3, (some 60), none, (.q (.iad 2 1 (.t 59) (.t 58))), []⟩ :: ⟨4, (some 61), none, (.q (.ldc (.t 60))), []⟩ :: ⟨5, (some 62), none, (.q (.fad 2 (.t 3))), []⟩ :: hid l_SAdd_42
@[simp] def b_SAdd_43 (_ : Unit) : EB := reg0 (hid l_SAdd_41) 9
@[simp] def l_SAdd_44 (_ : Unit) : List EOp := [⟨0, (some 65), none, (.q (.build [(.int .i64 0), (.int .i64 0), (.int .i64 0), (.slice none 0 0), (.slice none 0 0)] [])), []⟩, ⟨1, (some 66), none, (.q (.mki 73 (.k (.int .i64 20)))), []⟩, ⟨2, none, none, (.fz (.sto 5 (.t 4) (.t 65))), []⟩, ⟨3, (some 5), none, (.q (.mov (.t 66))), []⟩]
@[simp] def b_SAdd_45 (_ : Unit) : EB := reg0 (hid l_SAdd_44) 4
@[simp] def b_SAdd_46 (_ : Unit) : EB := .seq (hid b_SAdd_45) .ret
@[simp] def b_SAdd_47 (_ : Unit) : EB := .cond (.t 56) (hid b_SAdd_46) .skip
@[simp] def b_SAdd_48 (_ : Unit) : EB := .seq (hid b_SAdd_43) (hid b_SAdd_47)
@[simp] def b_SAdd_49 (_ : Unit) : EB := .cond (.t 50) (hid b_SAdd_40) (hid b_SAdd_48)
@[simp] def b_SAdd_50 (_ : Unit) : EB := .seq (hid b_SAdd_37) (hid b_SAdd_49)
@[simp] def b_SAdd_51 (_ : Unit) : EB := .cond (.t 46) (hid b_SAdd_35) (hid b_SAdd_50)
@[simp] def b_SAdd_52 (_ : Unit) : EB := .seq (hid b_SAdd_32) (hid b_SAdd_51)
@[simp] def b_SAdd_53 (_ : Unit) : EB := .cond (.t 40) (hid b_SAdd_30) (hid b_SAdd_52)
@[simp] def b_SAdd_54 (_ : Unit) : EB := .seq (hid b_SAdd_27) (hid b_SAdd_53)
@[simp] def b_SAdd_55 (_ : Unit) : EB := .cond (.t 34) (hid b_SAdd_25) (hid b_SAdd_54)
@[simp] def b_SAdd_56 (_ : Unit) : EB := .seq (hid b_SAdd_22) (hid b_SAdd_55)
@[simp] def b_SAdd_57 (_ : Unit) : EB := .cond (.t 27) (hid b_SAdd_20) (hid b_SAdd_56)
@[simp] def b_SAdd_58 (_ : Unit) : EB := .seq (hid b_SAdd_17) (hid b_SAdd_57)
@[simp] def b_SAdd_59 (_ : Unit) : EB := .block 0 (hid b_SAdd_58)
@[simp] def l_SAdd_61 (_ : Unit) : List EOp := [⟨6, (some 73), none, (.q (.ldc (.t 72))), []⟩, ⟨7, (some 74), none, (.q (.bin .sub (.t 71) (.t 73))), []⟩, ⟨8, (some 75), none, (.q (.fad 1 (.t 6))), []⟩, ⟨9, (some 76), none, (.q (.iad 2 1 (.t 75) (.t 68))), []⟩, ⟨10, none, none, (.sto 1 (.t 76) (.t 74)), []⟩]
@[simp] def l_SAdd_60 (_ : Unit) : List EOp := ⟨0, (some 67), none, (.q (.fad 1 (.t 3))), []⟩ :: ⟨1, (some 68), none, (.q (.ldc (.t 67))), []⟩ :: ⟨2, (some 69), none, (.q (.fad 1 (.t 6))), []⟩ :: ⟨3, (some 70), none, (.q (.iad 2 1 (.t 69) (.t 68))), []⟩ :: ⟨4, (some 71), none, (.q (.ldc (.t 70))), []⟩ :: ⟨5, (some 72), none, (.q (.fad 2 (.t 3))), []⟩ :: hid l_SAdd_61
@[simp] def b_SAdd_62 (_ : Unit) : EB := reg0 (hid l_SAdd_60) 11
@[simp] def l_SAdd_64 (_ : Unit) : List EOp := [⟨6, (some 83), none, (.q (.fad 3 (.t 6))), []⟩, ⟨7, none, none, (.fz (.sto 1 (.t 83) (.t 82))), []⟩]
@[simp] def l_SAdd_63 (_ : Unit) : List EOp := ⟨0, (some 77), none, (.q (.fad 3 (.t 6))), []⟩ :: ⟨1, (some 78), none, (.q (.ldc (.t 77))), []⟩ :: ⟨2, (some 79), none, (.q (.mov (.t 8))), []⟩ :: ⟨3, (some 80), none, (.q (.lda 36 (.t 3))), []⟩ :: ⟨4, (some 81), none, (.q (.bsr 45 36 (([(.int .i64 0), (.int .i64 0), (.int .i64 0), (.int .i64 0)] : List Value) ++ zU8) 1 [(0, (.t 80))])), []⟩ :: ⟨5, (some 82), none, (.call 51 [(.t 78), (.t 79), (.t 81)]), []⟩ :: hid l_SAdd_64
@[simp] def b_SAdd_65 (_ : Unit) : EB := reg0 (hid l_SAdd_63) 8
@[simp] def l_SAdd_66 (_ : Unit) : List EOp := [⟨0, (some 84), none, (.q (.lda 5 (.t 6))), []⟩, ⟨1, none, none, (.fz (.sto 5 (.t 4) (.t 84))), []⟩, ⟨2, (some 5), none, (.q (.mov (.k .nilIface))), []⟩]
@[simp] def b_SAdd_67 (_ : Unit) : EB := reg0 (hid l_SAdd_66) 3
@[simp] def b_SAdd_68 (_ : Unit) : EB := .seq (hid b_SAdd_67) .ret
@[simp] def b_SAdd_69 (_ : Unit) : EB := .seq (hid b_SAdd_65) (hid b_SAdd_68)
@[simp] def b_SAdd_70 (_ : Unit) : EB := .seq (hid b_SAdd_62) (hid b_SAdd_69)
@[simp] def b_SAdd_71 (_ : Unit) : EB := .seq (hid b_SAdd_59) (hid b_SAdd_70)
@[simp] def b_SAdd_72 (_ : Unit) : EB := .seq (hid b_SAdd_15) (hid b_SAdd_71)
@[simp] def b_SAdd_73 (_ : Unit) : EB := .seq (hid b_SAdd_12) (hid b_SAdd_72)
@[simp] def b_SAdd_74 (_ : Unit) : EB := .seq (hid b_SAdd_5) (hid b_SAdd_73)
@[simp] def b_SAdd_75 (_ : Unit) : EB := .seq (hid b_SAdd_2) (hid b_SAdd_74)
def c_SAdd : EB × List QOp × Nat := ((hid b_SAdd_75), [(.lda 5 (.t 4)), (.mov (.t 5))], 85)
theorem k_SAdd : cfun Tryd.prog 22 = some c_SAdd := by kernel_rfl

@[simp] def l_Sslots_1 (_ : Unit) : List EOp := [⟨0, (some 1), none, (.q (.box 39 (.t 0))), []⟩, ⟨1, (some 2), none, (.q (.mov (.k (.int .i64 0)))), []⟩]
@[simp] def b_Sslots_2 (_ : Unit) : EB := reg0 (hid l_Sslots_1) 2
@[simp] def l_Sslots_4 (_ : Unit) : List EOp := [⟨6, (some 9), none, (.q (.bin .add (.t 5) (.t 8))), []⟩, ⟨7, (some 2), none, (.q (.mov (.t 9))), []⟩]
@[simp] def l_Sslots_3 (_ : Unit) : List EOp := ⟨0, (some 3), none, (.q (.fad 3 (.t 1))), []⟩ :: ⟨1, (some 4), none, (.q (.ldc (.t 3))), []⟩ :: ⟨2, (some 5), none, (.q (.len (.t 4))), []⟩ :: ⟨3, (some 6), none, (.q (.fad 4 (.t 1))), []⟩ :: ⟨4, (some 7), none, (.q (.ldc (.t 6))), []⟩ :: ⟨5, (some 8), none, (.q (.len (.t 7))), []⟩ :: hid l_Sslots_4
@[simp] def b_Sslots_5 (_ : Unit) : EB := reg0 (hid l_Sslots_3) 8
@[simp] def b_Sslots_6 (_ : Unit) : EB := .seq (hid b_Sslots_5) .ret
@[simp] def b_Sslots_7 (_ : Unit) : EB := .seq (hid b_Sslots_2) (hid b_Sslots_6)
def c_Sslots : EB × List QOp × Nat := ((hid b_Sslots_7), [(.mov (.t 2))], 10)
theorem k_Sslots : cfun Tryd.prog 50 = some c_Sslots := by kernel_rfl

@[simp] def l_Stake_1 (_ : Unit) : List EOp := [⟨0, (some 2), none, (.q (.box 39 (.t 0))), []⟩, ⟨1, (some 4), none, (.q (.alloc 39 [(.int .i64 0), (.int .i64 0), (.int .i64 0), (.slice none 0 0), (.slice none 0 0)])), []⟩, ⟨2, (some 5), none, (.q (.alloc 45 (([(.int .i64 0), (.int .i64 0), (.int .i64 0), (.int .i64 0)] : List Value) ++ zU8))), []⟩, ⟨3, (some 6), none, (.q (.mov (.k .nilIface))), []⟩]
@[simp] def b_Stake_2 (_ : Unit) : EB := reg0 (hid l_Stake_1) 4
@[simp] def l_Stake_4 (_ : Unit) : List EOp := [⟨6, none, none, (.fz (.sto 5 (.t 7) (.t 15))), []⟩, ⟨7, (some 8), none, (.q (.mov (.t 16))), []⟩]
@[simp] def l_Stake_3 (_ : Unit) : List EOp := ⟨0, (some 13), none, (.q (.lda 5 (.t 2))), []⟩ :: ⟨1, (some 14), none, (.call 45 [(.t 13)]), []⟩ :: ⟨2, (some 12), none, (.q (.mov (.t 14))), []⟩ :: ⟨3, (some 15), none, (.q (.ext 0 (.t 12))), []⟩ :: ⟨4, (some 16), none, (.q (.ext 1 (.t 12))), []⟩ :: ⟨5, (some 7), none, (.q (.alloc 39 [(.int .i64 0), (.int .i64 0), (.int .i64 0), (.slice none 0 0), (.slice none 0 0)])), []⟩ :: hid l_Stake_4
@[simp] def b_Stake_5 (_ : Unit) : EB := reg0 (hid l_Stake_3) 8
@[simp] def l_Stake_6 (_ : Unit) : List EOp := [⟨0, (some 17), none, (.q (.mov (.t 8))), []⟩, ⟨1, (some 18), none, (.q (.eqi true (.t 17))), []⟩]
@[simp] def b_Stake_7 (_ : Unit) : EB := reg0 (hid l_Stake_6) 2
@[simp] def l_Stake_8 (_ : Unit) : List EOp := [⟨0, (some 19), none, (.q (.build [(.int .i64 0), (.int .i64 0), (.int .i64 0), (.slice none 0 0), (.slice none 0 0)] [])), []⟩, ⟨1, (some 20), none, (.q (.build (([(.int .i64 0), (.int .i64 0), (.int .i64 0), (.int .i64 0)] : List Value) ++ zU8) [])), []⟩, ⟨2, (some 21), none, (.q (.mov (.t 8))), []⟩, ⟨3, none, none, (.fz (.sto 5 (.t 4) (.t 19))), []⟩, ⟨4, none, none, (.sto 36 (.t 5) (.t 20)), []⟩, ⟨5, (some 6), none, (.q (.mov (.t 21))), []⟩]
@[simp] def b_Stake_9 (_ : Unit) : EB := reg0 (hid l_Stake_8) 6
@[simp] def b_Stake_10 (_ : Unit) : EB := .seq (hid b_Stake_9) .ret
@[simp] def b_Stake_11 (_ : Unit) : EB := .cond (.t 18) (hid b_Stake_10) .skip
@[simp] def b_Stake_12 (_ : Unit) : EB := .seq (hid b_Stake_7) (hid b_Stake_11)
@[simp] def l_Stake_14 (_ : Unit) : List EOp := [⟨6, (some 28), none, (.q (.ext 1 (.t 22))), []⟩, ⟨7, (some 9), none, (.q (.mov (.t 27))), []⟩, ⟨8, (some 10), none, (.q (.mov (.t 28))), []⟩]
@[simp] def l_Stake_13 (_ : Unit) : List EOp := ⟨0, (some 23), none, (.q (.fad 3 (.t 7))), []⟩ :: ⟨1, (some 24), none, (.q (.ldc (.t 23))), []⟩ :: ⟨2, (some 25), none, (.q (.mov (.t 1))), []⟩ :: ⟨3, (some 26), none, (.call 47 [(.t 24), (.t 25), (.k (.func (.func 48) #[] #[]))]), []⟩ :: ⟨4, (some 22), none, (.q (.mov (.t 26))), []⟩ :: ⟨5, (some 27), none, (.q (.ext 0 (.t 22))), []⟩ :: hid l_Stake_14
@[simp] def b_Stake_15 (_ : Unit) : EB := reg0 (hid l_Stake_13) 9
@[simp] def l_Stake_16 (_ : Unit) : List EOp := [⟨0, (some 29), none, (.q (.mov (.t 10))), []⟩, ⟨1, (some 30), none, (.q (.un .not (.t 29))), []⟩]
@[simp] def b_Stake_17 (_ : Unit) : EB := reg0 (hid l_Stake_16) 2
@[simp] def l_Stake_18 (_ : Unit) : List EOp := [⟨0, (some 31), none, (.q (.build [(.int .i64 0), (.int .i64 0), (.int .i64 0), (.slice none 0 0), (.slice none 0 0)] [])), []⟩, ⟨1, (some 32), none, (.q (.build (([(.int .i64 0), (.int .i64 0), (.int .i64 0), (.int .i64 0)] : List Value) ++ zU8) [])), []⟩, ⟨2, (some 33), none, (.q (.mki 73 (.k (.int .i64 8)))), []⟩, ⟨3, none, none, (.fz (.sto 5 (.t 4) (.t 31))), []⟩, ⟨4, none, none, (.sto 36 (.t 5) (.t 32)), []⟩, ⟨5, (some 6), none, (.q (.mov (.t 33))), []⟩]
@[simp] def b_Stake_19 (_ : Unit) : EB := reg0 (hid l_Stake_18) 6
@[simp] def b_Stake_20 (_ : Unit) : EB := .seq (hid b_Stake_19) .ret
@[simp] def b_Stake_21 (_ : Unit) : EB := .cond (.t 30) (hid b_Stake_20) .skip
@[simp] def b_Stake_22 (_ : Unit) : EB := .seq (hid b_Stake_17) (hid b_Stake_21)
@[simp] def l_Stake_24 (_ : Unit) : List EOp := [⟨6, none, none, (.sto 36 (.t 11) (.t 38)), []⟩]
@[simp] def l_Stake_23 (_ : Unit) : List EOp := ⟨0, (some 34), none, (.q (.fad 3 (.t 7))), []⟩ :: ⟨1, (some 35), none, (.q (.ldc (.t 34))), []⟩ :: ⟨2, (some 36), none, (.q (.mov (.t 9))), []⟩ :: ⟨3, (some 37), none, (.q (.isl 36 (.t 35) (.t 36))), []⟩ :: ⟨4, (some 38), none, (.q (.lda 36 (.t 37))), []⟩ :: ⟨5, (some 11), none, (.q (.alloc 45 (([(.int .i64 0), (.int .i64 0), (.int .i64 0), (.int .i64 0)] : List Value) ++ zU8))), []⟩ :: hid l_Stake_24
@[simp] def b_Stake_25 (_ : Unit) : EB := reg0 (hid l_Stake_23) 7
@[simp] def l_Stake_27 (_ : Unit) : List EOp := [⟨6, (some 45), none, (.q (.fad 3 (.t 7))), []⟩, ⟨7, none, none, (.fz (.sto 1 (.t 45) (.t 44))), []⟩]
@[simp] def l_Stake_26 (_ : Unit) : List EOp := ⟨0, (some 39), none, (.q (.fad 3 (.t 7))), []⟩ :: ⟨1, (some 40), none, (.q (.ldc (.t 39))), []⟩ :: ⟨2, (some 41), none, (.q (.mov (.t 9))), []⟩ :: ⟨3, (some 42), none, (.q (.mov (.t 9))), []⟩ :: ⟨4, (some 43), none, (.q (.bin .add (.t 42) (.k (.int .i64 1)))), []⟩ :: ⟨5, (some 44), none, (.call 79 [(.t 40), (.t 41), (.t 43)]), []⟩ :: hid l_Stake_27
@[simp] def b_Stake_28 (_ : Unit) : EB := reg0 (hid l_Stake_26) 8
@[simp] def l_Stake_29 (_ : Unit) : List EOp := [⟨0, (some 46), none, (.q (.lda 5 (.t 7))), []⟩, ⟨1, (some 47), none, (.q (.lda 36 (.t 11))), []⟩, ⟨2, none, none, (.fz (.sto 5 (.t 4) (.t 46))), [1]⟩, ⟨3, none, none, (.sto 36 (.t 5) (.t 47)), []⟩, ⟨4, (some 6), none, (.q (.mov (.k .nilIface))), []⟩]
@[simp] def b_Stake_30 (_ : Unit) : EB := reg1 (hid l_Stake_29) 5
@[simp] def b_Stake_31 (_ : Unit) : EB := .seq (hid b_Stake_30) .ret
@[simp] def b_Stake_32 (_ : Unit) : EB := .seq (hid b_Stake_28) (hid b_Stake_31)
@[simp] def b_Stake_33 (_ : Unit) : EB := .seq (hid b_Stake_25) (hid b_Stake_32)
@[simp] def b_Stake_34 (_ : Unit) : EB := .seq (hid b_Stake_22) (hid b_Stake_33)
@[simp] def b_Stake_35 (_ : Unit) : EB := .seq (hid b_Stake_15) (hid b_Stake_34)
@[simp] def b_Stake_36 (_ : Unit) : EB := .seq (hid b_Stake_12) (hid b_Stake_35)
@[simp] def b_Stake_37 (_ : Unit) : EB := .seq (hid b_Stake_5) (hid b_Stake_36)
@[simp] def b_Stake_38 (_ : Unit) : EB := .seq (hid b_Stake_2) (hid b_Stake_37)
def c_Stake : EB × List QOp × Nat := ((hid b_Stake_38), [(.lda 5 (.t 4)), (.lda 36 (.t 5)), (.mov (.t 6))], 48)
theorem k_Stake : cfun Tryd.prog 54 = some c_Stake := by kernel_rfl

@[simp] def l_SFail_1 (_ : Unit) : List EOp := [⟨0, (some 2), none, (.q (.box 39 (.t 0))), []⟩, ⟨1, (some 4), none, (.q (.alloc 39 [(.int .i64 0), (.int .i64 0), (.int .i64 0), (.slice none 0 0), (.slice none 0 0)])), []⟩, ⟨2, (some 5), none, (.q (.mov (.k .nilIface))), []⟩]
@[simp] def b_SFail_2 (_ : Unit) : EB := reg0 (hid l_SFail_1) 3
@[simp] def l_SFail_4 (_ : Unit) : List EOp := [⟨6, (some 15), none, (.q (.ext 2 (.t 9))), []⟩, ⟨7, (some 6), none, (.q (.alloc 39 [(.int .i64 0), (.int .i64 0), (.int .i64 0), (.slice none 0 0), (.slice none 0 0)])), []⟩, ⟨8, (some 7), none, (.q (.alloc 45 (([(.int .i64 0), (.int .i64 0), (.int .i64 0), (.int .i64 0)] : List Value) ++ zU8))), []⟩, ⟨9, none, none, (.fz (.sto 5 (.t 6) (.t 13))), []⟩, ⟨10, none, none, (.sto 36 (.t 7) (.t 14)), []⟩, ⟨11, (some 8), none, (.q (.mov (.t 15))), []⟩]
@[simp] def l_SFail_3 (_ : Unit) : List EOp := ⟨0, (some 10), none, (.q (.lda 5 (.t 2))), []⟩ :: ⟨1, (some 11), none, (.q (.mov (.t 1))), []⟩ :: ⟨2, (some 12), none, (.call 54 [(.t 10), (.t 11)]), []⟩ :: ⟨3, (some 9), none, (.q (.mov (.t 12))), []⟩ :: ⟨4, (some 13), none, (.q (.ext 0 (.t 9))), []⟩ :: ⟨5, (some 14), none, (.q (.ext 1 (.t 9))), []⟩ :: hid l_SFail_4
@[simp] def b_SFail_5 (_ : Unit) : EB := reg0 (hid l_SFail_3) 12
@[simp] def l_SFail_6 (_ : Unit) : List EOp := [⟨0, (some 16), none, (.q (.mov (.t 8))), []⟩, ⟨1, (some 17), none, (.q (.eqi true (.t 16))), []⟩]
@[simp] def b_SFail_7 (_ : Unit) : EB := reg0 (hid l_SFail_6) 2
@[simp] def l_SFail_8 (_ : Unit) : List EOp := [⟨0, (some 18), none, (.q (.build [(.int .i64 0), (.int .i64 0), (.int .i64 0), (.slice none 0 0), (.slice none 0 0)] [])), []⟩, ⟨1, (some 19), none, (.q (.mov (.t 8))), []⟩, ⟨2, none, none, (.fz (.sto 5 (.t 4) (.t 18))), []⟩, ⟨3, (some 5), none, (.q (.mov (.t 19))), []⟩]
@[simp] def b_SFail_9 (_ : Unit) : EB := reg0 (hid l_SFail_8) 4
@[simp] def b_SFail_10 (_ : Unit) : EB := .seq (hid b_SFail_9) .ret
@[simp] def b_SFail_11 (_ : Unit) : EB := .cond (.t 17) (hid b_SFail_10) .skip
@[simp] def b_SFail_12 (_ : Unit) : EB := .seq (hid b_SFail_7) (hid b_SFail_11)
@[simp] def l_SFail_14 (_ : Unit) : List EOp := [⟨6, (some 26), none, (.q (.ldc (.t 25))), []⟩, ⟨7, (some 27), none, (.q (.bin .add (.t 24) (.t 26))), []⟩, ⟨8, (some 28), none, (.q (.fad 1 (.t 6))), []⟩, ⟨9, (some 29), none, (.q (.iad 2 1 (.t 28) (.t 21))), []⟩, ⟨10, none, none, (.sto 1 (.t 29) (.t 27)), []⟩]
@[simp] def l_SFail_13 (_ : Unit) : List EOp := ⟨0, (some 20), none, (.q (.fad 1 (.t 7))), []⟩ :: ⟨1, (some 21), none, (.q (.ldc (.t 20))), []⟩ :: ⟨2, (some 22), none, (.q (.fad 1 (.t 6))), []⟩ :: ⟨3, (some 23), none, (.q (.iad 2 1 (.t 22) (.t 21))), []⟩ :: ⟨4, (some 24), none, (.q (.ldc (.t 23))), []⟩ :: ⟨5, (some 25), none, (.q (.fad 2 (.t 7))), []⟩ :: hid l_SFail_14
@[simp] def b_SFail_15 (_ : Unit) : EB := reg0 (hid l_SFail_13) 11
@[simp] def l_SFail_16 (_ : Unit) : List EOp := [⟨0, (some 30), none, (.q (.lda 5 (.t 6))), []⟩, ⟨1, none, none, (.fz (.sto 5 (.t 4) (.t 30))), []⟩, ⟨2, (some 5), none, (.q (.mov (.k .nilIface))), []⟩]
@[simp] def b_SFail_17 (_ : Unit) : EB := reg0 (hid l_SFail_16) 3
@[simp] def b_SFail_18 (_ : Unit) : EB := .seq (hid b_SFail_17) .ret
@[simp] def b_SFail_19 (_ : Unit) : EB := .seq (hid b_SFail_15) (hid b_SFail_18)
@[simp] def b_SFail_20 (_ : Unit) : EB := .seq (hid b_SFail_12) (hid b_SFail_19)
@[simp] def b_SFail_21 (_ : Unit) : EB := .seq (hid b_SFail_5) (hid b_SFail_20)
@[simp] def b_SFail_22 (_ : Unit) : EB := .seq (hid b_SFail_2) (hid b_SFail_21)
def c_SFail : EB × List QOp × Nat := ((hid b_SFail_22), [(.lda 5 (.t 4)), (.mov (.t 5))], 31)
theorem k_SFail : cfun Tryd.prog 25 = some c_SFail := by kernel_rfl


@[simp] theorem conAll_payC (H : Nat → Option EO) (ids : List Nat) (p : Pay) : conAll H ids (payC p) = some (payC p) := by simp [payC]
@[simp] theorem strAll_payC (ids : List Nat) (p : Pay) : strAll ids (payC p) = some (payC p) := by simp [payC, strAll, strC]
@[simp] theorem frzAll_payC (p : Pay) : frzAll (payC p) = some (payF p) := by simp [payC, payF, frzAll, frz]
@[simp] theorem refs_payC (p : Pay) : (payC p).flatMap refsC = [] := by simp [payC]
@[simp] theorem fz_payC (ids : List Nat) (p : Pay) : (payC p).flatMap (fzC ids) = [] := by simp [payC]
@[simp] theorem ren_payC (g : Nat → Nat) (p : Pay) : (payC p).map (renC g) = payC p := by simp [payC]
theorem pc0 (p : Pay) : (payC p)[0]? = some (.fz (.lit (.int .i64 p.id))) := rfl
theorem pc1 (p : Pay) : (payC p)[1]? = some (.fz (.lit (.int .i64 p.fr))) := rfl
theorem pc2 (p : Pay) : (payC p)[2]? = some (.fz (.lit (.int .i64 p.am))) := rfl
theorem pc3 (p : Pay) : (payC p)[3]? = some (.fz (.lit (.int .i64 p.af))) := rfl
theorem pe0 (p : Pay) (h : 0 < (payC p).length) : (payC p)[0]'h = .fz (.lit (.int .i64 p.id)) := rfl
theorem pe1 (p : Pay) (h : 1 < (payC p).length) : (payC p)[1]'h = .fz (.lit (.int .i64 p.fr)) := rfl
theorem pe2 (p : Pay) (h : 2 < (payC p).length) : (payC p)[2]'h = .fz (.lit (.int .i64 p.am)) := rfl
theorem pd1 (p : Pay) : (payC p).drop 1 = .fz (.lit (.int .i64 p.fr)) :: .fz (.lit (.int .i64 p.am)) :: .fz (.lit (.int .i64 p.af)) :: hc p.lock := rfl
theorem pd2 (p : Pay) : (payC p).drop 2 = .fz (.lit (.int .i64 p.am)) :: .fz (.lit (.int .i64 p.af)) :: hc p.lock := rfl
/-! ### places in a rising row -/
def posI (l : List Int) (x : Int) : Nat := (l.takeWhile fun k => decide (k < x)).length
def fndI (l : List Int) (x : Int) : Bool := decide (l[posI l x]? = some x)
theorem posI_le (l : List Int) (x : Int) : posI l x ≤ l.length := (List.takeWhile_sublist _).length_le
theorem posI_eq : ∀ {l : List Int} {x : Int} {i : Nat}, i ≤ l.length → (∀ k y, k < i → l[k]? = some y → y < x) → (∀ y, l[i]? = some y → x ≤ y) → posI l x = i
  | [], x, i, h, _, _ => by simp at h; subst h; rfl
  | a :: r, x, 0, _, _, h => by
    have := h a rfl
    simp [posI, List.takeWhile_cons, show ¬ a < x by omega]
  | a :: r, x, i + 1, h0, h1, h2 => by
    have := h1 0 a (by omega) rfl
    have ih := posI_eq (l := r) (x := x) (i := i) (by simpa using h0) (fun k y hk hy => h1 (k + 1) y (by omega) (by simpa using hy)) (fun y hy => h2 y (by simpa using hy))
    unfold posI at ih ⊢
    simp [List.takeWhile_cons, this, ih]
theorem pw_get {l : List Int} (h : l.Pairwise (· < ·)) {i j : Nat} {x y : Int} (hij : i < j) (hx : l[i]? = some x) (hy : l[j]? = some y) : x < y := by
  obtain ⟨hi, rfl⟩ := List.getElem?_eq_some_iff.1 hx
  obtain ⟨hj, rfl⟩ := List.getElem?_eq_some_iff.1 hy
  exact List.pairwise_iff_getElem.1 h i j hi hj hij
theorem payL_lo : ∀ {o : Option Int} {l : List Pay}, payL o l = true → ∀ p ∈ l, ∀ q, o = some q → q < p.id
  | o, [], _, p, hp, q, _ => by simp at hp
  | o, a :: r, h, p, hp, q, hq => by
    simp only [payL, Bool.and_eq_true] at h
    have ha : q < a.id := by
      have := h.1.2
      rw [hq] at this
      exact of_decide_eq_true this
    rcases List.mem_cons.1 hp with rfl | hp
    · exact ha
    · have := payL_lo h.2 p hp a.id rfl
      omega
theorem payL_pw : ∀ {o : Option Int} {l : List Pay}, payL o l = true → (l.map (·.id)).Pairwise (· < ·)
  | o, [], _ => by simp
  | o, a :: r, h => by
    simp only [payL, Bool.and_eq_true] at h
    simp only [List.map_cons, List.pairwise_cons]
    refine ⟨?_, payL_pw h.2⟩
    intro y hy
    obtain ⟨p, hp, rfl⟩ := List.mem_map.1 hy
    exact payL_lo h.2 p hp a.id rfl

def cmpI (a b : Int) : Int := if a < b then -1 else if b < a then 1 else 0
theorem NaNI_ok (a : Int) : ECalls Tryd.prog 87 [I .i64 a] [] fun y H' => H' = [] ∧ y = .lit (.bool false) := by
  refine ecalls k_NaNI ?_
  simp [c_NaNI, I]
  exact fin [] (by decide) rfl rfl rfl ⟨rfl, rfl⟩
theorem CmpI_ok (a b : Int) : ECalls Tryd.prog 76 [I .i64 a, I .i64 b] [] fun y H' => H' = [] ∧ y = I .i64 (cmpI a b) := by
  refine ecalls k_CmpI ?_
  simp [c_CmpI, I]
  refine call0 (NaNI_ok a) (by simp [Ptr, I, EV.lit]) ?_
  rintro y H' ⟨rfl, rfl⟩
  refine ⟨.inl (by simp [Ptr, I, EV.lit]), le_ok rfl, ?_⟩
  simp [Ptr, I, EV.lit]
  refine call0 (NaNI_ok b) (by simp [Ptr, I, EV.lit]) ?_
  rintro y H' ⟨rfl, rfl⟩
  refine ⟨.inl (by simp [Ptr, I, EV.lit]), le_ok rfl, ?_⟩
  simp [Ptr, I, EV.lit]
  refine alt (fun h => ?_) (fun h => ?_)
  · have e : cmpI a b = -1 := if_pos h
    rw [e]
    simp
    exact fin [] (by decide) rfl rfl rfl ⟨rfl, rfl⟩
  simp
  refine alt (fun h2 => ?_) (fun h2 => ?_)
  · have e : cmpI a b = 1 := by unfold cmpI; rw [if_neg h, if_pos h2]
    rw [e]
    simp
    exact fin [] (by decide) rfl rfl rfl ⟨rfl, rfl⟩
  · have e : cmpI a b = 0 := by unfold cmpI; rw [if_neg h, if_neg h2]
    rw [e]
    simp
    exact fin [] (by decide) rfl rfl rfl ⟨rfl, rfl⟩
theorem byPay_ok (p : Pay) (x : Int) (hp : p.lock.length = 32) : ECalls Tryd.prog 48 [.v (.agg (payC p)), I .i64 x] [] fun y H' => H' = [] ∧ y = I .i64 (cmpI p.id x) := by
  refine ecalls k_byPay ?_
  simp [c_byPay, I, payC]
  refine call0 (CmpI_ok p.id x) (by simp [Ptr, I, EV.lit]) ?_
  rintro y H' ⟨rfl, rfl⟩
  refine ⟨.inl (by simp [Ptr, I, EV.lit]), le_ok rfl, ?_⟩
  simp [Ptr, I, EV.lit]
  exact fin [] (by decide) rfl rfl rfl ⟨rfl, rfl⟩
theorem byPay_body : bodyOK Tryd.prog 48 = true := by kernel_rfl

set_option maxHeartbeats 4000000 in
theorem BinP_ok (l : List Pay) (x : Int) (hl : ∀ p ∈ l, p.ok) (hn : l.length ≤ 100000000) (hs : (l.map (·.id)).Pairwise (· < ·)) :
    ECalls Tryd.prog 47 [PL l, I .i64 x, .v (.c (.clo 48 []))] [] fun y H' => H' = [] ∧ y = .tup [.c (.fz (.lit (.int .i64 (posI (l.map (·.id)) x)))), .c (.fz (.lit (.bool (fndI (l.map (·.id)) x))))] := by
  obtain ⟨ids, hids⟩ : ∃ ids, l.map (·.id) = ids := ⟨_, rfl⟩
  rw [hids] at hs ⊢
  have idl : ids.length = l.length := by rw [← hids]; simp
  have hget : ∀ (k : Nat) (p : Pay), l[k]? = some p → ids[k]? = some p.id := fun k p h => by rw [← hids, List.getElem?_map, h]; rfl
  refine ecalls k_BinP ?_
  simp [c_BinP, I, PL]
  refine eloop (α := Nat × Nat) (fun a => a.1 ≤ a.2 ∧ a.2 ≤ l.length ∧ (∀ k y, k < a.1 → ids[k]? = some y → y < x) ∧ ∀ k y, a.2 ≤ k → ids[k]? = some y → x ≤ y) (fun a => a.2 - a.1)
    (fun a => [PL l, I .i64 x, .v (.c (.clo 48 [])), .any, .any, .any, .any, .any, I .i64 l.length, I .i64 a.1, I .i64 a.2, .any, .any, .any, .any, .any, .any, .any, .any, .any, .any, .any, .any, .any, .any, .any, .any, .any, .any, .any, .any, .any, .any, .any, .any, .any, .any, .any, .any, .any, .any, .any, .any, .any, .any, .any, .any, .any, .any]) (fun _ => []) (0, l.length) []
    ⟨by simp, Nat.le_refl _, by intro k y h; simp at h, by
      intro k y h hk
      have := lt_len hk
      simp at h; omega⟩ (by simp [I, PL]) (by simp) (by simp) (by simp) (by simp) ?_
  rintro ⟨i, j⟩ ⟨h1, h2, h3, h4⟩
  dsimp only at h1 h2 h3 h4
  simp [I, PL]
  refine alt (fun hlt => ?_) (fun hlt => ?_)
  · have hij : i < j := by omega
    obtain ⟨h, hh⟩ : ∃ h, (i + j) / 2 = h := ⟨_, rfl⟩
    have hl1 : i ≤ h := by omega
    have hl2 : h < j := by omega
    have hln : h < l.length := by omega
    obtain ⟨p, hc⟩ : ∃ p, l[h]? = some p := ⟨l[h], by simp [hln]⟩
    have hpo := hl p (List.mem_of_getElem? hc)
    have hcb := payv_get hc
    have hge : (payv l)[h]'(by simp [hln]) = payF p := by
      have e := hcb
      rw [List.getElem?_eq_getElem (by simp [hln])] at e
      exact Option.some.inj e
    have hpt := payC_take hpo.2.2.2.2
    have hpl := payC_len hpo.2.2.2.2
    have hfl := payF_len hpo.2.2.2.2
    have w0 : IntKind.i64.wrap ((i : Int) + (j : Int)) = ((i + j : Nat) : Int) := by rw [wrap_i64 (by omega) (by omega)]; omega
    have w1 : IntKind.u64.wrap ((i + j : Nat) : Int) = ((i + j : Nat) : Int) := wrap_u64 (by omega) (by omega)
    have w2 : ishr .u64 ((i + j : Nat) : Int) 1 = (h : Int) := by
      have e := ishr_nat .u64 (i + j) 1 (by decide)
      rw [show ((1 : Nat) : Int) = 1 from rfl] at e
      rw [e, ← hh]
    have w3 : IntKind.i64.wrap (h : Int) = (h : Int) := wrap_i64 (by omega) (by omega)
    have w4 : IntKind.i64.wrap ((h : Int) + 1) = ((h + 1 : Nat) : Int) := wrap_i64 (by omega) (by omega)
    simp [w0, w1, w2, w3, hln, hge, payF_fz, hpt, hpl, hfl, -Int.natCast_add]
    refine ⟨byPay_body, ?_⟩
    refine call0 (byPay_ok p x hpo.2.2.2.2) (by simp [I]) ?_
    rintro y H' ⟨rfl, rfl⟩
    refine ⟨.inl (by simp [-List.flatMap_eq_nil_iff, I]), le_ok rfl, ?_⟩
    simp [I]
    have hcm : cmpI p.id x < 0 ↔ p.id < x := by unfold cmpI; split <;> (try split) <;> omega
    refine alt (fun hneg => ?_) (fun hneg => ?_)
    · have hpx := hcm.1 hneg
      simp [w4, -Int.natCast_add]
      refine round (h + 1, j) [] ⟨by dsimp only; omega, h2, ?_, h4⟩ (by dsimp only; omega) (by simp) (by simp) (by simp) (by simp) (by simp)
      intro k y hk hy
      dsimp only at hk
      rcases Nat.lt_or_ge k h with hkh | hkh
      · have := pw_get hs hkh hy (hget h p hc)
        omega
      · obtain rfl : k = h := by omega
        rw [hget k p hc] at hy
        obtain rfl := Option.some.inj hy
        exact hpx
    · have hpx : x ≤ p.id := by
        rcases Int.lt_or_le p.id x with q | q
        · exact absurd (hcm.2 q) hneg
        · exact q
      simp [-Int.natCast_add]
      refine round (i, h) [] ⟨hl1, by dsimp only; omega, h3, ?_⟩ (by dsimp only; omega) (by simp) (by simp) (by simp) (by simp) (by simp)
      intro k y hk hy
      dsimp only at hk
      rcases Nat.lt_or_ge h k with hkh | hkh
      · have := pw_get hs hkh (hget h p hc) hy
        omega
      · obtain rfl : k = h := by omega
        rw [hget k p hc] at hy
        obtain rfl := Option.some.inj hy
        exact hpx
  · obtain rfl : i = j := by omega
    have hpos : posI ids x = i := posI_eq (by omega) h3 fun y hy => h4 i y (Nat.le_refl _) hy
    rw [show fndI ids x = decide (ids[i]? = some x) by unfold fndI; rw [hpos], hpos]
    simp
    refine alt (fun hi => ?_) (fun hi => ?_)
    · have hln : i < l.length := by omega
      obtain ⟨p, hc⟩ : ∃ p, l[i]? = some p := ⟨l[i], by simp [hln]⟩
      have hpo := hl p (List.mem_of_getElem? hc)
      have hcb := payv_get hc
      have hge : (payv l)[i]'(by simp [hln]) = payF p := by
        have e := hcb
        rw [List.getElem?_eq_getElem (by simp [hln])] at e
        exact Option.some.inj e
      have hpt := payC_take hpo.2.2.2.2
      have hpl := payC_len hpo.2.2.2.2
      have hfl := payF_len hpo.2.2.2.2
      simp [hln, hge, payF_fz, hpt, hpl, hfl]
      refine ⟨byPay_body, ?_⟩
      refine call0 (byPay_ok p x hpo.2.2.2.2) (by simp [I]) ?_
      rintro y H' ⟨rfl, rfl⟩
      refine ⟨.inl (by simp [-List.flatMap_eq_nil_iff, I]), le_ok rfl, ?_⟩
      simp [I]
      have hcm : cmpI p.id x = 0 ↔ ids[i]? = some x := by
        rw [hget i p hc]
        unfold cmpI
        simp only [Option.some.injEq]
        split <;> (try split) <;> omega
      rw [show decide (cmpI p.id x = 0) = decide (ids[i]? = some x) from decide_eq_decide.2 hcm]
      exact fin [] (by decide) rfl rfl rfl ⟨rfl, rfl⟩
    · have hnone : ids[i]? = none := List.getElem?_eq_none (by omega)
      simp [hi, hnone]
      exact fin [] (by decide) rfl rfl rfl ⟨rfl, rfl⟩

theorem Sslots_ok (s : Sta) (hs : s.ok) : ECalls Tryd.prog 50 [SV s] [] fun y H' => H' = [] ∧ y = I .i64 ((s.pays.length + s.holds.length : Nat) : Int) := by
  obtain ⟨ok1, ok2, ok3, ok4, ok5, ok6, ok7⟩ := id hs
  have w : IntKind.i64.wrap ((s.pays.length : Int) + (s.holds.length : Int)) = ((s.pays.length + s.holds.length : Nat) : Int) := by rw [wrap_i64 (by omega) (by omega)]; omega
  refine ecalls k_Sslots ?_
  simp [c_Sslots, SV, staC, I, w, -Int.natCast_add]
  exact fin [] (by decide) rfl rfl rfl ⟨rfl, rfl⟩

def sideS (s : Sta) (k : Int) : Int := if k = 0 then s.h0 else s.h1
def insP (l : List Pay) (p : Pay) : List Pay := l.take (posI (l.map (·.id)) p.id) ++ p :: l.drop (posI (l.map (·.id)) p.id)
/-- A payment laid; the error. -/
def addP (s : Sta) (p : Pay) : Sta × Nat :=
  if (nxt s).2 ≠ 0 then (zSta, 1) else if ¬ (p.fr = 0 ∨ p.fr = 1) then (zSta, 33) else if p.am < 10 then (zSta, 27) else if mayP p = false then (zSta, 1)
  else if fndI (s.pays.map (·.id)) p.id = true then (zSta, 9) else if 8 ≤ s.pays.length + s.holds.length then (zSta, 30) else if sideS s p.fr < p.am then (zSta, 20)
  else (⟨s.num + 1, if p.fr = 0 then s.h0 - p.am else s.h0, if p.fr = 0 then s.h1 else s.h1 - p.am, insP s.pays p, s.holds⟩, 0)
theorem payv_ins (l : List Pay) (p : Pay) : payv (insP l p) = (payv l).take (posI (l.map (·.id)) p.id) ++ payF p :: (payv l).drop (posI (l.map (·.id)) p.id) := by simp [payv, insP]
@[simp] theorem errV_9 : Value.iface 73 (.int .i64 9) = errV 9 := rfl
@[simp] theorem errV_30 : Value.iface 73 (.int .i64 30) = errV 30 := rfl
@[simp] theorem errV_8 : Value.iface 73 (.int .i64 8) = errV 8 := rfl

set_option maxHeartbeats 4000000 in
theorem SAdd_ok (s : Sta) (p : Pay) (hs : s.ok) (hp : p.ok) : ECalls Tryd.prog 22 [SV s, .v (.agg (payC p))] [] fun y H' => H' = [] ∧ y = SE (addP s p) := by
  obtain ⟨ok1, ok2, ok3, ok4, ok5, ok6, ok7⟩ := id hs
  obtain ⟨⟨p1, p1'⟩, ⟨p2, p2'⟩, ⟨p3, p3'⟩, ⟨p4, p4'⟩, p5⟩ := id hp
  have hpt := payC_take p5
  have hpl := payC_len p5
  refine ecalls k_SAdd ?_
  simp [c_SAdd, SV, staC, hpt, hpl, -errV_0]
  by_cases h0 : mayS s = true ∧ s.num ≠ 1099511627776
  rotate_left
  · have hx : nxt s = (zSta, 1) := by simp only [nxt, if_neg h0]
    have ha : addP s p = (zSta, 1) := by simp [addP, hx]
    rw [ha]
    refine call0 (next_ok s hs) (by simp [SV, staC]) ?_
    rintro y H' ⟨rfl, rfl⟩
    refine ⟨.inl (by simp), le_ok rfl, ?_⟩
    rw [hx]
    simp [SE, staC, zSta]
    refine finW _ (weak_nlB (o := 32) (k := 3) 36 rfl rfl) (finW _ (weak_nlB (o := 32) (k := 4) 3 rfl rfl) ?_)
    exact fin [] (by decide) rfl rfl rfl ⟨rfl, rfl⟩
  have hx : nxt s = (⟨s.num + 1, s.h0, s.h1, s.pays, s.holds⟩, 0) := by simp only [nxt, if_pos h0]
  obtain ⟨hr, hpl', hh, htot⟩ := mayS_t h0.1
  have hpw := payL_pw hpl'
  have tpv : List.take s.pays.length (payv s.pays) = payv s.pays := List.take_of_length_le (by simp)
  have hadd : addP s p = if ¬ (p.fr = 0 ∨ p.fr = 1) then (zSta, 33) else if p.am < 10 then (zSta, 27) else if mayP p = false then (zSta, 1)
      else if fndI (s.pays.map (·.id)) p.id = true then (zSta, 9) else if 8 ≤ s.pays.length + s.holds.length then (zSta, 30) else if sideS s p.fr < p.am then (zSta, 20)
      else (⟨s.num + 1, if p.fr = 0 then s.h0 - p.am else s.h0, if p.fr = 0 then s.h1 else s.h1 - p.am, insP s.pays p, s.holds⟩, 0) := by
    simp only [addP, hx]
    rw [if_neg (by simp)]
  refine call0 (nextP_ok s hs h0) (by simp [SV, staC]) ?_
  rintro y H' ⟨rfl, rfl⟩
  refine ⟨.inl (by simp), le_ok rfl, ?_⟩
  simp [pc0, pc1, pc2, pd1, pd2, -errV_0]
  refine call0 (BinP_ok s.pays p.id ok4 ok6 hpw) (by simp [PL, I, tpv]) ?_
  rintro y H' ⟨rfl, rfl⟩
  refine ⟨.inr ⟨rfl, by simp⟩, le_ok rfl, ?_⟩
  obtain ⟨pos, hpos⟩ : ∃ pos, posI (s.pays.map (·.id)) p.id = pos := ⟨_, rfl⟩
  have hple : pos ≤ s.pays.length := by have := posI_le (s.pays.map (·.id)) p.id; rw [hpos] at this; simpa using this
  obtain ⟨fnd, hfnd⟩ : ∃ fnd, fndI (s.pays.map (·.id)) p.id = fnd := ⟨_, rfl⟩
  rw [hpos, hfnd]
  simp [pc0, pc1, pc2, pd1, pd2, -errV_0]
  refine call0 (side_ok p.fr) (by simp [I]) ?_
  rintro y H' ⟨rfl, rfl⟩
  refine ⟨.inl (by simp), le_ok rfl, ?_⟩
  cases hb : decide (p.fr = 0 ∨ p.fr = 1)
  · have hb' := of_decide_eq_false hb
    rw [hadd, if_pos hb']
    simp [EV.lit, SE, staC, zSta]
    refine finW _ (weak_nlB (o := 32) (k := 3) 36 rfl rfl) (finW _ (weak_nlB (o := 32) (k := 4) 3 rfl rfl) ?_)
    exact fin [] (by decide) rfl rfl rfl ⟨rfl, rfl⟩
  have hb' := of_decide_eq_true hb
  rw [hadd, if_neg (by simp [hb']), hfnd]
  simp [pc0, pc1, pc2, pd1, pd2, EV.lit, -errV_0]
  refine alt (fun c1 => ?_) (fun c1 => ?_)
  · rw [if_pos c1]
    simp [EV.lit, SE, staC, zSta]
    refine finW _ (weak_nlB (o := 32) (k := 3) 36 rfl rfl) (finW _ (weak_nlB (o := 32) (k := 4) 3 rfl rfl) ?_)
    exact fin [] (by decide) rfl rfl rfl ⟨rfl, rfl⟩
  rw [if_neg c1]
  simp [hpt, hpl, -errV_0]
  refine call0 (Pmay_ok p p5) (by simp) ?_
  rintro y H' ⟨rfl, rfl⟩
  refine ⟨.inl (by simp [-List.flatMap_eq_nil_iff]), le_ok rfl, ?_⟩
  cases hm : mayP p
  · rw [if_pos rfl]
    simp [EV.lit, SE, staC, zSta]
    refine finW _ (weak_nlB (o := 32) (k := 3) 36 rfl rfl) (finW _ (weak_nlB (o := 32) (k := 4) 3 rfl rfl) ?_)
    exact fin [] (by decide) rfl rfl rfl ⟨rfl, rfl⟩
  rw [if_neg (by simp)]
  cases fnd
  rotate_left
  · rw [if_pos rfl]
    simp [EV.lit, SE, staC, zSta]
    refine finW _ (weak_nlB (o := 32) (k := 3) 36 rfl rfl) (finW _ (weak_nlB (o := 32) (k := 4) 3 rfl rfl) ?_)
    exact fin [] (by decide) rfl rfl rfl ⟨rfl, rfl⟩
  rw [if_neg (by simp)]
  simp [EV.lit, -errV_0]
  refine call0 (Sslots_ok ⟨s.num + 1, s.h0, s.h1, s.pays, s.holds⟩ (nxt_ok hs h0.1)) (by simp [SV, staC, tpv]) ?_
  rintro y H' ⟨rfl, rfl⟩
  refine ⟨.inr ⟨rfl, by simp⟩, le_ok rfl, ?_⟩
  simp [I, -errV_0]
  refine alt (fun c2 => ?_) (fun c2 => ?_)
  · rw [if_pos (by omega)]
    simp [EV.lit, SE, staC, zSta]
    refine finW _ (weak_nlB (o := 32) (k := 3) 36 rfl rfl) (finW _ (weak_nlB (o := 32) (k := 4) 3 rfl rfl) ?_)
    exact fin [] (by decide) rfl rfl rfl ⟨rfl, rfl⟩
  rw [if_neg (by omega)]
  have hins := InsP.ins_ok (payv s.pays) (payF p) pos (by simpa using hple) (by simp; omega)
  simp at hins
  have hpv : payv (insP s.pays p) = (payv s.pays).take pos ++ payF p :: (payv s.pays).drop pos := by rw [payv_ins, hpos]
  have hpl1 : (insP s.pays p).length = s.pays.length + 1 := by simp [insP, hpos]; omega
  have hfl := payF_len p5
  have hpt2 : List.take (s.pays.length + 1) (payv (insP s.pays p)) = payv (insP s.pays p) := List.take_of_length_le (by simp [hpl1])
  rcases hb' with hfr | hfr
  · simp [pc0, pc1, pc2, pd1, pd2, EV.lit, hfr, -errV_0]
    refine alt (fun c3 => ?_) (fun c3 => ?_)
    · rw [if_pos (by simpa [sideS, hfr] using c3)]
      simp [EV.lit, SE, staC, zSta]
      refine finW _ (weak_nlB (o := 32) (k := 3) 36 rfl rfl) (finW _ (weak_nlB (o := 32) (k := 4) 3 rfl rfl) ?_)
      exact fin [] (by decide) rfl rfl rfl ⟨rfl, rfl⟩
    rw [if_neg (by simpa [sideS, hfr] using c3)]
    have w1 : IntKind.i64.wrap (s.h0 - p.am) = s.h0 - p.am := wrap_i64 (by omega) (by omega)
    simp [pc0, pc1, pc2, pd1, pd2, pe0, pe1, pe2, EV.lit, hfr, hpt, hpl, hfl, w1, -errV_0]
    refine callH [80, 1072] hins (by simp) (by simp) (by simp) (by simp) (by simp) ?_
    rintro y H' ⟨rfl, rfl⟩
    refine ⟨.inl (by simp), by simp, ?_⟩
    simp [-errV_0]
    refine finW _ (weak_frz (o := 1088) (ty := 45) (es := 36) (xs := payv (insP s.pays p)) (by rw [hpv]; rfl)) ?_
    exact fin [] (by decide) rfl rfl rfl ⟨rfl, by simp [SE, staC, hpl1, hpt2, errV, hfr, -errV_0]⟩
  · simp [pc0, pc1, pc2, pd1, pd2, EV.lit, hfr, -errV_0]
    refine alt (fun c3 => ?_) (fun c3 => ?_)
    · rw [if_pos (by simpa [sideS, hfr] using c3)]
      simp [EV.lit, SE, staC, zSta]
      refine finW _ (weak_nlB (o := 32) (k := 3) 36 rfl rfl) (finW _ (weak_nlB (o := 32) (k := 4) 3 rfl rfl) ?_)
      exact fin [] (by decide) rfl rfl rfl ⟨rfl, rfl⟩
    rw [if_neg (by simpa [sideS, hfr] using c3)]
    have w1 : IntKind.i64.wrap (s.h1 - p.am) = s.h1 - p.am := wrap_i64 (by omega) (by omega)
    simp [pc0, pc1, pc2, pd1, pd2, pe0, pe1, pe2, EV.lit, hfr, hpt, hpl, hfl, w1, -errV_0]
    refine callH [80, 1072] hins (by simp) (by simp) (by simp) (by simp) (by simp) ?_
    rintro y H' ⟨rfl, rfl⟩
    refine ⟨.inl (by simp), by simp, ?_⟩
    simp [-errV_0]
    refine finW _ (weak_frz (o := 1088) (ty := 45) (es := 36) (xs := payv (insP s.pays p)) (by rw [hpv]; rfl)) ?_
    exact fin [] (by decide) rfl rfl rfl ⟨rfl, by simp [SE, staC, hpl1, hpt2, errV, hfr, -errV_0]⟩

end Go.Proofs.YtpilpjameifcfaaDoor

namespace Go.Proofs.YtpilpjameifcfaaDoor
open Go Go.EW
set_option linter.unusedSimpArgs false
set_option linter.unusedVariables false

def zPay : Pay := ⟨0, 0, 0, 0, hz⟩
def delP (l : List Pay) (x : Int) : List Pay := l.take (posI (l.map (·.id)) x) ++ l.drop (posI (l.map (·.id)) x + 1)
/-- A payment taken out; the error. -/
def takS (s : Sta) (x : Int) : Sta × Pay × Nat :=
  if (nxt s).2 ≠ 0 then (zSta, zPay, 1) else if fndI (s.pays.map (·.id)) x = false then (zSta, zPay, 8)
  else (⟨s.num + 1, s.h0, s.h1, delP s.pays x, s.holds⟩, (s.pays[posI (s.pays.map (·.id)) x]?).getD zPay, 0)
def SP (q : Sta × Pay × Nat) : EV := .tup [.agg (staC q.1), .agg (payC q.2.1), .c (.fz (.lit (errV q.2.2)))]
theorem fzE_payC (o es : Nat) (xs : List (List FV)) (p : Pay) : (payC p).map (fzE o es xs) = payC p := by simp [payC, hc]
theorem payv_del (l : List Pay) (x : Int) : payv (delP l x) = (payv l).take (posI (l.map (·.id)) x) ++ (payv l).drop (posI (l.map (·.id)) x + 1) := by simp [payv, delP]

set_option maxHeartbeats 4000000 in
theorem Stake_ok (s : Sta) (x : Int) (hs : s.ok) (hx64 : i64 x) : ECalls Tryd.prog 54 [SV s, I .i64 x] [] fun y H' => H' = [] ∧ y = SP (takS s x) := by
  obtain ⟨ok1, ok2, ok3, ok4, ok5, ok6, ok7⟩ := id hs
  refine ecalls k_Stake ?_
  simp [c_Stake, SV, staC, I, -errV_0]
  by_cases h0 : mayS s = true ∧ s.num ≠ 1099511627776
  rotate_left
  · have hx : nxt s = (zSta, 1) := by simp only [nxt, if_neg h0]
    have ha : takS s x = (zSta, zPay, 1) := by simp [takS, hx]
    rw [ha]
    refine call0 (next_ok s hs) (by simp [SV, staC]) ?_
    rintro y H' ⟨rfl, rfl⟩
    refine ⟨.inl (by simp), le_ok rfl, ?_⟩
    rw [hx]
    simp [SE, SP, staC, zSta, -errV_0]
    refine finW _ (weak_nlB (o := 16) (k := 3) 36 rfl rfl) (finW _ (weak_nlB (o := 16) (k := 4) 3 rfl rfl) ?_)
    exact fin [] (by decide) rfl rfl rfl ⟨rfl, rfl⟩
  have hx : nxt s = (⟨s.num + 1, s.h0, s.h1, s.pays, s.holds⟩, 0) := by simp only [nxt, if_pos h0]
  obtain ⟨hr, hpl', hh, htot⟩ := mayS_t h0.1
  have hpw := payL_pw hpl'
  have tpv : List.take s.pays.length (payv s.pays) = payv s.pays := List.take_of_length_le (by simp)
  have hadd : takS s x = if fndI (s.pays.map (·.id)) x = false then (zSta, zPay, 8)
      else (⟨s.num + 1, s.h0, s.h1, delP s.pays x, s.holds⟩, (s.pays[posI (s.pays.map (·.id)) x]?).getD zPay, 0) := by
    simp only [takS, hx]
    rw [if_neg (by simp)]
  refine call0 (nextP_ok s hs h0) (by simp [SV, staC]) ?_
  rintro y H' ⟨rfl, rfl⟩
  refine ⟨.inl (by simp), le_ok rfl, ?_⟩
  simp [-errV_0]
  refine call0 (BinP_ok s.pays x ok4 ok6 hpw) (by simp [PL, I, tpv]) ?_
  rintro y H' ⟨rfl, rfl⟩
  refine ⟨.inr ⟨rfl, by simp⟩, le_ok rfl, ?_⟩
  obtain ⟨pos, hpos⟩ : ∃ pos, posI (s.pays.map (·.id)) x = pos := ⟨_, rfl⟩
  obtain ⟨fnd, hfnd⟩ : ∃ fnd, fndI (s.pays.map (·.id)) x = fnd := ⟨_, rfl⟩
  rw [hpos, hfnd] at hadd ⊢
  rw [hadd]
  simp [-errV_0]
  cases fnd
  · simp [SP, staC, zSta, -errV_0]
    refine finW _ (weak_nlB (o := 16) (k := 3) 36 rfl rfl) (finW _ (weak_nlB (o := 16) (k := 4) 3 rfl rfl) ?_)
    exact fin [] (by decide) rfl rfl rfl ⟨rfl, rfl⟩
  have hf2 : (s.pays.map (·.id))[pos]? = some x := by
    have := hfnd
    unfold fndI at this
    rw [hpos] at this
    exact of_decide_eq_true this
  have hlt : pos < s.pays.length := by have := lt_len hf2; simpa using this
  obtain ⟨p, hc⟩ : ∃ p, s.pays[pos]? = some p := ⟨s.pays[pos], by simp [hlt]⟩
  have hpo := ok4 p (List.mem_of_getElem? hc)
  have hge : (payv s.pays)[pos]'(by simp [hlt]) = payF p := by
    have e := payv_get hc
    rw [List.getElem?_eq_getElem (by simp [hlt])] at e
    exact Option.some.inj e
  have hpt := payC_take hpo.2.2.2.2
  have hpl := payC_len hpo.2.2.2.2
  have hfl := payF_len hpo.2.2.2.2
  have w1 : IntKind.i64.wrap ((pos : Int) + 1) = (pos : Int) + 1 := wrap_i64 (by omega) (by omega)
  have hpv : payv (delP s.pays x) = (payv s.pays).take pos ++ (payv s.pays).drop (pos + 1) := by rw [payv_del, hpos]
  have hpl1 : (delP s.pays x).length = s.pays.length - 1 := by simp [delP, hpos]; omega
  have hpt2 : List.take (s.pays.length - 1) (payv (delP s.pays x)) = payv (delP s.pays x) := List.take_of_length_le (by simp [hpl1])
  have hdel := InsP.del_ok (payv s.pays) pos (by simpa using hlt)
  simp at hdel
  rw [hc]
  have hcn : Go.EW.hc [] = [] := rfl
  simp [hlt, hge, payF_fz, hpt, hpl, hfl, w1, hcn, -errV_0]
  refine callH [80] hdel (by simp) (by simp) (by simp) (by simp) (by simp) ?_
  rintro y H' ⟨rfl, rfl⟩
  refine ⟨.inl (by simp), by simp, ?_⟩
  simp [hpt, hpl, hcn, -errV_0]
  refine finW _ (weak_frz (o := 592) (ty := 45) (es := 36) (xs := payv (delP s.pays x)) (by rw [hpv]; rfl)) ?_
  have hfz := fzE_payC 592 36 (payv (delP s.pays x)) p
  exact fin (v := SP (⟨s.num + 1, s.h0, s.h1, delP s.pays x, s.holds⟩, p, 0)) (y := SP (⟨s.num + 1, s.h0, s.h1, delP s.pays x, s.holds⟩, p, 0)) [] (by decide) (by simp [resV, resT, evT, asT, SP, staC, hpt, hpl, hpl1, hpt2, hcn, hfz]) (by simp [conR, conT, conTs, SP, staC]) rfl ⟨rfl, rfl⟩

/-- A payment given back; the error. -/
def falS (s : Sta) (x : Int) : Sta × Nat :=
  if (takS s x).2.2 ≠ 0 then (zSta, (takS s x).2.2) else (⟨(takS s x).1.num, if (takS s x).2.1.fr = 0 then s.h0 + (takS s x).2.1.am else s.h0, if (takS s x).2.1.fr = 0 then s.h1 else s.h1 + (takS s x).2.1.am, (takS s x).1.pays, s.holds⟩, 0)
theorem payL_sum : ∀ {o : Option Int} {l : List Pay}, payL o l = true → ∀ p ∈ l, p.am ≤ sumP l
  | o, [], _, p, hp => by simp at hp
  | o, a :: r, h, p, hp => by
    simp only [payL, Bool.and_eq_true] at h
    have h1 := mayP_am h.1.1
    have h2 := sumP_nn h.2
    have e : sumP (a :: r) = a.am + sumP r := by simp [sumP]
    rcases List.mem_cons.1 hp with rfl | hp
    · omega
    · have := payL_sum h.2 p hp
      omega
theorem payL_mem : ∀ {o : Option Int} {l : List Pay}, payL o l = true → ∀ p ∈ l, mayP p = true
  | o, [], _, p, hp => by simp at hp
  | o, q :: r, h, p, hp => by
    simp only [payL, Bool.and_eq_true] at h
    rcases List.mem_cons.1 hp with rfl | hp
    · exact h.1.1
    · exact payL_mem h.2 p hp

set_option maxHeartbeats 4000000 in
theorem SFail_ok (s : Sta) (x : Int) (hs : s.ok) (hx64 : i64 x) : ECalls Tryd.prog 25 [SV s, I .i64 x] [] fun y H' => H' = [] ∧ y = SE (falS s x) := by
  obtain ⟨ok1, ok2, ok3, ok4, ok5, ok6, ok7⟩ := id hs
  refine ecalls k_SFail ?_
  simp [c_SFail, SV, staC, I, -errV_0]
  refine call0 (Stake_ok s x hs hx64) (by simp [SV, staC, I]) ?_
  rintro y H' ⟨rfl, rfl⟩
  refine ⟨.inl (by simp), le_ok rfl, ?_⟩
  by_cases h0 : mayS s = true ∧ s.num ≠ 1099511627776
  rotate_left
  · have hx : nxt s = (zSta, 1) := by simp only [nxt, if_neg h0]
    have ha : takS s x = (zSta, zPay, 1) := by simp [takS, hx]
    have hb : falS s x = (zSta, 1) := by simp [falS, ha]
    rw [ha, hb]
    simp [SE, SP, staC, zSta, zPay, payC, -errV_0]
    refine finW _ (weak_nlB (o := 16) (k := 3) 36 rfl rfl) (finW _ (weak_nlB (o := 16) (k := 4) 3 rfl rfl) ?_)
    exact fin [] (by decide) rfl rfl rfl ⟨rfl, rfl⟩
  have hx : nxt s = (⟨s.num + 1, s.h0, s.h1, s.pays, s.holds⟩, 0) := by simp only [nxt, if_pos h0]
  obtain ⟨hr, hpl', hh, htot⟩ := mayS_t h0.1
  cases hf : fndI (s.pays.map (·.id)) x
  · have ha : takS s x = (zSta, zPay, 8) := by simp [takS, hx, hf]
    have hb : falS s x = (zSta, 8) := by simp [falS, ha]
    rw [ha, hb]
    simp [SE, SP, staC, zSta, zPay, payC, -errV_0]
    refine finW _ (weak_nlB (o := 16) (k := 3) 36 rfl rfl) (finW _ (weak_nlB (o := 16) (k := 4) 3 rfl rfl) ?_)
    exact fin [] (by decide) rfl rfl rfl ⟨rfl, rfl⟩
  have hf2 : (s.pays.map (·.id))[posI (s.pays.map (·.id)) x]? = some x := of_decide_eq_true hf
  have hlt : posI (s.pays.map (·.id)) x < s.pays.length := by have := lt_len hf2; simpa using this
  obtain ⟨p, hc⟩ : ∃ p, s.pays[posI (s.pays.map (·.id)) x]? = some p := ⟨s.pays[posI (s.pays.map (·.id)) x], by simp [hlt]⟩
  have hpm := List.mem_of_getElem? hc
  have hpo := ok4 p hpm
  have hma := of_decide_eq_true (payL_mem hpl' p hpm)
  obtain ⟨m1, m2, m3, m4, m5, m6, m7, m8⟩ := hma
  have hle := payL_sum hpl' p hpm
  have hnn := sumH_nn hh
  have hto : total s = s.h0 + s.h1 + sumP s.pays + sumH s.holds := rfl
  have ha : takS s x = (⟨s.num + 1, s.h0, s.h1, delP s.pays x, s.holds⟩, p, 0) := by simp [takS, hx, hf, hc]
  have hb : falS s x = (⟨s.num + 1, if p.fr = 0 then s.h0 + p.am else s.h0, if p.fr = 0 then s.h1 else s.h1 + p.am, delP s.pays x, s.holds⟩, 0) := by simp [falS, ha]
  rw [ha, hb]
  have hpt := payC_take hpo.2.2.2.2
  have hpl := payC_len hpo.2.2.2.2
  simp [SP, staC, hpl, hpt, pc0, pc1, pc2, pd1, pd2, pe0, pe1, pe2, -errV_0]
  rcases m3 with hfr | hfr
  · have w1 : IntKind.i64.wrap (s.h0 + p.am) = s.h0 + p.am := wrap_i64 (by omega) (by omega)
    simp [hfr, pc0, pc1, pc2, pd1, pd2, pe0, pe1, pe2, hpl, w1, -errV_0]
    exact fin [] (by decide) rfl rfl rfl ⟨rfl, by simp [SE, staC, hfr, errV, -errV_0]⟩
  · have w1 : IntKind.i64.wrap (s.h1 + p.am) = s.h1 + p.am := wrap_i64 (by omega) (by omega)
    simp [hfr, pc0, pc1, pc2, pd1, pd2, pe0, pe1, pe2, hpl, w1, -errV_0]
    exact fin [] (by decide) rfl rfl rfl ⟨rfl, by simp [SE, staC, hfr, errV, -errV_0]⟩

end Go.Proofs.YtpilpjameifcfaaDoor
