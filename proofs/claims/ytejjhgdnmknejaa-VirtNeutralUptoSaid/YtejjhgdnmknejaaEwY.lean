/- slices.Insert (one element) and slices.Delete (one element) on an own row, out of their walks ("roads"): what a program's own texts show by walking. -/
import Derived.Test.YtejjhgdnmknejaaEwX
import Derived.WalkKit
import Derived.Deep.RegionLaw
import Derived.Lib.SliceRun
import Derived.Lib.Overlaps
import Derived.Lib.AppendZeros
import Derived.Lib.AppendZerosOnto
import Derived.Laws.Externs
namespace Go.EW
set_option linter.unusedVariables false
set_option linter.unusedSimpArgs false
open Go Go.Lib
variable {P : Program}

/-- A copy into a row whose cells are known. -/
theorem run_copy_row (w : World) (dT sT ty elem : TypeId) (i : TypeInfo) (g o dLen dCap : Nat) (a : Addr) (sLen sCap : Nat) (cs : List Value) (cur : Array Value) (t : TypeId)
    (hu : P.underlying dT = some (.slice elem)) (hi : P.info? elem = some i) (hn : cs.length = Nat.min sLen dLen * i.size) (hg : w.heap[g]? = some (.cells cur t (0, 0))) (hl : o + cs.length ≤ cur.size)
    (hsrc : ∀ j v, cs[j]? = some v → w.cell? (a.add j) = some v) (h1 : ∀ v ∈ cs, v.oneCell' = true) :
    (Builtin.copy_ #[dT, sT] ty #[.slice (some ⟨g, o, none⟩) dLen dCap, .slice (some a) sLen sCap]).run P w = .ok (goInt (Nat.min sLen dLen)) (w.setRow g (cur.toList.take o ++ cs ++ cur.toList.drop (o + cs.length)).toArray) := by
  have hf := run_firstCells_some (P := P) w i.size (Nat.min sLen dLen) a sLen sCap cs hn hsrc
  have hst := run_storeCells_at P g o t cs 0 cur w hg (by omega) h1
  simp only [Nat.add_zero] at hst
  simp [Builtin.copy_, run_underlying hu, Builtin.lenOf, sizeOf, typeInfo, hi, hf, hst]

/-- An operation 'copy(d, s)' whose run is known by an equation. -/
theorem wp_copy_runI (w : World) {o : Oper} {a : Act} {K : Act → World → Prop} {Q : Exit → Act → World → Prop} (d s : Operand) (t t' : TypeId)
    (ho : o.op = .call { callee := .builtin .copy, args := #[d, s], argTypes := #[t, t'] }) (v u : Value) (hd : a.eval d = v) (hs : a.eval s = u) {v' : Value} {w' : World}
    (hr : (Builtin.copy_ #[t, t'] o.type #[v, u]).run P w = .ok v' w') (h : K (a.put o.dst v') w') : o.wp P a w K Q := by
  unfold Oper.wp execOp
  simp only [ho, resolve, invoke, builtin, Sem.run_bind, Sem.run_pure, Result.andThen_ok, List.map_toArray, List.map_cons, List.map_nil, hd, hs, hr]
  exact h
theorem wpList_copy_runI (w : World) {ops : Array Oper} {rest : List Oper} {o : Oper} {a : Act} {Q : Exit → Act → World → Prop} (hgd : o.guard = none) (d s : Operand) (t t' : TypeId)
    (ho : o.op = .call { callee := .builtin .copy, args := #[d, s], argTypes := #[t, t'] }) (v u : Value) (hd : a.eval d = v) (hs : a.eval s = u) {v' : Value} {w' : World}
    (hr : (Builtin.copy_ #[t, t'] o.type #[v, u]).run P w = .ok v' w') (h : wpList P ops Q rest (a.put o.dst v') w') : wpList P ops Q (o :: rest) a w :=
  wpList_plain hgd fun _ hK => wp_copy_runI w d s t t' ho v u hd hs hr (hK _ _ h)
theorem step_copy_runI {ops : Array Oper} {o : Oper} {a : Act} {w : World} {K : Act → World → Prop} {Q : Exit → Act → World → Prop} {E : Prop}
    (hg : o.guard = none) (d x : Operand) (dT sT : TypeId) (hop : o.op = Op.call { callee := Callee.builtin Builtin.copy, args := #[d, x], argTypes := #[dT, sT] })
    (v u : Value) (hd : a.eval d = v) (hx : a.eval x = u) {v' : Value} {w' : World} (hr : (Builtin.copy_ #[dT, sT] o.type #[v, u]).run P w = .ok v' w') (hK : K (a.put o.dst v') w') :
    if Region.wanted o (yielded ops a.tmps) = true then Oper.wp P o a w K Q else E := by
  have hw : Region.wanted o (yielded ops a.tmps) = true := by simp [Region.wanted, hg]
  rw [if_pos hw]
  unfold Oper.wp
  simp [execOp, hop, resolve, invoke, builtin, hd, hx, hr, Result.andThen]
  exact hK
theorem step_append_runI {ops : Array Oper} {o : Oper} {a : Act} {w : World} {K : Act → World → Prop} {Q : Exit → Act → World → Prop} {E : Prop}
    (hg : o.guard = none) (d x : Operand) (dT sT : TypeId) (hop : o.op = Op.call { callee := Callee.builtin Builtin.append, args := #[d, x], argTypes := #[dT, sT] })
    (v u : Value) (hd : a.eval d = v) (hx : a.eval x = u) {v' : Value} {w' : World} (hr : (Builtin.append_ #[dT, sT] o.type #[v, u]).run P w = .ok v' w') (hK : K (a.put o.dst v') w') :
    if Region.wanted o (yielded ops a.tmps) = true then Oper.wp P o a w K Q else E := by
  have hw : Region.wanted o (yielded ops a.tmps) = true := by simp [Region.wanted, hg]
  rw [if_pos hw]
  unfold Oper.wp
  simp [execOp, hop, resolve, invoke, builtin, hd, hx, hr, Result.andThen]
  exact hK

/-! ### the roads -/
def InsShift (P : Program) (f fov : FuncId) (tS : TypeId) (es : Nat) : Prop := ∀ (g n c i vb mc : Nat) (W1 W2 w : World), i < n → n + 1 ≤ c → c ≤ 9223372036854775807 →
  (∀ lb cb, (callFunc fov #[.slice (some ⟨vb, 0, none⟩) 1 mc, .slice (some ⟨g, (i + 1) * es, none⟩) lb cb]).run P w = .ok (.value (.bool false)) w) →
  (∀ ty, (Builtin.copy_ #[tS, tS] ty #[.slice (some ⟨g, (i + 1) * es, none⟩) (n - i) (c - (i + 1)), .slice (some ⟨g, i * es, none⟩) (n + 1 - i) (c - i)]).run P w.drew = .ok (goInt ((n - i : Nat) : Int)) W1) →
  (∀ ty, (Builtin.copy_ #[tS, tS] ty #[.slice (some ⟨g, i * es, none⟩) (n + 1 - i) (c - i), .slice (some ⟨vb, 0, none⟩) 1 mc]).run P W1 = .ok (goInt 1) W2) →
  Calls P f #[.slice (some ⟨g, 0, none⟩) n c, .int .i64 i, .slice (some ⟨vb, 0, none⟩) 1 mc] w fun e w' => e = .returned (.slice (some ⟨g, 0, none⟩) (n + 1) c) ∧ w' = W2
def InsEnd (P : Program) (f : FuncId) (tS : TypeId) : Prop := ∀ (base : Option Addr) (n c vb m mc : Nat) (v' : Value) (w W1 : World), n ≤ c → 0 < m →
  ((Builtin.append_ #[tS, tS] tS #[.slice base n c, .slice (some ⟨vb, 0, none⟩) m mc]).run P w = .ok v' W1) →
  Calls P f #[.slice base n c, .int .i64 n, .slice (some ⟨vb, 0, none⟩) m mc] w fun e w' => e = .returned v' ∧ w' = W1
def InsGrow (P : Program) (f : FuncId) (tS tI : TypeId) (es : Nat) : Prop := ∀ (g n c i vb mc g2 C : Nat) (W1 W2 W3 w : World), i < n → n ≤ c → c < n + 1 → c ≤ 9223372036854775806 → n + 1 ≤ C → C ≤ 9223372036854775807 →
  (∀ ty, (Builtin.append_ #[tS, tI] ty #[.slice (some ⟨g, 0, none⟩) i c, .int .i64 ((n : Int) + 1 - (i : Int))]).run P w = .ok (.slice (some ⟨g2, 0, none⟩) (n + 1) C) W1) →
  (∀ ty, (Builtin.copy_ #[tS, tS] ty #[.slice (some ⟨g2, i * es, none⟩) (n + 1 - i) (C - i), .slice (some ⟨vb, 0, none⟩) 1 mc]).run P W1 = .ok (goInt 1) W2) →
  (∀ ty, (Builtin.copy_ #[tS, tS] ty #[.slice (some ⟨g2, (i + 1) * es, none⟩) (n - i) (C - (i + 1)), .slice (some ⟨g, i * es, none⟩) (n - i) (c - i)]).run P W2.drew = .ok (goInt ((n - i : Nat) : Int)) W3) →
  Calls P f #[.slice (some ⟨g, 0, none⟩) n c, .int .i64 i, .slice (some ⟨vb, 0, none⟩) 1 mc] w fun e w' => e = .returned (.slice (some ⟨g2, 0, none⟩) (n + 1) C) ∧ w' = W3
def DelOne (P : Program) (f : FuncId) (tS : TypeId) (es : Nat) : Prop := ∀ (g n c i j k : Nat) (A : Addr) (W1 W2 w : World), j = i + 1 → k = n - 1 → j ≤ n → n ≤ c → c ≤ 9223372036854775807 →
  ((if c = j then some (⟨g, 0, none⟩ : Addr) else some ⟨g, j * es, none⟩) = some A) →
  (∀ ty, (Builtin.append_ #[tS, tS] ty #[.slice (some ⟨g, 0, none⟩) i c, .slice (some A) (n - j) (c - j)]).run P w.drew = .ok (.slice (some ⟨g, 0, none⟩) k c) W1) →
  (∀ ty, (Builtin.clear_ #[tS] ty #[.slice (some ⟨g, k * es, none⟩) (n - k) (c - k)]).run P W1 = .ok (.tuple #[]) W2) →
  Calls P f #[.slice (some ⟨g, 0, none⟩) n c, .int .i64 i, .int .i64 j] w fun e w' => e = .returned (.slice (some ⟨g, 0, none⟩) k c) ∧ w' = W2

/-- What is known of a slice's element type. -/
structure ElemT (P : Program) (tS e : TypeId) (es bytes : Nat) (ti : TypeInfo) (z : Value) : Prop where
  u : P.underlying tS = some (.slice e)
  hi : P.info? e = some ti
  hz : ti.zero = some z
  hs : ti.size = es
  hb : ti.bytes = bytes
  zs : z.cells.size = es
  zo : ∀ u ∈ z.cells.toList, u.oneCell' = true
  pos : 0 < es

theorem elemT_of {P : Program} {tS e : TypeId} {es bytes : Nat} (hu : P.underlying tS = some (.slice e)) (hz : (zer P e).map (·.length) = some es) (hs : (P.info? e).map (·.size) = some es) (hb : (P.info? e).map (·.bytes) = some bytes) (hp : 0 < es) :
    ∃ ti z, ElemT P tS e es bytes ti z := by
  obtain ⟨zl, hz1, hz2⟩ := Option.map_eq_some_iff.1 hz
  obtain ⟨i', zv, hi', hzi, hzc, hone⟩ := zer_some hz1
  rw [hi'] at hs hb
  simp only [Option.map_some, Option.some.injEq] at hs hb
  refine ⟨i', zv, hu, hi', hzi, hs, hb, by rw [← hz2, ← hzc]; simp, ?_, hp⟩
  intro u hu'
  rw [hzc] at hu'
  exact hone u hu'
theorem addr_add {b o j : Nat} : (⟨b, o, none⟩ : Addr).add j = ⟨b, o + j, none⟩ := Addr.add_lit ..
theorem row_cell {w : World} {g : Nat} {cur : Array Value} {e : TypeId} (hg : w.heap[g]? = some (.cells cur e (0, 0))) {L : List Value} {o : Nat} (h : ∀ (j : Nat) (u : Value), L[j]? = some u → cur.toList[o + j]? = some u) :
    ∀ (j : Nat) (u : Value), L[j]? = some u → w.cell? ((⟨g, o, none⟩ : Addr).add j) = some u := by
  intro j u hu
  rw [addr_add, cell_of_row w g (o + j) cur e (0, 0) hg]
  simpa using h j u hu

/-- The insertion, as a step of the world. -/
theorem ins_run {f fov : FuncId} {tS tI e tB : TypeId} {es bytes : Nat} {ti : TypeInfo} {z : Value} (E : ElemT P tS e es bytes ti z) (hI : P.underlying tI = some (.int .i64))
    (hs : InsShift P f fov tS es) (he : InsEnd P f tS) (hgr : InsGrow P f tS tI es)
    (hfov : ∀ w a b, (callFunc fov #[a, b]).run P w = ((Extern.SlicesOverlaps.overlaps #[tS, tS] #[tB] #[a, b]).run P w).andThen fun v w' => .ok (.value v) w')
    (w : World) (base : Option Addr) (n cap i vb mc : Nat) (flat vs : List Value) (cur1 : Array Value) (how : w.ownsRow 0 e es (.slice base n cap) n flat) (hvr : w.heap[vb]? = some (.cells cur1 e (0, 0))) (hv1 : cur1.toList.take es = vs) (hvl : vs.length = es) (hmc : 1 ≤ mc)
    (h1f : ∀ u ∈ flat, u.oneCell' = true) (h1v : ∀ u ∈ vs, u.oneCell' = true) (hne : ∀ a, base = some a → a.block ≠ vb) (hin : i ≤ n) (hn : n + 1 ≤ 1000000000) (hby : (n + 1) * bytes ≤ 140737488355328) :
    ∃ v' W', (Calls P f #[.slice base n cap, .int .i64 i, .slice (some ⟨vb, 0, none⟩) 1 mc] w fun e w' => e = .returned v' ∧ w' = W') ∧ W'.ownsRow 0 e es v' (n + 1) (flat.take (i * es) ++ vs ++ flat.drop (i * es)) ∧
      w.grownBy W' (Value.slice base n cap).ownBlock ∧ (v'.ownBlock = (Value.slice base n cap).ownBlock ∨ v'.ownBlock = some w.heap.size) := by
  have hvc : ∀ (j : Nat) (u : Value), vs[j]? = some u → cur1.toList[0 + j]? = some u := by
    intro j u hu
    rw [← hv1, List.getElem?_take] at hu
    split at hu
    · simpa using hu
    · simp at hu
  have hvlt : vb < w.heap.size := (Array.getElem?_eq_some_iff.1 hvr).1
  have hi' := E.hi
  have hpos := E.pos
  by_cases hie : i = n
  · subst hie
    obtain ⟨v', W', hrun, hown, hg, hnil, hat⟩ := run_append_own_at (P := P) w 0 tS tS e ti z es bytes E.u E.hi E.hz E.hs E.hb E.zs E.pos (.slice base i cap) i flat how ⟨vb, 0, none⟩ 1 mc vs (by rw [hvl]; omega)
      (row_cell hvr hvc) h1v (by unfold maxLen; omega) hby (Nat.zero_le _)
    have hnc : i ≤ cap := by
      rcases how.2 with ⟨h1, h2⟩ | ⟨g, cap', cur, h1, _, _, h2, _⟩
      · simp only [Value.slice.injEq] at h1; omega
      · simp only [Value.slice.injEq] at h1; omega
    refine ⟨v', W', he base i cap vb 1 mc v' w W' hnc (by omega) hrun, ?_, hg, hat⟩
    have h1 : flat.take (i * es) = flat := List.take_of_length_le (by rw [how.1]; omega)
    have h2 : flat.drop (i * es) = [] := List.drop_of_length_le (by rw [how.1]; omega)
    rw [h1, h2, List.append_nil]
    exact hown
  · have hlt : i < n := by omega
    rcases how.2 with ⟨h1, h2⟩ | ⟨g, cap', cur, h1, _, hg, hnc, hcm, hcs, htk⟩
    · omega
    · simp only [Value.slice.injEq] at h1
      obtain ⟨rfl, _, rfl⟩ := h1
      have hgv : g ≠ vb := hne _ rfl
      have hml : cap ≤ 9223372036854775807 := by unfold maxLen at hcm; omega
      have hfl : flat.length = n * es := how.1
      -- what stands in the row
      obtain ⟨A, hA⟩ : ∃ A, A = flat.take (i * es) := ⟨_, rfl⟩
      obtain ⟨B, hB⟩ : ∃ B, B = flat.drop (i * es) := ⟨_, rfl⟩
      have hmul : i * es + (n - i) * es = n * es := by rw [← Nat.add_mul]; congr 1; omega
      have hm1 : (i + 1) * es = i * es + es := by rw [Nat.add_mul]; omega
      have hm2 : (n + 1) * es = n * es + es := by rw [Nat.add_mul]; omega
      have hAl : A.length = i * es := by rw [hA, List.length_take]; omega
      have hBl : B.length = (n - i) * es := by rw [hB, List.length_drop]; omega
      have hAB : flat = A ++ B := by rw [hA, hB, List.take_append_drop]
      have hncm : n * es ≤ cap * es := Nat.mul_le_mul_right _ hnc
      obtain ⟨sp, hsp⟩ : ∃ sp, cur.toList = A ++ (B ++ sp) := ⟨cur.toList.drop (n * es), by rw [← List.append_assoc, ← hAB, ← htk, List.take_append_drop]⟩
      have hcl : cur.toList.length = cap * es := by simpa using hcs
      have hspl : i * es + ((n - i) * es + sp.length) = cap * es := by rw [← hcl, hsp]; simp [hAl, hBl]
      have h1B : ∀ u ∈ B, u.oneCell' = true := fun u hu => h1f u (by rw [hAB]; exact List.mem_append_right _ hu)
      have hBc : ∀ (j : Nat) (u : Value), B[j]? = some u → cur.toList[i * es + j]? = some u := by
        intro j u hu
        rw [hsp, List.getElem?_append_right (by omega), hAl, show i * es + j - i * es = j by omega, List.getElem?_append_left (lt_of_get hu)]
        exact hu
      rw [← hA, ← hB]
      by_cases hroom : n + 1 ≤ cap
      · have hcap1 : (n + 1) * es ≤ cap * es := Nat.mul_le_mul_right _ hroom
        have hov : ∀ lb cb, (callFunc fov #[.slice (some ⟨vb, 0, none⟩) 1 mc, .slice (some ⟨g, (i + 1) * es, none⟩) lb cb]).run P w = .ok (.value (.bool false)) w := fun lb cb => by
          rw [hfov, Lib.run_overlaps_apart w tS tB e E.u es (fun w => by simp [sizeOf, typeInfo, hi', E.hs]) ⟨vb, 0, none⟩ ⟨g, (i + 1) * es, none⟩ 1 mc lb cb (by simpa using hgv.symm) e e cur1.size cur.size (by simp [World.shape?, hvr]) (by simp [World.shape?, hg]) (by rw [hcs]; omega) (by simp [World.frozen?, hvr]) (by simp [World.frozen?, hvr])]
          rfl
        -- the first copy
        have hg' : w.drew.heap[g]? = some (.cells cur e (0, 0)) := hg
        have hc1 := fun ty => run_copy_row (P := P) w.drew tS tS ty e ti g ((i + 1) * es) (n - i) (cap - (i + 1)) ⟨g, i * es, none⟩ (n + 1 - i) (cap - i) B cur e E.u hi' (by rw [hBl, E.hs]; congr 1; simp only [Nat.min_def]; split <;> omega) hg' (by rw [hBl, hcs]; omega) (row_cell hg' hBc) h1B
        rw [show Nat.min (n + 1 - i) (n - i) = n - i by simp only [Nat.min_def]; split <;> omega] at hc1
        obtain ⟨cur2, hcur2⟩ : ∃ cur2, (cur.toList.take ((i + 1) * es) ++ B ++ cur.toList.drop ((i + 1) * es + B.length)).toArray = cur2 := ⟨_, rfl⟩
        rw [hcur2] at hc1
        have hw2 := setRow_heap w.drew g cur cur2 e (0, 0) hg'
        have hl2 : cur2.toList = A ++ ((cur.toList.drop (i * es)).take es ++ (B ++ cur.toList.drop ((i + 1) * es + B.length))) := by
          rw [← hcur2]
          have : cur.toList.take ((i + 1) * es) = A ++ (cur.toList.drop (i * es)).take es := by
            rw [hm1, List.take_add]
            congr 1
            rw [hsp, List.take_left' hAl]
          simp only [this, List.append_assoc]
        have hX : ((cur.toList.drop (i * es)).take es).length = es := by rw [List.length_take, List.length_drop, hcl]; omega
        obtain ⟨R, hR⟩ : ∃ R, cur.toList.drop ((i + 1) * es + B.length) = R := ⟨_, rfl⟩
        rw [hR] at hl2
        have hrest : R.length = cap * es - (n + 1) * es := by rw [← hR, List.length_drop, hcl, hBl]; omega
        have hs2 : cur2.size = cap * es := by
          have : cur2.toList.length = cap * es := by rw [hl2]; simp only [List.length_append, hAl, hX, hBl, hrest]; omega
          simpa using this
        -- the second copy
        have hvr2 : (w.drew.setRow g cur2).heap[vb]? = some (.cells cur1 e (0, 0)) := by rw [setRow_other _ _ _ _ hgv.symm]; exact hvr
        have hc2 := fun ty => run_copy_row (P := P) (w.drew.setRow g cur2) tS tS ty e ti g (i * es) (n + 1 - i) (cap - i) ⟨vb, 0, none⟩ 1 mc vs cur2 e E.u hi' (by rw [hvl, E.hs, show Nat.min 1 (n + 1 - i) = 1 by simp only [Nat.min_def]; split <;> omega]; omega) hw2 (by rw [hvl, hs2]; omega) (row_cell hvr2 hvc) h1v
        rw [show Nat.min 1 (n + 1 - i) = 1 by simp only [Nat.min_def]; split <;> omega] at hc2
        refine ⟨_, _, hs g n cap i vb mc _ _ w hlt hroom hml hov hc1 hc2, ⟨?_, .inr ⟨g, cap, _, rfl, Nat.zero_le _, setRow_heap _ _ _ _ _ _ hw2, hroom, hcm, ?_, ?_⟩⟩, ⟨rfl, rfl, rfl, by simp, ?_⟩, .inl rfl⟩
        · simp only [List.length_append, hAl, hvl, hBl]; omega
        · simp only [List.size_toArray, List.length_append, List.length_take, List.length_drop]
          have : cur2.toList.length = cap * es := by simpa using hs2
          omega
        · have e1 : cur2.toList.take (i * es) = A := by rw [hl2, List.take_left' hAl]
          have e2 : cur2.toList.drop (i * es + vs.length) = B ++ R := by
            rw [hl2, hvl, ← List.drop_drop, List.drop_left' hAl, List.drop_left' hX]
          simp only [e1, e2]
          rw [← List.append_assoc, List.take_left']
          simp only [List.length_append, hAl, hvl, hBl]; omega
        · intro k hk hne'
          have hkg : k ≠ g := by rintro rfl; exact hne' rfl
          rw [setRow_other _ _ _ _ hkg, setRow_other _ _ _ _ hkg]
          rfl
      · have hcn : cap = n := by omega
        subst hcn
        have hold : (Builtin.firstCells ti.size i (.slice (some ⟨g, 0, none⟩) i cap)).run P w.drew = .ok A.toArray w.drew :=
          run_firstCells_some w.drew ti.size i ⟨g, 0, none⟩ i cap A (by rw [hAl, E.hs]) (row_cell (show w.drew.heap[g]? = some (.cells cur e (0, 0)) from hg) fun j u hu => by
            rw [hsp, Nat.zero_add, List.getElem?_append_left (lt_of_get hu)]; exact hu)
        have hge := grownCap_ge w (cap + 1) cap e
        have hgm := grownCap_le_maxLen w (cap + 1) cap e (by unfold maxLen; omega)
        have hap := fun ty => Lib.run_append_grow_zeros (P := P) w tS tI ty e ti z .i64 .i64 E.u hI E.hi E.hz (some ⟨g, 0, none⟩) i cap A hold (cap + 1 - i) (by omega) (by rw [E.hs]; exact hpos) (by omega) (by omega)
          (by
            have : (cap + 1 - i) * ti.bytes ≤ (cap + 1) * ti.bytes := Nat.mul_le_mul_right _ (by omega)
            rw [E.hb] at this ⊢; omega)
          (by rw [show i + (cap + 1 - i) = cap + 1 by omega, E.hb]; exact growslice_fits (by omega) hby)
        rw [show i + (cap + 1 - i) = cap + 1 by omega] at hap
        obtain ⟨C, hC⟩ : ∃ C, grownCap w (cap + 1) cap e = C := ⟨_, rfl⟩
        rw [hC] at hge hgm hap
        have hCe : (cap + 1) * es ≤ C * es := Nat.mul_le_mul_right _ hge
        obtain ⟨ROW, hROW⟩ : ∃ ROW, (A.toArray ++ Builtin.zeroCells z.cells (cap + 1 - i) ++ Builtin.zeroCells z.cells (C - (cap + 1))) = ROW := ⟨_, rfl⟩
        rw [hROW] at hap
        obtain ⟨Z, hRl⟩ : ∃ Z, ROW.toList = A ++ Z := ⟨(Builtin.zeroCells z.cells (cap + 1 - i)).toList ++ (Builtin.zeroCells z.cells (C - (cap + 1))).toList, by rw [← hROW]; simp⟩
        have hRs : ROW.size = C * es := by
          rw [← hROW]
          simp only [Array.size_append, List.size_toArray, size_zeroCells, E.zs, hAl]
          rw [← Nat.add_mul, ← Nat.add_mul]
          congr 1
          omega
        have hZl : i * es + Z.length = C * es := by
          have : ROW.toList.length = C * es := by simpa using hRs
          rw [hRl, List.length_append, hAl] at this
          exact this
        obtain ⟨W1, hW1⟩ : ∃ W1, w.drew.alloc (.cells ROW e) = W1 := ⟨_, rfl⟩
        rw [hW1] at hap
        have hN : W1.heap[w.heap.size]? = some (.cells ROW e (0, 0)) := by rw [← hW1]; exact Go.heap_alloc_new w.drew _
        have hO : ∀ k, k < w.heap.size → W1.heap[k]? = w.heap[k]? := fun k hk => by rw [← hW1]; first | exact heap_alloc_old w.drew _ k hk | exact heap_alloc_old w.drew _ hk
        have hgl : g < w.heap.size := (Array.getElem?_eq_some_iff.1 hg).1
        have hvr1 : W1.heap[vb]? = some (.cells cur1 e (0, 0)) := by rw [hO vb hvlt]; exact hvr
        have hc1 := fun ty => run_copy_row (P := P) W1 tS tS ty e ti w.heap.size (i * es) (cap + 1 - i) (C - i) ⟨vb, 0, none⟩ 1 mc vs ROW e E.u hi' (by rw [hvl, E.hs, show Nat.min 1 (cap + 1 - i) = 1 by simp only [Nat.min_def]; split <;> omega]; omega) hN (by rw [hvl, hRs]; omega) (row_cell hvr1 hvc) h1v
        rw [show Nat.min 1 (cap + 1 - i) = 1 by simp only [Nat.min_def]; split <;> omega] at hc1
        obtain ⟨R2, hR2⟩ : ∃ R2, (ROW.toList.take (i * es) ++ vs ++ ROW.toList.drop (i * es + vs.length)).toArray = R2 := ⟨_, rfl⟩
        rw [hR2] at hc1
        have hl2 : R2.toList = A ++ (vs ++ Z.drop es) := by
          rw [← hR2, hRl, hvl, List.take_left' hAl, ← List.drop_drop, List.drop_left' hAl]
          simp
        have hs2 : R2.size = C * es := by
          have : R2.toList.length = C * es := by rw [hl2]; simp only [List.length_append, hAl, hvl, List.length_drop]; omega
          simpa using this
        have hN2 := setRow_heap W1 w.heap.size ROW R2 e (0, 0) hN
        have hg2 : (W1.setRow w.heap.size R2).drew.heap[g]? = some (.cells cur e (0, 0)) := by
          show (W1.setRow w.heap.size R2).heap[g]? = _
          rw [setRow_other _ _ _ _ (by omega), hO g hgl]
          exact hg
        have hN2' : (W1.setRow w.heap.size R2).drew.heap[w.heap.size]? = some (.cells R2 e (0, 0)) := hN2
        have hc2 := fun ty => run_copy_row (P := P) (W1.setRow w.heap.size R2).drew tS tS ty e ti w.heap.size ((i + 1) * es) (cap - i) (C - (i + 1)) ⟨g, i * es, none⟩ (cap - i) (cap - i) B R2 e E.u hi' (by rw [hBl, E.hs]; congr 1; simp only [Nat.min_def]; split <;> omega) hN2' (by rw [hBl, hs2]; omega) (row_cell hg2 hBc) h1B
        rw [show Nat.min (cap - i) (cap - i) = cap - i by simp only [Nat.min_def]; split <;> omega] at hc2
        refine ⟨_, _, hgr g cap cap i vb mc w.heap.size C _ _ _ w hlt (Nat.le_refl _) (by omega) (by omega) hge (by unfold maxLen at hgm; omega) (fun ty => by rw [show (cap : Int) + 1 - (i : Int) = ((cap + 1 - i : Nat) : Int) by omega]; exact hap ty) hc1 hc2,
          ⟨?_, .inr ⟨w.heap.size, C, _, rfl, Nat.zero_le _, setRow_heap _ _ _ _ _ _ hN2', hge, hgm, ?_, ?_⟩⟩, ⟨?_, ?_, ?_, ?_, ?_⟩, .inr rfl⟩
        · simp only [List.length_append, hAl, hvl, hBl]; omega
        · simp only [List.size_toArray, List.length_append, List.length_take, List.length_drop]
          have : R2.toList.length = C * es := by simpa using hs2
          omega
        · have e1 : R2.toList.take ((i + 1) * es) = A ++ vs := by rw [hl2, ← List.append_assoc, List.take_left' (by rw [List.length_append, hAl, hvl, hm1])]
          simp only [e1]
          rw [List.take_left']
          simp only [List.length_append, hAl, hvl, hBl]; omega
        · rw [← hW1]; rfl
        · rw [← hW1]; rfl
        · rw [← hW1]; rfl
        · rw [← hW1]; simp
        · intro k hk _
          rw [setRow_other _ _ _ _ (by omega)]
          show (W1.setRow w.heap.size R2).heap[k]? = _
          rw [setRow_other _ _ _ _ (by omega), hO k hk]

/-- One element taken out, as a step of the world. -/
theorem del_run {f : FuncId} {tS e : TypeId} {es bytes : Nat} {ti : TypeInfo} {z : Value} (E : ElemT P tS e es bytes ti z) (hd : DelOne P f tS es)
    (w : World) (base : Option Addr) (n cap i : Nat) (flat : List Value) (how : w.ownsRow 0 e es (.slice base n cap) n flat) (h1f : ∀ u ∈ flat, u.oneCell' = true) (hin : i < n) :
    ∃ v' W', (Calls P f #[.slice base n cap, .int .i64 i, .int .i64 ((i : Int) + 1)] w fun e w' => e = .returned v' ∧ w' = W') ∧ W'.ownsRow 0 e es v' (n - 1) (flat.take (i * es) ++ flat.drop ((i + 1) * es)) ∧
      w.grownBy W' (Value.slice base n cap).ownBlock ∧ (v'.ownBlock = (Value.slice base n cap).ownBlock ∨ v'.ownBlock = some w.heap.size) := by
  have hi' := E.hi
  have hpos := E.pos
  rcases how.2 with ⟨h1, h2⟩ | ⟨g, cap', cur, h1, _, hg, hnc, hcm, hcs, htk⟩
  · omega
  · simp only [Value.slice.injEq] at h1
    obtain ⟨rfl, _, rfl⟩ := h1
    have hml : cap ≤ 9223372036854775807 := by unfold maxLen at hcm; omega
    have hfl : flat.length = n * es := how.1
    have hmul : (i + 1) * es + (n - (i + 1)) * es = n * es := by rw [← Nat.add_mul]; congr 1; omega
    have hm1 : (i + 1) * es = i * es + es := by rw [Nat.add_mul]; omega
    have hm2 : (n - 1) * es = i * es + (n - (i + 1)) * es := by rw [← Nat.add_mul]; congr 1; omega
    have hncm : n * es ≤ cap * es := Nat.mul_le_mul_right _ hnc
    have hcl : cur.toList.length = cap * es := by simpa using hcs
    obtain ⟨B, hB⟩ : ∃ B, B = flat.drop ((i + 1) * es) := ⟨_, rfl⟩
    have hBl : B.length = (n - (i + 1)) * es := by rw [hB, List.length_drop]; omega
    have h1B : ∀ u ∈ B, u.oneCell' = true := fun u hu => h1f u (by rw [hB] at hu; exact List.mem_of_mem_drop hu)
    have hBc : ∀ (j : Nat) (u : Value), B[j]? = some u → cur.toList[(i + 1) * es + j]? = some u := by
      intro j u hu
      have hlt := lt_of_get hu
      rw [hB, List.getElem?_drop, ← htk, List.getElem?_take] at hu
      split at hu
      · exact hu
      · simp at hu
    have hAt : cur.toList.take (i * es) = flat.take (i * es) := by
      rw [← htk, List.take_take]
      congr 1
      have := Nat.mul_le_mul_right es (Nat.le_of_lt hin)
      omega
    have hg' : w.drew.heap[g]? = some (.cells cur e (0, 0)) := hg
    obtain ⟨A, hA, hAc⟩ : ∃ A : Addr, (if cap = i + 1 then some (⟨g, 0, none⟩ : Addr) else some ⟨g, (i + 1) * es, none⟩) = some A ∧ ∀ (j : Nat) (u : Value), B[j]? = some u → w.drew.cell? (A.add j) = some u := by
      by_cases hc : cap = i + 1
      · refine ⟨⟨g, 0, none⟩, by rw [if_pos hc], fun j u hu => ?_⟩
        have h0 : B = [] := List.eq_nil_of_length_eq_zero (by rw [hBl, show n - (i + 1) = 0 by omega, Nat.zero_mul])
        rw [h0] at hu
        simp at hu
      · exact ⟨⟨g, (i + 1) * es, none⟩, by rw [if_neg hc], row_cell hg' hBc⟩
    have hap := fun ty => run_append_room (P := P) w.drew tS ty e ti E.u hi' g i cap cur hg' A (n - (i + 1)) (cap - (i + 1)) B (by rw [hBl, E.hs]) hAc h1B (by omega) (by rw [hBl, hcs, E.hs]; omega)
    rw [show i + (n - (i + 1)) = n - 1 by omega, E.hs] at hap
    obtain ⟨R, hR⟩ : ∃ R, (cur.toList.take (i * es) ++ B ++ cur.toList.drop (i * es + B.length)).toArray = R := ⟨_, rfl⟩
    rw [hR] at hap
    have hAl : (flat.take (i * es)).length = i * es := by
      have := Nat.mul_le_mul_right es (Nat.le_of_lt hin)
      rw [List.length_take]; omega
    obtain ⟨S, hS⟩ : ∃ S, cur.toList.drop (i * es + B.length) = S := ⟨_, rfl⟩
    have hSl : S.length = cap * es - (i * es + B.length) := by rw [← hS, List.length_drop, hcl]
    have hRl : R.toList = flat.take (i * es) ++ (B ++ S) := by rw [← hR, hAt, hS]; simp
    have hRs : R.size = cap * es := by
      have : R.toList.length = cap * es := by rw [hRl]; simp only [List.length_append, hAl, hSl]; omega
      simpa using this
    have hw1 := setRow_heap w.drew g cur R e (0, 0) hg'
    have hzc : (Builtin.zeroCells z.cells (n - (n - 1))).toList.length = es := by
      have := size_zeroCells z.cells (n - (n - 1))
      rw [E.zs, show n - (n - 1) = 1 by omega] at this
      rw [show n - (n - 1) = 1 by omega]
      simpa using this
    have hzo : ∀ u ∈ (Builtin.zeroCells z.cells (n - (n - 1))).toList, u.oneCell' = true := by
      intro u hu
      rw [show n - (n - 1) = 1 by omega] at hu
      refine E.zo u ?_
      obtain ⟨a, ha, rfl⟩ : ∃ a, a < z.cells.size ∧ z.cells[a % z.cells.size]! = u := by simpa [Builtin.zeroCells] using hu
      have hlt : a % z.cells.size < z.cells.size := Nat.mod_lt _ (by omega)
      rw [getElem!_pos z.cells _ hlt]
      simp
    obtain ⟨ZZ, hZZ⟩ : ∃ ZZ, (Builtin.zeroCells z.cells (n - (n - 1))).toList = ZZ := ⟨_, rfl⟩
    rw [hZZ] at hzc hzo
    have hst := run_storeCells_at P g ((n - 1) * es) e ZZ 0 R (w.drew.setRow g R) hw1 (by rw [hzc, hRs]; omega) hzo
    simp only [Nat.add_zero] at hst
    obtain ⟨k1, hk1⟩ : ∃ k1, n - (n - 1) = k1 + 1 := ⟨0, by omega⟩
    have hclr : ∀ ty, (Builtin.clear_ #[tS] ty #[.slice (some ⟨g, (n - 1) * es, none⟩) (n - (n - 1)) (cap - (n - 1))]).run P (w.drew.setRow g R) = .ok (.tuple #[]) _ := fun ty => by
      rw [hk1] at hZZ ⊢
      simp only [Builtin.clear_]
      simp only [List.getElem?_toArray, List.getElem?_cons_zero, Sem.run_bind, run_underlying E.u, zeroValue, typeInfo, hi', E.hz]
      simp [zeroValue, typeInfo, hi', E.hz, hZZ, hst]
      rfl
    refine ⟨_, _, hd g n cap i (i + 1) (n - 1) A _ _ w rfl rfl hin hnc hml hA hap hclr, ⟨?_, .inr ⟨g, cap, _, rfl, Nat.zero_le _, setRow_heap _ _ _ _ _ _ hw1, by omega, hcm, ?_, ?_⟩⟩, ⟨rfl, rfl, rfl, by simp, ?_⟩, .inl rfl⟩
    · rw [← hB]; simp only [List.length_append, hAl, hBl]; omega
    · have : R.toList.length = cap * es := by simpa using hRs
      simp only [List.size_toArray, List.length_append, List.length_take, List.length_drop, hzc]
      omega
    · have e1 : R.toList.take ((n - 1) * es) = flat.take (i * es) ++ B := by
        rw [hRl, ← List.append_assoc, List.take_left']
        simp only [List.length_append, hAl, hBl]; omega
      simp only [e1, List.append_assoc]
      rw [← List.append_assoc, List.take_left', hB]
      simp only [List.length_append, hAl, hBl]; omega
    · intro k hk hne'
      have hkg : k ≠ g := by rintro rfl; exact hne' rfl
      rw [setRow_other _ _ _ _ hkg, setRow_other _ _ _ _ hkg]
      rfl

/-! ### as contracts -/
theorem ones_of {Φ : Nat → Prop} {w : World} {fs : List FV} {vs : List Value} (h : All2 (FR Φ w) fs vs) : ∀ u ∈ vs, u.oneCell' = true := by
  intro u hu
  obtain ⟨j, hj⟩ := List.getElem?_of_mem hu
  obtain ⟨c, _, hr⟩ := h.get' hj
  exact hr.oneCell
theorem row_own {w : World} {m : Nat} {ρ0 : Nat → Value} {Φ0 : Nat → Prop} {H : Nat → Option EO} {X : Cx} (r : Rel w m ρ0 Φ0 H X) {o : Nat} {e : TypeId} {es : Nat} {xs : List (List FV)} (hH : H o = some (.row e es xs)) {v : Value} (hv : VR X (.row o xs.length) v) :
    ∃ base cap flat, v = .slice base xs.length cap ∧ X.ρ o = v ∧ 0 < es ∧ (∀ x ∈ xs, x.length = es) ∧ X.w.ownsRow 0 e es (.slice base xs.length cap) xs.length flat ∧ All2 (FR X.Φ X.w) xs.flatten flat := by
  obtain ⟨hu, a, n0, cap, hρ, q1, q2, q3⟩ := hv
  obtain ⟨h0, hl, flat, how, hall⟩ := (r.obj o _ hH).2
  rw [hρ] at how
  have hn : n0 = xs.length := by
    rcases how.2 with ⟨hn, hz⟩ | ⟨g, cap', cur, he, _⟩
    · simp only [Value.slice.injEq] at hn; omega
    · simp only [Value.slice.injEq] at he; omega
  subst hn
  exact ⟨a, cap, flat, q3, by rw [hρ, q3], h0, hl, how, hall⟩

theorem ins_ecalls {f fov : FuncId} {tS tI e tB : TypeId} {es bytes : Nat} {ti : TypeInfo} {z : Value} (E : ElemT P tS e es bytes ti z) (hI : P.underlying tI = some (.int .i64))
    (hs : InsShift P f fov tS es) (he : InsEnd P f tS) (hgr : InsGrow P f tS tI es)
    (hfov : ∀ w a b, (callFunc fov #[a, b]).run P w = ((Extern.SlicesOverlaps.overlaps #[tS, tS] #[tB] #[a, b]).run P w).andThen fun v w' => .ok (.value v) w')
    (xs : List (List FV)) (x : List FV) (i : Nat) (hin : i ≤ xs.length) (hn : xs.length + 1 ≤ 1000000000) (hby : (xs.length + 1) * bytes ≤ 140737488355328) :
    ECalls P f [.v (.c (.row 0 xs.length)), .lit (.int .i64 i), .v (.c (.row 1 1))] [.row e es xs, .row e es [x]] fun y H' =>
      H' = [none, some (.row e es [x]), some (.row e es (xs.take i ++ x :: xs.drop i))] ∧ y = .v (.c (.row 2 (xs.length + 1))) := by
  intro ρ Φ w vals r ha
  obtain ⟨v0, vs0, rfl, h0, ha⟩ := ha.cons_left
  obtain ⟨v1, vs1, rfl, h1, ha⟩ := ha.cons_left
  obtain ⟨v2, vs2, rfl, h2, ha⟩ := ha.cons_left
  obtain rfl := ha.nil_left
  have h1' : FR Φ w (.lit (.int .i64 i)) v1 := h1
  obtain rfl : v1 = .int .i64 i := by cases h1'; rfl
  obtain ⟨base, cap, flat, rfl, hρ0, hp, hl, how, hall⟩ := row_own r (o := 0) (e := e) (es := es) (xs := xs) rfl h0
  obtain ⟨base2, mc, vs, rfl, hρ1, _, hl2, how2, hall2⟩ := row_own r (o := 1) (e := e) (es := es) (xs := [x]) rfl h2
  have hxl : x.length = es := hl2 x (by simp)
  rcases how2.2 with ⟨_, hbad⟩ | ⟨vb, mc', cur1, hvb, _, hvr, hmc, _, _, htk⟩
  · simp at hbad
  simp only [List.length_cons, List.length_nil, Nat.zero_add, Value.slice.injEq, true_and] at hvb hmc htk
  obtain ⟨rfl, rfl⟩ := hvb
  have hvl : vs.length = es := by have := how2.1; simpa using this
  have hne : ∀ a, base = some a → a.block ≠ vb := by
    rintro a rfl hb'
    have hb0 : hb (ρ 0) = some vb := by have : ρ 0 = _ := hρ0; rw [this]; simp [hb, hb']
    have hb1 : hb (ρ 1) = some vb := by have : ρ 1 = _ := hρ1; rw [this]; rfl
    exact absurd (r.inj 0 1 _ _ vb rfl rfl hb0 hb1) (by decide)
  obtain ⟨v', W', hcalls, hown, hg, hat⟩ := ins_run E hI hs he hgr hfov w base xs.length cap i vb mc flat vs cur1 how hvr (by simpa using htk) hvl hmc (ones_of hall) (by have := ones_of hall2; exact this) hne hin hn hby
  refine hcalls.mono ?_
  rintro e' w' ⟨rfl, rfl⟩
  have hob : (Value.slice base xs.length cap).ownBlock = hb (Value.slice base xs.length cap) := own_hb _ rfl
  obtain ⟨a', n', hv'⟩ : ∃ a' c', v' = .slice a' (xs.length + 1) c' ∧ xs.length + 1 ≤ c' := by
    rcases hown.2 with ⟨h1, h2⟩ | ⟨g, cap', cur, h1, _, _, h2, _⟩
    · omega
    · exact ⟨_, cap', h1, h2⟩
  have hob' := own_hb v' hv'.1
  have nbo : ∀ b, Φ b → some b ≠ (Value.slice base xs.length cap).ownBlock := by
    intro b hb' e'
    refine r.dis 0 _ b rfl ?_ hb'
    have : ρ 0 = _ := hρ0
    show hb (ρ 0) = some b
    rw [this, ← hob, e']
  have hl0 : Later ⟨fun o => o < 2, ρ, Φ, w⟩ { U := fun o => o < 2 ∨ o = 2, ρ := upd ρ 2 v', Φ := Φ, w := w' } :=
    ⟨fun _ h => .inl h, fun o hu => upd_ne _ _ _ (by have : o < 2 := hu; omega), fun _ h => h, fun b hb' => hg.block b (r.fro b hb') (nbo b hb')⟩
  have hfl : (xs.take i ++ x :: xs.drop i).flatten = xs.flatten.take (i * es) ++ x ++ xs.flatten.drop (i * es) := by
    rw [List.flatten_append, List.flatten_cons, flatten_take hl, flatten_drop hl, List.append_assoc]
  have hlen : (xs.take i ++ x :: xs.drop i).length = xs.length + 1 := by simp; omega
  have hx2 : All2 (FR Φ w) x vs := by have := hall2; simpa using this
  obtain ⟨r', l'⟩ := r.grow (some 0) (Value.slice base xs.length cap).ownBlock (.inr ⟨0, _, rfl, rfl, by have : ρ 0 = _ := hρ0; show hb (ρ 0) = _; rw [this, hob]⟩) hg (id := 2) (by show ¬ (2 < 2); omega) (Nat.le_refl _) v'
    (by rw [← hob']; rcases hat with h | h; exact .inr (.inl h); exact .inr (.inr h)) (.row e es (xs.take i ++ x :: xs.drop i))
    ⟨hp, by
      intro y hy
      rcases List.mem_append.1 hy with h | h
      · exact hl y (List.mem_of_mem_take h)
      · rcases List.mem_cons.1 h with rfl | h
        · exact hxl
        · exact hl y (List.mem_of_mem_drop h), _, by rw [hlen]; exact hown, by
      rw [hfl]
      exact (((hall.take _).append hx2).append (hall.drop _)).mono fun _ _ => hl0.fr⟩
  have hU : (fun o => o < 2 ∨ o = 2) = fun o => o < 3 := funext fun o => propext (by omega)
  have hH : upd (dropO (ofL [EO.row e es xs, .row e es [x]]) (some 0)) 2 (some (.row e es (xs.take i ++ x :: xs.drop i))) = ofO [none, some (.row e es [x]), some (.row e es (xs.take i ++ x :: xs.drop i))] := by
    funext o
    match o with
    | 0 => rfl
    | 1 => rfl
    | 2 => rfl
    | o + 3 => simp [upd, dropO, ofL, ofO]
  refine ⟨_, _, v', upd ρ 2 v', Φ, rfl, ⟨rfl, rfl⟩, by simp, ?_, ?_⟩
  · exact ⟨by show 2 < _; simp, a', xs.length + 1, n', by simp [upd_same, hv'.1], Nat.le_refl _, hv'.2, hv'.1⟩
  · have r2 : Rel w 2 ρ Φ _ { U := fun o => o < 2 ∨ o = 2, ρ := upd ρ 2 v', Φ := Φ, w := w' } := r'
    rw [hU] at r2
    have r3 := hH ▸ r2
    exact r3

theorem del_ecalls {f : FuncId} {tS e : TypeId} {es bytes : Nat} {ti : TypeInfo} {z : Value} (E : ElemT P tS e es bytes ti z) (hd : DelOne P f tS es)
    (xs : List (List FV)) (i : Nat) (hin : i < xs.length) :
    ECalls P f [.v (.c (.row 0 xs.length)), .lit (.int .i64 i), .lit (.int .i64 ((i : Int) + 1))] [.row e es xs] fun y H' =>
      H' = [none, some (.row e es (xs.take i ++ xs.drop (i + 1)))] ∧ y = .v (.c (.row 1 (xs.length - 1))) := by
  intro ρ Φ w vals r ha
  obtain ⟨v0, vs0, rfl, h0, ha⟩ := ha.cons_left
  obtain ⟨v1, vs1, rfl, h1, ha⟩ := ha.cons_left
  obtain ⟨v2, vs2, rfl, h2, ha⟩ := ha.cons_left
  obtain rfl := ha.nil_left
  have h1' : FR Φ w (.lit (.int .i64 i)) v1 := h1
  obtain rfl : v1 = .int .i64 i := by cases h1'; rfl
  have h2' : FR Φ w (.lit (.int .i64 ((i : Int) + 1))) v2 := h2
  obtain rfl : v2 = .int .i64 ((i : Int) + 1) := by cases h2'; rfl
  obtain ⟨base, cap, flat, rfl, hρ0, hp, hl, how, hall⟩ := row_own r (o := 0) (e := e) (es := es) (xs := xs) rfl h0
  obtain ⟨v', W', hcalls, hown, hg, hat⟩ := del_run E hd w base xs.length cap i flat how (ones_of hall) hin
  refine hcalls.mono ?_
  rintro e' w' ⟨rfl, rfl⟩
  have hob : (Value.slice base xs.length cap).ownBlock = hb (Value.slice base xs.length cap) := own_hb _ rfl
  obtain ⟨a', n', hv'⟩ : ∃ a' c', v' = .slice a' (xs.length - 1) c' ∧ xs.length - 1 ≤ c' := by
    rcases hown.2 with ⟨h1, h2⟩ | ⟨g, cap', cur, h1, _, _, h2, _⟩
    · exact ⟨none, 0, by rw [h1, h2], by omega⟩
    · exact ⟨_, cap', h1, h2⟩
  have hob' := own_hb v' hv'.1
  have nbo : ∀ b, Φ b → some b ≠ (Value.slice base xs.length cap).ownBlock := by
    intro b hb' e'
    refine r.dis 0 _ b rfl ?_ hb'
    have : ρ 0 = _ := hρ0
    show hb (ρ 0) = some b
    rw [this, ← hob, e']
  have hl0 : Later ⟨fun o => o < 1, ρ, Φ, w⟩ { U := fun o => o < 1 ∨ o = 1, ρ := upd ρ 1 v', Φ := Φ, w := w' } :=
    ⟨fun _ h => .inl h, fun o hu => upd_ne _ _ _ (by have : o < 1 := hu; omega), fun _ h => h, fun b hb' => hg.block b (r.fro b hb') (nbo b hb')⟩
  have hfl : (xs.take i ++ xs.drop (i + 1)).flatten = xs.flatten.take (i * es) ++ xs.flatten.drop ((i + 1) * es) := by
    rw [List.flatten_append, flatten_take hl, flatten_drop hl]
  have hlen : (xs.take i ++ xs.drop (i + 1)).length = xs.length - 1 := by simp; omega
  obtain ⟨r', l'⟩ := r.grow (some 0) (Value.slice base xs.length cap).ownBlock (.inr ⟨0, _, rfl, rfl, by have : ρ 0 = _ := hρ0; show hb (ρ 0) = _; rw [this, hob]⟩) hg (id := 1) (by show ¬ (1 < 1); omega) (Nat.le_refl _) v'
    (by rw [← hob']; rcases hat with h | h; exact .inr (.inl h); exact .inr (.inr h)) (.row e es (xs.take i ++ xs.drop (i + 1)))
    ⟨hp, by
      intro y hy
      rcases List.mem_append.1 hy with h | h
      · exact hl y (List.mem_of_mem_take h)
      · exact hl y (List.mem_of_mem_drop h), _, by rw [hlen]; exact hown, by
      rw [hfl]
      exact ((hall.take _).append (hall.drop _)).mono fun _ _ => hl0.fr⟩
  have hU : (fun o => o < 1 ∨ o = 1) = fun o => o < 2 := funext fun o => propext (by omega)
  have hH : upd (dropO (ofL [EO.row e es xs]) (some 0)) 1 (some (.row e es (xs.take i ++ xs.drop (i + 1)))) = ofO [none, some (.row e es (xs.take i ++ xs.drop (i + 1)))] := by
    funext o
    match o with
    | 0 => rfl
    | 1 => rfl
    | o + 2 => simp [upd, dropO, ofL, ofO]
  refine ⟨_, _, v', upd ρ 1 v', Φ, rfl, ⟨rfl, rfl⟩, by simp, ?_, ?_⟩
  · exact ⟨by show 1 < _; simp, a', xs.length - 1, n', by simp [upd_same, hv'.1], Nat.le_refl _, hv'.2, hv'.1⟩
  · have r2 : Rel w 1 ρ Φ _ { U := fun o => o < 1 ∨ o = 1, ρ := upd ρ 1 v', Φ := Φ, w := w' } := r'
    rw [hU] at r2
    have r3 := hH ▸ r2
    exact r3

end Go.EW
