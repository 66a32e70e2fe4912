/- Quiet E-operations, fourth part: slices of literals, places, slicing, the rest. -/
import Derived.Test.YtejjhgdnmknejaaEwF
import Derived.Laws.BytesString
namespace Go.EW
open Go

theorem flatten_take {α : Type} {es : Nat} : ∀ {xs : List (List α)} (_ : ∀ x ∈ xs, x.length = es) (h : Nat), (xs.take h).flatten = xs.flatten.take (h * es)
  | [], _, h => by simp
  | y :: r, hl, 0 => by simp
  | y :: r, hl, h + 1 => by
    have hy := hl y (by simp)
    simp only [List.take_succ_cons, List.flatten_cons]
    rw [flatten_take (es := es) (fun z hz => hl z (by simp [hz])) h, List.take_append, hy, show (h + 1) * es - es = h * es by rw [Nat.add_mul]; omega, List.take_of_length_le (l := y) (by rw [hy, Nat.add_mul]; omega)]
theorem flatten_drop {α : Type} {es : Nat} : ∀ {xs : List (List α)} (_ : ∀ x ∈ xs, x.length = es) (h : Nat), (xs.drop h).flatten = xs.flatten.drop (h * es)
  | [], _, h => by simp
  | y :: r, hl, 0 => by simp
  | y :: r, hl, h + 1 => by
    have hy := hl y (by simp)
    simp only [List.drop_succ_cons, List.flatten_cons]
    rw [flatten_drop (es := es) (fun z hz => hl z (by simp [hz])) h, List.drop_append, hy, show (h + 1) * es - es = h * es by rw [Nat.add_mul]; omega, List.drop_of_length_le (l := y) (by rw [hy, Nat.add_mul]; omega)]
    simp
theorem flatten_set {α : Type} {es : Nat} : ∀ {xs : List (List α)} (_ : ∀ x ∈ xs, x.length = es) (i : Nat) (_ : i < xs.length) (c : List α), (xs.set i c).flatten = xs.flatten.take (i * es) ++ c ++ xs.flatten.drop (i * es + es)
  | [], _, i, h, c => by simp at h
  | y :: r, hl, 0, h, c => by
    have hy := hl y (by simp)
    simp [← hy]
  | y :: r, hl, i + 1, h, c => by
    have hy := hl y (by simp)
    simp only [List.set_cons_succ, List.flatten_cons]
    rw [flatten_set (es := es) (fun z hz => hl z (by simp [hz])) i (by simpa using h) c]
    rw [List.take_append, List.drop_append, hy]
    rw [show (i + 1) * es - es = i * es by rw [Nat.add_mul]; omega, show (i + 1) * es + es - es = i * es + es by rw [Nat.add_mul]; omega]
    rw [List.take_of_length_le (l := y) (by rw [hy, Nat.add_mul]; omega), List.drop_of_length_le (l := y) (by rw [hy, Nat.add_mul]; omega)]
    simp

theorem len_of_set {α : Type} {es : Nat} {xs : List (List α)} (hl : ∀ x ∈ xs, x.length = es) (i : Nat) (c : List α) (hc : c.length = es) : ∀ x ∈ xs.set i c, x.length = es := by
  intro x hx
  rcases List.mem_or_eq_of_mem_set hx with h | h
  · exact hl x h
  · rw [h]; exact hc

theorem zeros_flat (z : List Value) (es : Nat) (hz : z.length = es) (h0 : 0 < es) : ∀ n : Nat, ((Array.range (n * es)).map (fun i => z.toArray[i % z.toArray.size]!)).toList = (List.replicate n z).flatten := by
  intro n
  have hl : ∀ x ∈ List.replicate n z, x.length = es := by intro x hx; rw [(List.mem_replicate.1 hx).2]; exact hz
  apply List.ext_getElem?
  intro i
  simp only [Array.toList_map, Array.toList_range, List.getElem?_map]
  by_cases hi : i < n * es
  · have hq : i / es < n := (Nat.div_lt_iff_lt_mul h0).2 hi
    have hm : i % es < es := Nat.mod_lt _ h0
    have e := flatten_get hl (i := i / es) (x := z) (by rw [List.getElem?_replicate, if_pos hq]) hm
    rw [show i / es * es + i % es = i by rw [Nat.mul_comm]; exact Nat.div_add_mod i es] at e
    rw [e, List.getElem?_range hi]
    simp only [Option.map_some, List.size_toArray, hz]
    rw [List.getElem?_eq_getElem (by omega)]
    simp only [Option.some.injEq]
    rw [getElem!_pos z.toArray (i % es) (by simp; omega)]
    simp
  · rw [List.getElem?_eq_none (by simp; omega), List.getElem?_eq_none (by rw [flatten_length hl]; simp; omega)]
    rfl

section
variable {P : Program} {o : Oper} {w0 : World} {m : Nat} {ρ0 : Nat → Value} {Φ0 : Nat → Prop} {H : Nat → Option EO} {X : Cx} {T : List EV} {a : Act} {id : Nat}

theorem frzAll_spec : ∀ {cs : List EC} {fs : List FV}, frzAll cs = some fs → cs = fs.map EC.fz
  | [], fs, h => by simp [frzAll] at h; subst h; rfl
  | x :: r, fs, h => by
    simp only [frzAll] at h
    replace h := bind_some' h
    obtain ⟨y, h1, h⟩ := h
    replace h := map_some' h
    obtain ⟨r', h2, rfl⟩ := h
    have := frzAll_spec h2
    subst this
    unfold frz at h1
    split at h1
    · obtain rfl := Option.some.inj h1; rfl
    · simp at h1

theorem All2_fz {fs : List FV} {us : List Value} (h : All2 (VR X) (fs.map EC.fz) us) : All2 (FR X.Φ X.w) fs us := by
  refine ⟨by simpa using h.1, ?_⟩
  intro i x y hx hy
  exact h.2 i (.fz x) y (by simp [hx]) hy

theorem set_parts (es : Nat) (ha : All2 (VV X) T a.tmps.toList) :
    ∀ (parts : List (Nat × Operand)) (xs xs' : List (List FV)) (us : List Value), setParts T es xs (parts.map fun p => (p.1, opd p.2)) = some xs' → (∀ x ∈ xs, x.length = es) → All2 (FR X.Φ X.w) xs.flatten us →
      ∃ us', Instr.fill (fun i => some (i * es, es)) us.toArray (parts.map fun p => (p.1, a.eval p.2)) = some us'.toArray ∧ All2 (FR X.Φ X.w) xs'.flatten us' ∧ (∀ x ∈ xs', x.length = es) ∧ xs'.length = xs.length
  | [], xs, xs', us, h, hl, hall => by
    simp [setParts] at h; subst h
    exact ⟨us, rfl, hall, hl, rfl⟩
  | (i, x) :: rest, xs, xs', us, h, hl, hall => by
    simp only [List.map_cons, setParts] at h
    replace h := bind_some' h
    obtain ⟨c, h1, h⟩ := h
    replace h := bind_some' h
    obtain ⟨c', h2, h⟩ := h
    split at h
    · rename_i hh
      have hc := frzAll_spec h2
      subst hc
      have hcv := All2_fz (VV_cells h1 (VV_ev ha x))
      have hsz : (a.eval x).cells.size = es := by rw [← hh.1, hcv.1]; simp
      have hfl := flatten_length hl
      have hle' : i * es + es ≤ us.length := by
        rw [← hall.1, hfl]
        have := Nat.mul_le_mul_right es (show i + 1 ≤ xs.length from hh.2)
        rw [Nat.add_mul] at this
        omega
      have hall1 : All2 (FR X.Φ X.w) (xs.set i c').flatten (us.take (i * es) ++ (a.eval x).cells.toList ++ us.drop (i * es + es)) := by
        rw [flatten_set hl i hh.2 c']
        exact ((hall.take _).append hcv).append (hall.drop _)
      obtain ⟨us', hf, hr, hl', hn⟩ := set_parts es ha rest _ xs' _ h (len_of_set hl i c' hh.1) hall1
      refine ⟨us', ?_, hr, hl', by simpa using hn⟩
      simp only [List.map_cons, Instr.fill]
      rw [if_neg (by simp [hsz]; exact hle')]
      rw [fill_step (i * es) es (a.eval x) us hsz hle']
      exact hf
    · simp at h

theorem All2_flits {vs : List Value} (h : ∀ v ∈ vs, v.oneCell' = true) : All2 (FR X.Φ X.w) (vs.map FV.lit) vs := by
  refine ⟨by simp, ?_⟩
  intro i x y hx hy
  rw [List.getElem?_map] at hx
  obtain ⟨z, hz, rfl⟩ := map_some' hx
  obtain rfl := Option.some.inj (hz.symm.trans hy)
  exact FR.lit _ (h z (List.mem_of_getElem? hz))

theorem replicate_flat {α β : Type} {R : α → β → Prop} {x : List α} {y : List β} (h : All2 R x y) : ∀ n : Nat, All2 R (List.replicate n x).flatten (List.replicate n y).flatten
  | 0 => by simpa using All2.nil
  | n + 1 => by simpa [List.replicate_succ] using h.append (replicate_flat h n)

theorem g_bsl {t e : TypeId} {es len : Nat} {parts : Array (Nat × Operand)} {z : List Value} (ho : o.op = .buildSlice t len parts) (ht : P.underlying t = some (.slice e)) (hes : sz P e = some es) (hz : zer P e = some z) (hlim : len * es ≤ 16777216) (h0 : 0 < es) (hzl : z.length = es)
    (r : Rel w0 m ρ0 Φ0 H X) (ha : All2 (VV X) T a.tmps.toList) {v : EV} {ob : Option EO} (h : evQ (.bsl es z len (parts.toList.map fun (i, x) => (i, opd x))) T H id = some (v, ob)) : Good P o a w0 m ρ0 Φ0 H X id v ob := by
  simp only [evQ] at h
  replace h := map_some' h
  obtain ⟨xs, h1, h⟩ := h
  simp only [Prod.mk.injEq] at h
  obtain ⟨rfl, rfl⟩ := h
  obtain ⟨i, zv, hi, hzi, hzc, hone⟩ := zer_some hz
  have hl0 : ∀ x ∈ List.replicate len (z.map FV.lit), x.length = es := by intro x hx; rw [(List.mem_replicate.1 hx).2]; simpa using hzl
  obtain ⟨us', hf, hr, hl', hn⟩ := set_parts (X := X) es ha parts.toList _ xs _ h1 hl0 (replicate_flat (All2_flits hone) len)
  obtain ⟨r', l'⟩ := r.newFrozen (w' := X.w.alloc (.cells us'.toArray e)) rfl rfl rfl (by simp) (fun b hb => heap_old _ _ _ hb) X.w.heap.size (Nat.le_refl _) (by simp)
  have hxl : xs.length = len := by simpa using hn
  refine ⟨.slice (some ⟨X.w.heap.size, 0, none⟩) len len, _, ?_, r', l', by simp, ?_⟩
  · have hcells : (if len * es = 0 then (#[] : Array Value) else zv.cells) = (if len * es = 0 then (#[] : Array Value) else z.toArray) := by rw [← hzc]
    simp only [execOp, ho, Instr.buildSlice, Sem.run_bind, run_underlying ht, Result.andThen_ok, run_sz hes]
    rw [if_neg (by omega)]
    have e1 : (parts.map fun (p : Nat × Operand) => (p.1, a.eval p.2)).toList = parts.toList.map fun p => (p.1, a.eval p.2) := by simp
    have e2 : ∀ b : Array Value, (b = if len * es = 0 then (#[] : Array Value) else zv.cells) → ((Array.range (len * es)).map (fun i => b[i % b.size]!)) = (List.replicate len z).flatten.toArray := by
      intro b hbb
      rw [hbb, hcells]
      split
      · rename_i hz0
        have : len = 0 := by
          rcases Nat.mul_eq_zero.1 hz0 with h' | h'
          · exact h'
          · omega
        simp [this]
      · have := zeros_flat z es hzl h0 len
        rw [← this]
    split
    · rename_i hz0
      have e3 := e2 #[] (by simp [hz0])
      simp only [e1, pure_bind]
      rw [e3, hf]
      simp [newRow]
    · rename_i hz0
      have e3 := e2 zv.cells (by simp [hz0])
      simp only [Sem.run_bind, run_zeroValue hi hzi, Sem.run_pure, Result.andThen_ok, e1]
      rw [e3, hf]
      simp [newRow]
  · have hfl := flatten_length hl'
    have := FR.sl (Φ := fun b => X.Φ b ∨ b = X.w.heap.size) (w := X.w.alloc (.cells us'.toArray e)) es xs X.w.heap.size 0 len us' (.inr rfl) h0 hl' (by rw [← hr.1, hfl]) (by omega)
      (by
        intro j u hu
        rw [cell_of_row _ _ _ us'.toArray e (0, 0) (heap_new _ _)]
        simpa using hu)
      (by
        intro j x u hx hu
        exact l'.fr (hr.2 j x u hx hu))
    rw [hxl] at this
    exact this

theorem g_bsr {t e : TypeId} {es len : Nat} {parts : Array (Nat × Operand)} {z : List Value} (ho : o.op = .buildSlice t len parts) (ht : P.underlying t = some (.slice e)) (hes : sz P e = some es) (hz : zer P e = some z) (hlim : len * es ≤ 16777216) (h0 : 0 < es) (hzl : z.length = es)
    (r : Rel w0 m ρ0 Φ0 H X) (ha : All2 (VV X) T a.tmps.toList) (hid : ¬ X.U id) (hm : m ≤ id) {v : EV} {ob : Option EO} (h : evQ (.bsr e es z len (parts.toList.map fun (i, x) => (i, opd x))) T H id = some (v, ob)) : Good P o a w0 m ρ0 Φ0 H X id v ob := by
  simp only [evQ] at h
  replace h := map_some' h
  obtain ⟨xs, h1, h⟩ := h
  simp only [Prod.mk.injEq] at h
  obtain ⟨rfl, rfl⟩ := h
  obtain ⟨i, zv, hi, hzi, hzc, hone⟩ := zer_some hz
  have hl0 : ∀ x ∈ List.replicate len (z.map FV.lit), x.length = es := by intro x hx; rw [(List.mem_replicate.1 hx).2]; simpa using hzl
  obtain ⟨us', hf, hr, hl', hn⟩ := set_parts (X := X) es ha parts.toList _ xs _ h1 hl0 (replicate_flat (All2_flits hone) len)
  have hxl : xs.length = len := by simpa using hn
  have hfl := flatten_length hl'
  have husl : us'.length = len * es := by rw [← hr.1, hfl, hxl]
  have hl0' : Later X { U := fun o => X.U o ∨ o = id, ρ := upd X.ρ id (.slice (some ⟨X.w.heap.size, 0, none⟩) len len), Φ := X.Φ, w := X.w.alloc (.cells us'.toArray e) } :=
    ⟨fun _ h => .inl h, fun o hu => upd_ne _ _ _ (fun e => hid (e ▸ hu)), fun _ h => h, fun b hb' => heap_old _ _ _ (r.fro b hb')⟩
  obtain ⟨r', l'⟩ := r.new (w' := X.w.alloc (.cells us'.toArray e)) rfl rfl rfl (by simp) (fun b hb => heap_old _ _ _ hb) id hid hm (.row e es xs) (.slice (some ⟨X.w.heap.size, 0, none⟩) len len)
    (by intro b hb'; simp [hb] at hb'; omega)
    ⟨h0, hl', us', ⟨by rw [husl, hxl], .inr ⟨X.w.heap.size, len, us'.toArray, by rw [hxl], Nat.zero_le _, heap_new _ _, by omega, by unfold maxLen; have := Nat.le_mul_of_pos_right len h0; omega, by simp [husl], by rw [hxl, ← husl]; simp⟩⟩, hr.mono fun _ _ => hl0'.fr⟩
  refine ⟨.slice (some ⟨X.w.heap.size, 0, none⟩) len len, _, ?_, r', l', by simp, ?_⟩
  · have hcells : (if len * es = 0 then (#[] : Array Value) else zv.cells) = (if len * es = 0 then (#[] : Array Value) else z.toArray) := by rw [← hzc]
    simp only [execOp, ho, Instr.buildSlice, Sem.run_bind, run_underlying ht, Result.andThen_ok, run_sz hes]
    rw [if_neg (by omega)]
    have e1 : (parts.map fun (p : Nat × Operand) => (p.1, a.eval p.2)).toList = parts.toList.map fun p => (p.1, a.eval p.2) := by simp
    have e2 : ∀ b : Array Value, (b = if len * es = 0 then (#[] : Array Value) else zv.cells) → ((Array.range (len * es)).map (fun i => b[i % b.size]!)) = (List.replicate len z).flatten.toArray := by
      intro b hbb
      rw [hbb, hcells]
      split
      · rename_i hz0
        have : len = 0 := by
          rcases Nat.mul_eq_zero.1 hz0 with h' | h'
          · exact h'
          · omega
        simp [this]
      · have := zeros_flat z es hzl h0 len
        rw [← this]
    split
    · rename_i hz0
      have e3 := e2 #[] (by simp [hz0])
      simp only [e1, pure_bind]
      rw [e3, hf]
      simp [newRow]
    · rename_i hz0
      have e3 := e2 zv.cells (by simp [hz0])
      simp only [Sem.run_bind, run_zeroValue hi hzi, Sem.run_pure, Result.andThen_ok, e1]
      rw [e3, hf]
      simp [newRow]
  · exact ⟨.inr rfl, some ⟨X.w.heap.size, 0, none⟩, len, len, by simp [upd_same], by omega, Nat.le_refl _, by rw [hxl]⟩

/-! places in arrays and slices -/
theorem isNum_lit {x : Operand} {iv : Value} {i : Int} (ha : All2 (VV X) T a.tmps.toList) (h1 : asLit (ev T (opd x)) = some iv) (h2 : isNum iv = some i) : ∃ k, a.eval x = .int k i := by
  obtain ⟨k, rfl⟩ := isNum_some h2
  exact ⟨k, VV_lit h1 (VV_ev ha x)⟩

theorem g_iad {t e : TypeId} {len es : Nat} {x i : Operand} (ho : o.op = .indexAddr t x i) (ht : P.underlying t = some (.array len e)) (hes : sz P e = some es) (r : Rel w0 m ρ0 Φ0 H X) (ha : All2 (VV X) T a.tmps.toList) {v : EV} {ob : Option EO} (h : evQ (.iad len es (opd x) (opd i)) T H id = some (v, ob)) : Good P o a w0 m ρ0 Φ0 H X id v ob := by
  simp only [evQ] at h
  replace h := bind_some' h
  obtain ⟨iv, h1, h⟩ := h
  replace h := bind_some' h
  obtain ⟨n, h2, h⟩ := h
  split at h
  · rename_i hb
    obtain ⟨k, hi⟩ := isNum_lit ha h1 h2
    have run : ∀ b off, a.eval x = .pointer (some ⟨b, off, none⟩) → (execOp a.eval o).run P X.w = .ok (.value (.pointer (some ⟨b, off + n.toNat * es, none⟩))) X.w := by
      intro b off e1
      simp [execOp, ho, e1, hi, Instr.indexAt, asIntOf, run_underlying ht, Instr.sureAddr, hb, run_sz hes, Addr.add_lit]
    split at h
    · rename_i o' k' h3
      simp only [Option.some.injEq, Prod.mk.injEq] at h
      obtain ⟨rfl, rfl⟩ := h
      obtain ⟨hu', b, hρ, e1⟩ := VV_c h3 (VV_ev ha x)
      exact .pure r (run b _ e1) ⟨hu', b, hρ, rfl⟩
    · rename_i o' es' j k' h3
      simp only [Option.some.injEq, Prod.mk.injEq] at h
      obtain ⟨rfl, rfl⟩ := h
      obtain ⟨hu', b, n', cap, hρ, e1⟩ := VV_c h3 (VV_ev ha x)
      exact .pure r (run b _ e1) ⟨hu', b, n', cap, hρ, by rw [Nat.add_assoc]⟩
    · rename_i cs k' h3
      simp only [Option.some.injEq, Prod.mk.injEq] at h
      obtain ⟨rfl, rfl⟩ := h
      obtain ⟨b, off, hb', e1, rest⟩ := VV_c h3 (VV_ev ha x)
      exact .pure r (run b _ e1) ⟨b, off, hb', by rw [Nat.add_assoc], rest⟩
    · rename_i g k' h3
      simp only [Option.some.injEq, Prod.mk.injEq] at h
      obtain ⟨rfl, rfl⟩ := h
      have e1 : a.eval x = .pointer (some ⟨g, k', none⟩) := VV_lit (by rw [asC_some h3]; rfl) (VV_ev ha x)
      exact .pure r (run g k' e1) (VV_mklit rfl)
    · simp at h
  · simp at h

theorem toNat_lt {n : Int} {l : Nat} (h0 : 0 ≤ n) (h : n.toNat < l) : n < (l : Int) := by omega

theorem g_isl {t e : TypeId} {es : Nat} {x i : Operand} (ho : o.op = .indexAddr t x i) (ht : P.underlying t = some (.slice e)) (hes : sz P e = some es) (h0 : 0 < es) (r : Rel w0 m ρ0 Φ0 H X) (ha : All2 (VV X) T a.tmps.toList) {v : EV} {ob : Option EO} (h : evQ (.isl es (opd x) (opd i)) T H id = some (v, ob)) : Good P o a w0 m ρ0 Φ0 H X id v ob := by
  simp only [evQ] at h
  replace h := bind_some' h
  obtain ⟨iv, h1, h⟩ := h
  replace h := bind_some' h
  obtain ⟨n, h2, h⟩ := h
  split at h
  · rename_i hb
    obtain ⟨k, hi⟩ := isNum_lit ha h1 h2
    have run : ∀ b off len cap, a.eval x = .slice (some ⟨b, off, none⟩) len cap → n < (len : Int) → (execOp a.eval o).run P X.w = .ok (.value (.pointer (some ⟨b, off + n.toNat * es, none⟩))) X.w := by
      intro b off len cap e1 hlt
      simp [execOp, ho, e1, hi, Instr.indexAt, asIntOf, run_underlying ht, hb, hlt, run_sz hes, Addr.add_lit]
    split at h
    · rename_i es' xs h3
      split at h
      · rename_i he
        subst he
        replace h := map_some' h
        obtain ⟨y, hy, h⟩ := h
        simp only [Prod.mk.injEq] at h
        obtain ⟨rfl, rfl⟩ := h
        have hv : FR X.Φ X.w (.sl es' xs) (a.eval x) := VV_c h3 (VV_ev ha x)
        generalize a.eval x = vx at hv run
        have hlt := lt_of_get hy
        cases hv with
        | emp => simp at hlt
        | sl es xs b off cap vs hΦ _ hl hn hcap hcell hfr =>
          refine .pure r (run b off _ cap rfl (toNat_lt hb hlt)) ⟨b, off + n.toNat * es', hΦ, by simp, (vs.drop (n.toNat * es')).take es', ?_, ?_, ?_⟩
          · have hyl := hl y (List.mem_of_getElem? hy)
            have hm : (n.toNat + 1) * es' ≤ xs.length * es' := Nat.mul_le_mul_right _ (show n.toNat + 1 ≤ xs.length from hlt)
            rw [Nat.add_mul] at hm
            simp [hyl, hn]
            omega
          · intro j u hu
            rw [List.getElem?_take] at hu
            split at hu
            · rw [List.getElem?_drop] at hu
              rw [Nat.add_assoc]
              exact hcell _ u hu
            · simp at hu
          · intro j x' u hx' hu
            rw [List.getElem?_take] at hu
            split at hu
            · rename_i hj
              rw [List.getElem?_drop] at hu
              exact hfr _ x' u (by rw [flatten_get hl hy hj]; exact hx') hu
            · simp at hu
      · simp at h
    · rename_i o' len h3
      split at h
      · rename_i ty es' xs hH
        split at h
        · rename_i hh
          simp only [Option.some.injEq, Prod.mk.injEq] at h
          obtain ⟨rfl, rfl⟩ := h
          obtain ⟨hu', ad, n', cap, hρ, hle, hle2, e1⟩ := VV_c h3 (VV_ev ha x)
          have hor := (r.obj o' _ hH).2
          rw [hρ] at hor
          obtain ⟨_, _, flat, how, _⟩ := hor
          rcases how.2 with ⟨hn, _⟩ | ⟨g, cap', cur, he, _, _, _, _⟩
          · simp only [Value.slice.injEq] at hn
            omega
          · simp only [Value.slice.injEq] at he
            obtain ⟨rfl, rfl, rfl⟩ := he
            refine .pure r (run g 0 len cap e1 hh.2) ⟨hu', g, _, cap, hρ, ?_⟩
            simp
        · simp at h
      · simp at h
    · rename_i o' k' len h3
      split at h
      · rename_i hh
        simp only [Option.some.injEq, Prod.mk.injEq] at h
        obtain ⟨rfl, rfl⟩ := h
        obtain ⟨hu', b, hρ, cap, hcap, e1⟩ := VV_c h3 (VV_ev ha x)
        obtain ⟨rfl, hlt⟩ := hh
        refine .pure r (run b k' len cap e1 hlt) ⟨hu', b, hρ, by simp⟩
      · simp at h
    · simp at h
  · simp at h

theorem g_s2a {t e : TypeId} {n es : Nat} {x : Operand} (ho : o.op = .sliceToArrayPointer t x) (ht : P.underlying t = some (.array n e)) (r : Rel w0 m ρ0 Φ0 H X) (ha : All2 (VV X) T a.tmps.toList) {v : EV} {ob : Option EO} (h : evQ (.s2a n es (opd x)) T H id = some (v, ob)) : Good P o a w0 m ρ0 Φ0 H X id v ob := by
  simp only [evQ] at h
  split at h
  · rename_i o' len h3
    split at h
    · rename_i ty es' xs hH
      split at h
      · rename_i hh
        simp only [Option.some.injEq, Prod.mk.injEq] at h
        obtain ⟨rfl, rfl⟩ := h
        obtain ⟨hu', ad, n', cap, hρ, hle, hle2, e1⟩ := VV_c h3 (VV_ev ha x)
        have hor := (r.obj o' _ hH).2
        rw [hρ] at hor
        obtain ⟨_, _, flat, how, _⟩ := hor
        rcases how.2 with ⟨hn, _⟩ | ⟨g, cap', cur, he, _, _, _, _⟩
        · simp only [Value.slice.injEq] at hn
          omega
        · simp only [Value.slice.injEq] at he
          obtain ⟨rfl, rfl, rfl⟩ := he
          have hlt : ¬ len < n := by omega
          refine .pure r (val := .pointer (some ⟨g, 0, none⟩)) ?_ ⟨hu', g, _, cap, hρ, ?_⟩
          · simp [execOp, ho, e1, Instr.arrayAt, run_underlying ht, hlt]
          · simp
      · simp at h
    · simp at h
  · simp at h

/-! slicing -/
theorem run_bound {w : World} {k : IntKind} {n : Int} {y : Nat} {c : BoundsCode} (h0 : 0 ≤ n) (hle : n.toNat ≤ y) : (Instr.sliceBound (.int k n) y c).run P w = .ok n.toNat w := by
  have : n ≤ (y : Int) := by omega
  simp [Instr.sliceBound, asIntOf, h0, this]

theorem bnd_spec (ha : All2 (VV X) T a.tmps.toList) {d : Nat} {x : Option Operand} {n : Nat} (h : bnd T d (x.map opd) = some n) : (x = none ∧ n = d) ∨ ∃ y k i, x = some y ∧ a.eval y = .int k i ∧ 0 ≤ i ∧ n = i.toNat := by
  cases x with
  | none => simp [bnd] at h; exact .inl ⟨rfl, h.symm⟩
  | some y =>
    simp only [Option.map_some, bnd] at h
    replace h := bind_some' h
    obtain ⟨v, h1, h⟩ := h
    replace h := bind_some' h
    obtain ⟨i, h2, h⟩ := h
    split at h
    · rename_i h0
      obtain ⟨k, e⟩ := isNum_lit ha h1 h2
      exact .inr ⟨y, k, i, rfl, e, h0, (Option.some.inj h).symm⟩
    · simp at h

theorem run_bounds (ha : All2 (VV X) T a.tmps.toList) {w : World} {lo hi : Option Operand} {l h len cap : Nat} (sl : Bool) (h1 : bnd T 0 (lo.map opd) = some l) (h2 : bnd T len (hi.map opd) = some h) (hlh : l ≤ h) (hlen : h ≤ len) (hcap : len ≤ cap) :
    (Instr.sliceBounds sl len cap (lo.map a.eval) (hi.map a.eval) none).run P w = .ok (l, h, cap) w := by
  rcases bnd_spec ha h1 with ⟨rfl, rfl⟩ | ⟨y, k, i, rfl, e, hi0, rfl⟩
  · rcases bnd_spec ha h2 with ⟨rfl, rfl⟩ | ⟨y', k', i', rfl, e', hi0', rfl⟩
    · simp [Instr.sliceBounds]
    · simp [Instr.sliceBounds, e', run_bound hi0' (show i'.toNat ≤ cap by omega)]
  · rcases bnd_spec ha h2 with ⟨rfl, rfl⟩ | ⟨y', k', i', rfl, e', hi0', rfl⟩
    · simp [Instr.sliceBounds, e, run_bound hi0 hlh]
    · simp [Instr.sliceBounds, e, e', run_bound hi0' (show i'.toNat ≤ cap by omega), run_bound hi0 hlh]

end
end Go.EW
