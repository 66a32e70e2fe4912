import Derived.Test.YtddcceahaigodaaGreatDoorAll1
import Derived.Laws.BytesString
import Derived.IntWalk
import Derived.Laws.StructEq
namespace Go.EW
open Go
theorem flatten_take {α : Type} {es : Nat} : ∀ {xs : List (List α)} (_ : ∀ x ∈ xs, x.length = es) (h : Nat), (xs.take h).flatten = xs.flatten.take (h * es)
 | [], _, h => by simp
 | y :: r, hl, 0 => by simp
 | y :: r, hl, h + 1 => by
  have hy := hl y (by simp)
  simp only [List.take_succ_cons, List.flatten_cons]
  rw [flatten_take (es := es) (fun z hz => hl z (by simp [hz])) h, List.take_append, hy, show (h + 1) * es - es = h * es by rw [Nat.add_mul]; omega, List.tkL (l := y) (by rw [hy, Nat.add_mul]; omega)]
theorem flatten_drop {α : Type} {es : Nat} : ∀ {xs : List (List α)} (_ : ∀ x ∈ xs, x.length = es) (h : Nat), (xs.drop h).flatten = xs.flatten.drop (h * es)
 | [], _, h => by simp
 | y :: r, hl, 0 => by simp
 | y :: r, hl, h + 1 => by
  have hy := hl y (by simp)
  simp only [List.drop_succ_cons, List.flatten_cons]
  rw [flatten_drop (es := es) (fun z hz => hl z (by simp [hz])) h, List.drop_append, hy, show (h + 1) * es - es = h * es by rw [Nat.add_mul]; omega, List.drop_of_length_le (l := y) (by rw [hy, Nat.add_mul]; omega)]
  simp
theorem flatten_set {α : Type} {es : Nat} : ∀ {xs : List (List α)} (_ : ∀ x ∈ xs, x.length = es) (i : Nat) (_ : i < xs.length) (c : List α), (xs.set i c).flatten = xs.flatten.take (i * es) ++ c ++ xs.flatten.drop (i * es + es)
 | [], _, i, h, c => by simp at h
 | y :: r, hl, 0, h, c => by
  have hy := hl y (by simp)
  simp [← hy]
 | y :: r, hl, i + 1, h, c => by
  have hy := hl y (by simp)
  simp only [List.set_cons_succ, List.flatten_cons]
  rw [flatten_set (es := es) (fun z hz => hl z (by simp [hz])) i (by simpa using h) c]
  rw [List.take_append, List.drop_append, hy]
  rw [show (i + 1) * es - es = i * es by rw [Nat.add_mul]; omega, show (i + 1) * es + es - es = i * es + es by rw [Nat.add_mul]; omega]
  rw [List.tkL (l := y) (by rw [hy, Nat.add_mul]; omega), List.drop_of_length_le (l := y) (by rw [hy, Nat.add_mul]; omega)]
  simp
theorem len_of_set {α : Type} {es : Nat} {xs : List (List α)} (hl : ∀ x ∈ xs, x.length = es) (i : Nat) (c : List α) (hc : c.length = es) : ∀ x ∈ xs.set i c, x.length = es := by
 intro x hx
 rcases List.mem_or_eq_of_mem_set hx with h | h
 ·exact hl x h
 ·rw [h]; exact hc
theorem zeros_flat (z : List Value) (es : Nat) (hz : z.length = es) (h0 : 0 < es) : ∀ n : Nat, ((Array.range (n * es)).map (fun i => z.toArray[i % z.toArray.size]!)).toList = (List.replicate n z).flatten := by
 intro n
 have hl : ∀ x ∈ List.replicate n z, x.length = es := by intro x hx; rw [(List.mem_replicate.1 hx).2]; exact hz
 apply List.ext_getElem?
 intro i
 simp only [Array.toList_map, Array.toList_range, List.getElem?_map]
 by_cases hi : i < n * es
 ·have hq : i / es < n := (Nat.div_lt_iff_lt_mul h0).2 hi
  have hm : i % es < es := Nat.mod_lt _ h0
  have e := flatten_get hl (i := i / es) (x := z) (by rw [List.getElem?_replicate, if_pos hq]) hm
  rw [show i / es * es + i % es = i by rw [Nat.mul_comm]; exact Nat.div_add_mod i es] at e
  rw [e, List.getElem?_range hi]
  simp only [Option.map_some, List.size_toArray, hz]
  rw [List.getElem?_eq_getElem (by omega)]
  simp only [Option.some.injEq]
  rw [getElem!_pos z.toArray (i % es) (by simp; omega)]
  simp
 ·rw [List.getElem?_eq_none (by simp; omega), List.getElem?_eq_none (by rw [flatten_length hl]; simp; omega)]
  rfl
section
variable {P : Program} {o : Oper} {w0 : World} {m : Nat} {ρ0 : Base} {Φ0 : Nat → Prop} {H : Nat → Option EO} {X : Cx} {T : List EV} {a : Act} {id : Nat}
theorem frzAll_spec : ∀ {cs : List EC} {fs : List FV}, frzAll cs = some fs → cs = fs.map EC.fz
 | [], fs, h => by simp [frzAll] at h; subst h; rfl
 | x :: r, fs, h => by
  simp only [frzAll] at h
  replace h := bind_some' h
  obtain ⟨y, h1, h⟩ := h
  replace h := map_some' h
  obtain ⟨r', h2, rfl⟩ := h
  have := frzAll_spec h2
  subst this
  unfold frz at h1
  split at h1
  ·obtain rfl := Option.some.inj h1; rfl
  ·simp at h1
theorem All2_fz {fs : List FV} {us : List Value} (h : All2 (VR X) (fs.map EC.fz) us) : All2 (FR X.Φ X.w) fs us := by
 refine ⟨by simpa using h.1, ?_⟩
 intro i x y hx hy
 exact h.2 i (.fz x) y (by simp [hx]) hy
theorem set_parts (es : Nat) (ha : All2 (VV X) T a.tmps.toList) :
  ∀ (parts : List (Nat × Operand)) (xs xs' : List (List FV)) (us : List Value), setParts T es xs (parts.map fun p => (p.1, opd p.2)) = some xs' → (∀ x ∈ xs, x.length = es) → All2 (FR X.Φ X.w) xs.flatten us →
   ∃ us', Instr.fill (fun i => some (i * es, es)) us.toArray (parts.map fun p => (p.1, a.eval p.2)) = some us'.toArray ∧ All2 (FR X.Φ X.w) xs'.flatten us' ∧ (∀ x ∈ xs', x.length = es) ∧ xs'.length = xs.length
 | [], xs, xs', us, h, hl, hall => by
  simp [setParts] at h; subst h
  exact ⟨us, rfl, hall, hl, rfl⟩
 | (i, x) :: rest, xs, xs', us, h, hl, hall => by
  simp only [List.map_cons, setParts] at h
  replace h := bind_some' h
  obtain ⟨c, h1, h⟩ := h
  replace h := bind_some' h
  obtain ⟨c', h2, h⟩ := h
  split at h
  ·rename_i hh
   have hc := frzAll_spec h2
   subst hc
   have hcv := All2_fz (VV_cells h1 (VV_ev ha x))
   have hsz : (a.eval x).cells.size = es := by rw [← hh.1, hcv.1]; simp
   have hfl := flatten_length hl
   have hle' : i * es + es ≤ us.length := by
    rw [← hall.1, hfl]
    have := Nat.mul_le_mul_right es (show i + 1 ≤ xs.length from hh.2)
    rw [Nat.add_mul] at this
    omega
   have hall1 : All2 (FR X.Φ X.w) (xs.set i c').flatten (us.take (i * es) ++ (a.eval x).cells.toList ++ us.drop (i * es + es)) := by
    rw [flatten_set hl i hh.2 c']
    exact ((hall.take _).append hcv).append (hall.drop _)
   obtain ⟨us', hf, hr, hl', hn⟩ := set_parts es ha rest _ xs' _ h (len_of_set hl i c' hh.1) hall1
   refine ⟨us', ?_, hr, hl', by simpa using hn⟩
   simp only [List.map_cons, Instr.fill]
   rw [if_neg (by simp [hsz]; exact hle')]
   rw [fill_step (i * es) es (a.eval x) us hsz hle']
   exact hf
  ·simp at h
theorem All2_flits {vs : List Value} (h : ∀ v ∈ vs, v.oneCell' = true) : All2 (FR X.Φ X.w) (vs.map FV.lit) vs := by
 refine ⟨by simp, ?_⟩
 intro i x y hx hy
 rw [List.getElem?_map] at hx
 obtain ⟨z, hz, rfl⟩ := map_some' hx
 obtain rfl := Option.some.inj (hz.symm.trans hy)
 exact FR.lit _ (h z (List.mgE hz))
theorem replicate_flat {α β : Type} {R : α → β → Prop} {x : List α} {y : List β} (h : All2 R x y) : ∀ n : Nat, All2 R (List.replicate n x).flatten (List.replicate n y).flatten
 | 0 => by simpa using All2.nil
 | n + 1 => by simpa [List.replicate_succ] using h.append (replicate_flat h n)
theorem g_bsl {t e : TypeId} {es len : Nat} {parts : Array (Nat × Operand)} {z : List Value} (ho : o.op = .buildSlice t len parts) (ht : P.underlying t = some (.slice e)) (hes : sz P e = some es) (hz : zer P e = some z) (hlim : len * es ≤ 16777216) (h0 : 0 < es) (hzl : z.length = es)
  (r : Rel w0 m ρ0 Φ0 H X) (ha : All2 (VV X) T a.tmps.toList) {v : EV} {ob : Option EO} (h : evQ (.bsl es z len (parts.toList.map fun (i, x) => (i, opd x))) T H id = some (v, ob)) : Good P o a w0 m ρ0 Φ0 H X id v ob := by
 simp only [evQ] at h
 replace h := map_some' h
 obtain ⟨xs, h1, h⟩ := h
 simp only [Prod.mk.injEq] at h
 obtain ⟨rfl, rfl⟩ := h
 obtain ⟨i, zv, hi, hzi, hzc, hone⟩ := zer_some hz
 have hl0 : ∀ x ∈ List.replicate len (z.map FV.lit), x.length = es := by intro x hx; rw [(List.mem_replicate.1 hx).2]; simpa using hzl
 obtain ⟨us', hf, hr, hl', hn⟩ := set_parts (X := X) es ha parts.toList _ xs _ h1 hl0 (replicate_flat (All2_flits hone) len)
 obtain ⟨r', l'⟩ := r.newFrozen (w' := X.w.alloc (.cells us'.toArray e)) rfl rfl rfl (by simp) (fun b hb => heap_old _ _ _ hb) X.w.heap.size (Nat.le_refl _) (by simp)
 have hxl : xs.length = len := by simpa using hn
 refine ⟨.slice (some ⟨X.w.heap.size, 0, none⟩) len len, _, ?_, r', l', by simp, ?_⟩
 ·have hcells : (if len * es = 0 then (#[] : Array Value) else zv.cells) = (if len * es = 0 then (#[] : Array Value) else z.toArray) := by rw [← hzc]
  simp only [execOp, ho, Instr.buildSlice, Sem.run_bind, run_underlying ht, Result.andThen_ok, run_sz hes]
  rw [if_neg (by omega)]
  have e1 : (parts.map fun (p : Nat × Operand) => (p.1, a.eval p.2)).toList = parts.toList.map fun p => (p.1, a.eval p.2) := by simp
  have e2 : ∀ b : Array Value, (b = if len * es = 0 then (#[] : Array Value) else zv.cells) → ((Array.range (len * es)).map (fun i => b[i % b.size]!)) = (List.replicate len z).flatten.toArray := by
   intro b hbb
   rw [hbb, hcells]
   split
   ·rename_i hz0
    have : len = 0 := by
     rcases Nat.mul_eq_zero.1 hz0 with h' | h'
     ·exact h'
     ·omega
    simp [this]
   ·have := zeros_flat z es hzl h0 len
    rw [← this]
  split
  ·rename_i hz0
   have e3 := e2 #[] (by simp [hz0])
   simp only [e1, pure_bind]
   rw [e3, hf]
   simp [newRow]
  ·rename_i hz0
   have e3 := e2 zv.cells (by simp [hz0])
   simp only [Sem.run_bind, run_zeroValue hi hzi, Sem.run_pure, Result.andThen_ok, e1]
   rw [e3, hf]
   simp [newRow]
 ·have hfl := flatten_length hl'
  have := FR.sl (Φ := fun b => X.Φ b ∨ b = X.w.heap.size) (w := X.w.alloc (.cells us'.toArray e)) es xs X.w.heap.size 0 len us' (.inr rfl) h0 hl' (by rw [← hr.1, hfl]) (by omega)
   (by
    intro j u hu
    rw [cell_of_row _ _ _ us'.toArray e (0, 0) (heap_new _ _)]
    simpa using hu)
   (by
    intro j x u hx hu
    exact l'.fr (hr.2 j x u hx hu))
  rw [hxl] at this
  exact this
theorem g_bsr {t e : TypeId} {es len : Nat} {parts : Array (Nat × Operand)} {z : List Value} (ho : o.op = .buildSlice t len parts) (ht : P.underlying t = some (.slice e)) (hes : sz P e = some es) (hz : zer P e = some z) (hlim : len * es ≤ 16777216) (h0 : 0 < es) (hzl : z.length = es)
  (r : Rel w0 m ρ0 Φ0 H X) (ha : All2 (VV X) T a.tmps.toList) (hid : ¬ X.U id) (hm : m ≤ id) {v : EV} {ob : Option EO} (h : evQ (.bsr e es z len (parts.toList.map fun (i, x) => (i, opd x))) T H id = some (v, ob)) : Good P o a w0 m ρ0 Φ0 H X id v ob := by
 simp only [evQ] at h
 replace h := map_some' h
 obtain ⟨xs, h1, h⟩ := h
 simp only [Prod.mk.injEq] at h
 obtain ⟨rfl, rfl⟩ := h
 obtain ⟨i, zv, hi, hzi, hzc, hone⟩ := zer_some hz
 have hl0 : ∀ x ∈ List.replicate len (z.map FV.lit), x.length = es := by intro x hx; rw [(List.mem_replicate.1 hx).2]; simpa using hzl
 obtain ⟨us', hf, hr, hl', hn⟩ := set_parts (X := X) es ha parts.toList _ xs _ h1 hl0 (replicate_flat (All2_flits hone) len)
 have hxl : xs.length = len := by simpa using hn
 have hfl := flatten_length hl'
 have husl : us'.length = len * es := by rw [← hr.1, hfl, hxl]
 have hl0' : Later X { U := fun o => X.U o ∨ o = id, ρ := upd X.ρ id (.slice (some ⟨X.w.heap.size, 0, none⟩) len len), Φ := X.Φ, w := X.w.alloc (.cells us'.toArray e) } :=
  ⟨fun _ h => .inl h, fun o hu => upd_ne _ _ _ (fun e => hid (e ▸ hu)), fun _ h => h, fun b hb' => heap_old _ _ _ (r.fro b hb')⟩
 obtain ⟨r', l'⟩ := r.new (w' := X.w.alloc (.cells us'.toArray e)) rfl rfl rfl (by simp) (fun b hb => heap_old _ _ _ hb) id hid hm (.row e es xs) (.slice (some ⟨X.w.heap.size, 0, none⟩) len len)
  (by intro b hb'; simp [ft, hb] at hb'; omega)
  ⟨h0, hl', us', ⟨by rw [husl, hxl], .inr ⟨X.w.heap.size, len, us'.toArray, by rw [hxl], Nat.zero_le _, heap_new _ _, by omega, by unfold maxLen; have := Nat.le_mul_of_pos_right len h0; omega, by simp [husl], by rw [hxl, ← husl]; simp⟩⟩, hr.mono fun _ _ => hl0'.fr⟩
 refine ⟨.slice (some ⟨X.w.heap.size, 0, none⟩) len len, _, ?_, r', l', by simp, ?_⟩
 ·have hcells : (if len * es = 0 then (#[] : Array Value) else zv.cells) = (if len * es = 0 then (#[] : Array Value) else z.toArray) := by rw [← hzc]
  simp only [execOp, ho, Instr.buildSlice, Sem.run_bind, run_underlying ht, Result.andThen_ok, run_sz hes]
  rw [if_neg (by omega)]
  have e1 : (parts.map fun (p : Nat × Operand) => (p.1, a.eval p.2)).toList = parts.toList.map fun p => (p.1, a.eval p.2) := by simp
  have e2 : ∀ b : Array Value, (b = if len * es = 0 then (#[] : Array Value) else zv.cells) → ((Array.range (len * es)).map (fun i => b[i % b.size]!)) = (List.replicate len z).flatten.toArray := by
   intro b hbb
   rw [hbb, hcells]
   split
   ·rename_i hz0
    have : len = 0 := by
     rcases Nat.mul_eq_zero.1 hz0 with h' | h'
     ·exact h'
     ·omega
    simp [this]
   ·have := zeros_flat z es hzl h0 len
    rw [← this]
  split
  ·rename_i hz0
   have e3 := e2 #[] (by simp [hz0])
   simp only [e1, pure_bind]
   rw [e3, hf]
   simp [newRow]
  ·rename_i hz0
   have e3 := e2 zv.cells (by simp [hz0])
   simp only [Sem.run_bind, run_zeroValue hi hzi, Sem.run_pure, Result.andThen_ok, e1]
   rw [e3, hf]
   simp [newRow]
 ·exact ⟨.inr rfl, some ⟨X.w.heap.size, 0, none⟩, len, len, by simp [upd_same], by omega, Nat.le_refl _, by rw [hxl]⟩
theorem isNum_lit {x : Operand} {iv : Value} {i : Int} (ha : All2 (VV X) T a.tmps.toList) (h1 : asLit (ev T (opd x)) = some iv) (h2 : isNum iv = some i) : ∃ k, a.eval x = .int k i := by
 obtain ⟨k, rfl⟩ := isNum_some h2
 exact ⟨k, VV_lit h1 (VV_ev ha x)⟩
theorem g_iad {t e : TypeId} {len es : Nat} {x i : Operand} (ho : o.op = .indexAddr t x i) (ht : P.underlying t = some (.array len e)) (hes : sz P e = some es) (r : Rel w0 m ρ0 Φ0 H X) (ha : All2 (VV X) T a.tmps.toList) {v : EV} {ob : Option EO} (h : evQ (.iad len es (opd x) (opd i)) T H id = some (v, ob)) : Good P o a w0 m ρ0 Φ0 H X id v ob := by
 simp only [evQ] at h
 replace h := bind_some' h
 obtain ⟨iv, h1, h⟩ := h
 replace h := bind_some' h
 obtain ⟨n, h2, h⟩ := h
 split at h
 ·rename_i hb
  obtain ⟨k, hi⟩ := isNum_lit ha h1 h2
  have run : ∀ b off, a.eval x = .pointer (some ⟨b, off, none⟩) → (execOp a.eval o).run P X.w = .ok (.value (.pointer (some ⟨b, off + n.toNat * es, none⟩))) X.w := by
   intro b off e1
   simp [execOp, ho, e1, hi, Instr.indexAt, asIntOf, run_underlying ht, Instr.sureAddr, hb, run_sz hes, Addr.add_lit]
  split at h
  ·rename_i o' k' h3
   simp only [Option.some.injEq, Prod.mk.injEq] at h
   obtain ⟨rfl, rfl⟩ := h
   obtain ⟨hu', b, hρ, e1⟩ := VV_c h3 (VV_ev ha x)
   exact .pure r (run b _ e1) ⟨hu', b, hρ, rfl⟩
  ·rename_i o' es' j k' h3
   simp only [Option.some.injEq, Prod.mk.injEq] at h
   obtain ⟨rfl, rfl⟩ := h
   obtain ⟨hu', b, n', cap, hρ, e1⟩ := VV_c h3 (VV_ev ha x)
   exact .pure r (run b _ e1) ⟨hu', b, n', cap, hρ, by rw [Nat.add_assoc]⟩
  ·rename_i cs k' h3
   simp only [Option.some.injEq, Prod.mk.injEq] at h
   obtain ⟨rfl, rfl⟩ := h
   obtain ⟨b, off, hb', e1, rest⟩ := VV_c h3 (VV_ev ha x)
   exact .pure r (run b _ e1) ⟨b, off, hb', by rw [Nat.add_assoc], rest⟩
  ·rename_i g k' h3
   simp only [Option.some.injEq, Prod.mk.injEq] at h
   obtain ⟨rfl, rfl⟩ := h
   have e1 : a.eval x = .pointer (some ⟨g, k', none⟩) := VV_lit (by rw [asC_some h3]; rfl) (VV_ev ha x)
   exact .pure r (run g k' e1) (VV_mklit rfl)
  ·simp at h
 ·simp at h
theorem toNat_lt {n : Int} {l : Nat} (h0 : 0 ≤ n) (h : n.toNat < l) : n < (l : Int) := by omega
theorem g_isl {t e : TypeId} {es : Nat} {x i : Operand} (ho : o.op = .indexAddr t x i) (ht : P.underlying t = some (.slice e)) (hes : sz P e = some es) (h0 : 0 < es) (r : Rel w0 m ρ0 Φ0 H X) (ha : All2 (VV X) T a.tmps.toList) {v : EV} {ob : Option EO} (h : evQ (.isl es (opd x) (opd i)) T H id = some (v, ob)) : Good P o a w0 m ρ0 Φ0 H X id v ob := by
 simp only [evQ] at h
 replace h := bind_some' h
 obtain ⟨iv, h1, h⟩ := h
 replace h := bind_some' h
 obtain ⟨n, h2, h⟩ := h
 split at h
 ·rename_i hb
  obtain ⟨k, hi⟩ := isNum_lit ha h1 h2
  have run : ∀ b off len cap, a.eval x = .slice (some ⟨b, off, none⟩) len cap → n < (len : Int) → (execOp a.eval o).run P X.w = .ok (.value (.pointer (some ⟨b, off + n.toNat * es, none⟩))) X.w := by
   intro b off len cap e1 hlt
   simp [execOp, ho, e1, hi, Instr.indexAt, asIntOf, run_underlying ht, hb, hlt, run_sz hes, Addr.add_lit]
  split at h
  ·rename_i es' xs h3
   split at h
   ·rename_i he
    subst he
    replace h := map_some' h
    obtain ⟨y, hy, h⟩ := h
    simp only [Prod.mk.injEq] at h
    obtain ⟨rfl, rfl⟩ := h
    have hv : FR X.Φ X.w (.sl es' xs) (a.eval x) := VV_c h3 (VV_ev ha x)
    generalize a.eval x = vx at hv run
    have hlt := lt_of_get hy
    cases hv with
    | emp => simp at hlt
    | sl es xs b off cap vs hΦ _ hl hn hcap hcell hfr =>
     refine .pure r (run b off _ cap rfl (toNat_lt hb hlt)) ⟨b, off + n.toNat * es', hΦ, by simp, (vs.drop (n.toNat * es')).take es', ?_, ?_, ?_⟩
     ·have hyl := hl y (List.mgE hy)
      have hm : (n.toNat + 1) * es' ≤ xs.length * es' := Nat.mul_le_mul_right _ (show n.toNat + 1 ≤ xs.length from hlt)
      rw [Nat.add_mul] at hm
      simp [hyl, hn]
      omega
     ·intro j u hu
      rw [List.getElem?_take] at hu
      split at hu
      ·rw [List.getElem?_drop] at hu
       rw [Nat.add_assoc]
       exact hcell _ u hu
      ·simp at hu
     ·intro j x' u hx' hu
      rw [List.getElem?_take] at hu
      split at hu
      ·rename_i hj
       rw [List.getElem?_drop] at hu
       exact hfr _ x' u (by rw [flatten_get hl hy hj]; exact hx') hu
      ·simp at hu
   ·simp at h
  ·rename_i o' len h3
   split at h
   ·rename_i ty es' xs hH
    split at h
    ·rename_i hh
     simp only [Option.some.injEq, Prod.mk.injEq] at h
     obtain ⟨rfl, rfl⟩ := h
     obtain ⟨hu', ad, n', cap, hρ, hle, hle2, e1⟩ := VV_c h3 (VV_ev ha x)
     have hor := (r.obj o' _ hH).2
     rw [hρ] at hor
     obtain ⟨_, _, flat, how, _⟩ := hor
     rcases how.2 with ⟨hn, _⟩ | ⟨g, cap', cur, he, _, _, _, _⟩
     ·simp only [Value.slice.injEq] at hn
      omega
     ·simp only [Value.slice.injEq] at he
      obtain ⟨rfl, rfl, rfl⟩ := he
      refine .pure r (run g 0 len cap e1 hh.2) ⟨hu', g, _, cap, hρ, ?_⟩
      simp
    ·simp at h
   ·simp at h
  ·rename_i o' k' len h3
   split at h
   ·rename_i hh
    simp only [Option.some.injEq, Prod.mk.injEq] at h
    obtain ⟨rfl, rfl⟩ := h
    obtain ⟨hu', b, hρ, cap, hcap, e1⟩ := VV_c h3 (VV_ev ha x)
    obtain ⟨rfl, hlt⟩ := hh
    refine .pure r (run b k' len cap e1 hlt) ⟨hu', b, hρ, by simp⟩
   ·simp at h
  ·simp at h
 ·simp at h
theorem g_s2a {t e : TypeId} {n es : Nat} {x : Operand} (ho : o.op = .sliceToArrayPointer t x) (ht : P.underlying t = some (.array n e)) (r : Rel w0 m ρ0 Φ0 H X) (ha : All2 (VV X) T a.tmps.toList) {v : EV} {ob : Option EO} (h : evQ (.s2a n es (opd x)) T H id = some (v, ob)) : Good P o a w0 m ρ0 Φ0 H X id v ob := by
 simp only [evQ] at h
 split at h
 ·rename_i o' len h3
  split at h
  ·rename_i ty es' xs hH
   split at h
   ·rename_i hh
    simp only [Option.some.injEq, Prod.mk.injEq] at h
    obtain ⟨rfl, rfl⟩ := h
    obtain ⟨hu', ad, n', cap, hρ, hle, hle2, e1⟩ := VV_c h3 (VV_ev ha x)
    have hor := (r.obj o' _ hH).2
    rw [hρ] at hor
    obtain ⟨_, _, flat, how, _⟩ := hor
    rcases how.2 with ⟨hn, _⟩ | ⟨g, cap', cur, he, _, _, _, _⟩
    ·simp only [Value.slice.injEq] at hn
     omega
    ·simp only [Value.slice.injEq] at he
     obtain ⟨rfl, rfl, rfl⟩ := he
     have hlt : ¬ len < n := by omega
     refine .pure r (val := .pointer (some ⟨g, 0, none⟩)) ?_ ⟨hu', g, _, cap, hρ, ?_⟩
     ·simp [execOp, ho, e1, Instr.arrayAt, run_underlying ht, hlt]
     ·simp
   ·simp at h
  ·simp at h
 ·simp at h
theorem run_bound {w : World} {k : IntKind} {n : Int} {y : Nat} {c : BoundsCode} (h0 : 0 ≤ n) (hle : n.toNat ≤ y) : (Instr.sliceBound (.int k n) y c).run P w = .ok n.toNat w := by
 have : n ≤ (y : Int) := by omega
 simp [Instr.sliceBound, asIntOf, h0, this]
theorem bnd_spec (ha : All2 (VV X) T a.tmps.toList) {d : Nat} {x : Option Operand} {n : Nat} (h : bnd T d (x.map opd) = some n) : (x = none ∧ n = d) ∨ ∃ y k i, x = some y ∧ a.eval y = .int k i ∧ 0 ≤ i ∧ n = i.toNat := by
 cases x with
 | none => simp [bnd] at h; exact .inl ⟨rfl, h.symm⟩
 | some y =>
  simp only [Option.map_some, bnd] at h
  replace h := bind_some' h
  obtain ⟨v, h1, h⟩ := h
  replace h := bind_some' h
  obtain ⟨i, h2, h⟩ := h
  split at h
  ·rename_i h0
   obtain ⟨k, e⟩ := isNum_lit ha h1 h2
   exact .inr ⟨y, k, i, rfl, e, h0, (Option.some.inj h).symm⟩
  ·simp at h
theorem run_bounds (ha : All2 (VV X) T a.tmps.toList) {w : World} {lo hi : Option Operand} {l h len cap : Nat} (sl : Bool) (h1 : bnd T 0 (lo.map opd) = some l) (h2 : bnd T len (hi.map opd) = some h) (hlh : l ≤ h) (hlen : h ≤ len) (hcap : len ≤ cap) :
  (Instr.sliceBounds sl len cap (lo.map a.eval) (hi.map a.eval) none).run P w = .ok (l, h, cap) w := by
 rcases bnd_spec ha h1 with ⟨rfl, rfl⟩ | ⟨y, k, i, rfl, e, hi0, rfl⟩
 ·rcases bnd_spec ha h2 with ⟨rfl, rfl⟩ | ⟨y', k', i', rfl, e', hi0', rfl⟩
  ·simp [Instr.sliceBounds]
  ·simp [Instr.sliceBounds, e', run_bound hi0' (show i'.toNat ≤ cap by omega)]
 ·rcases bnd_spec ha h2 with ⟨rfl, rfl⟩ | ⟨y', k', i', rfl, e', hi0', rfl⟩
  ·simp [Instr.sliceBounds, e, run_bound hi0 hlh]
  ·simp [Instr.sliceBounds, e, e', run_bound hi0' (show i'.toNat ≤ cap by omega), run_bound hi0 hlh]
end
end Go.EW
namespace Go.EW
open Go
theorem agg_int {P : Program} {e : TypeId} {k : IntKind} (he : P.underlying e = some (.int k)) : agg? P e = some false := by simp [agg?, he]
theorem run_eq_arr_aux {P : Program} (d : Nat) (e : TypeId) (k : IntKind) (xs ys : List Int) (he : P.underlying e = some (.int k)) (hl : ys.length = xs.length) (w : World) :
    ∀ (n i : Nat), i + n = xs.length → (forIn (m := Sem) (List.range' i n) ((none, ()) : Option Bool × Unit) fun i __s => do
            let __do_lift ← part e (List.map (Value.int k) xs).toArray i
            let __do_lift_1 ← part e (List.map (Value.int k) ys).toArray i
            let __do_lift ← Op.equalIn (d + 1) e __do_lift __do_lift_1
            if __do_lift = false then pure (ForInStep.done (some false, ())) else pure (ForInStep.yield (none, ()))).run P w = .ok (if xs.drop i = ys.drop i then none else some false, ()) w
  | 0, i, h => by
    have h1 : xs.drop i = [] := List.drop_of_length_le (by omega)
    have h2 : ys.drop i = [] := List.drop_of_length_le (by omega)
    simp [h1, h2]
  | n + 1, i, h => by
    have hx : i < xs.length := by omega
    have hy : i < ys.length := by omega
    have ih := run_eq_arr_aux d e k xs ys he hl w n (i + 1) (by omega)
    rw [List.range'_succ]
    have px : (part e (List.map (Value.int k) xs).toArray i).run P w = .ok (.int k xs[i]) w := by simp [part, agg_false (agg_int he), hx]
    have py : (part e (List.map (Value.int k) ys).toArray i).run P w = .ok (.int k ys[i]) w := by simp [part, agg_false (agg_int he), hy]
    have hxd : xs.drop i = xs[i] :: xs.drop (i + 1) := List.drop_eq_getElem_cons hx
    have hyd : ys.drop i = ys[i] :: ys.drop (i + 1) := List.drop_eq_getElem_cons hy
    rw [hxd, hyd]
    simp only [List.forIn_cons, Sem.run_bind, px, py, Result.andThen_ok, run_equalIn_int w d e k k _ _ he]
    by_cases heq : xs[i] = ys[i]
    · simp only [heq, beq_self_eq_true, Bool.true_eq_false, if_false, Sem.run_pure, Result.andThen_ok, List.cons.injEq, true_and]
      exact ih
    · have : (xs[i] == ys[i]) = false := by simpa using heq
      rw [if_neg (fun h => heq (List.cons.inj h).1)]
      simp [this]
theorem run_eq_arr {P : Program} (d : Nat) (t e : TypeId) (k : IntKind) (xs ys : List Int) (ht : P.underlying t = some (.array xs.length e)) (he : P.underlying e = some (.int k)) (hs : sz P e = some 1) (hl : ys.length = xs.length) (w : World) :
  (Op.equalIn (d + 2) t (.agg (xs.map (Value.int k)).toArray) (.agg (ys.map (Value.int k)).toArray)).run P w = .ok (decide (xs = ys)) w := by
 unfold Op.equalIn
 simp only [Sem.run_bind, run_underlying ht, Result.andThen_ok, run_sz hs]
 simp only [Std.Legacy.Range.forIn_eq_forIn_range', Nat.mul_one, Bool.not_eq_true']
 have := run_eq_arr_aux d e k xs ys he hl w xs.length 0 (by omega)
 simp only [Std.Legacy.Range.size, Nat.sub_zero, Nat.add_sub_cancel, Nat.div_one]
 rw [this]
 simp only [List.drop_zero, Result.andThen_ok]
 by_cases h : xs = ys
 ·simp [h]
 ·simp [h]
theorem agg_bool {P : Program} {e : TypeId} (he : P.underlying e = some .bool) : agg? P e = some false := by simp [agg?, he]
theorem run_eq_arz_aux {P : Program} (d : Nat) (e : TypeId) (xs ys : List Bool) (he : P.underlying e = some .bool) (hl : ys.length = xs.length) (w : World) :
    ∀ (n i : Nat), i + n = xs.length → (forIn (m := Sem) (List.range' i n) ((none, ()) : Option Bool × Unit) fun i __s => do
            let __do_lift ← part e (List.map (Value.bool) xs).toArray i
            let __do_lift_1 ← part e (List.map (Value.bool) ys).toArray i
            let __do_lift ← Op.equalIn (d + 1) e __do_lift __do_lift_1
            if __do_lift = false then pure (ForInStep.done (some false, ())) else pure (ForInStep.yield (none, ()))).run P w = .ok (if xs.drop i = ys.drop i then none else some false, ()) w
  | 0, i, h => by
    have h1 : xs.drop i = [] := List.drop_of_length_le (by omega)
    have h2 : ys.drop i = [] := List.drop_of_length_le (by omega)
    simp [h1, h2]
  | n + 1, i, h => by
    have hx : i < xs.length := by omega
    have hy : i < ys.length := by omega
    have ih := run_eq_arz_aux d e xs ys he hl w n (i + 1) (by omega)
    rw [List.range'_succ]
    have px : (part e (List.map (Value.bool) xs).toArray i).run P w = .ok (.bool xs[i]) w := by simp [part, agg_false (agg_bool he), hx]
    have py : (part e (List.map (Value.bool) ys).toArray i).run P w = .ok (.bool ys[i]) w := by simp [part, agg_false (agg_bool he), hy]
    have hxd : xs.drop i = xs[i] :: xs.drop (i + 1) := List.drop_eq_getElem_cons hx
    have hyd : ys.drop i = ys[i] :: ys.drop (i + 1) := List.drop_eq_getElem_cons hy
    rw [hxd, hyd]
    simp only [List.forIn_cons, Sem.run_bind, px, py, Result.andThen_ok, run_equalIn_bool' w d e _ _ he]
    by_cases heq : xs[i] = ys[i]
    · simp only [heq, beq_self_eq_true, Bool.true_eq_false, if_false, Sem.run_pure, Result.andThen_ok, List.cons.injEq, true_and]
      exact ih
    · have : (xs[i] == ys[i]) = false := by simpa using heq
      rw [if_neg (fun h => heq (List.cons.inj h).1)]
      simp [this]
theorem run_eq_arz {P : Program} (d : Nat) (t e : TypeId) (xs ys : List Bool) (ht : P.underlying t = some (.array xs.length e)) (he : P.underlying e = some .bool) (hs : sz P e = some 1) (hl : ys.length = xs.length) (w : World) :
  (Op.equalIn (d + 2) t (.agg (xs.map (Value.bool)).toArray) (.agg (ys.map (Value.bool)).toArray)).run P w = .ok (decide (xs = ys)) w := by
 unfold Op.equalIn
 simp only [Sem.run_bind, run_underlying ht, Result.andThen_ok, run_sz hs]
 simp only [Std.Legacy.Range.forIn_eq_forIn_range', Nat.mul_one, Bool.not_eq_true']
 have := run_eq_arz_aux d e xs ys he hl w xs.length 0 (by omega)
 simp only [Std.Legacy.Range.size, Nat.sub_zero, Nat.add_sub_cancel, Nat.div_one]
 rw [this]
 simp only [List.drop_zero, Result.andThen_ok]
 by_cases h : xs = ys
 ·simp [h]
 ·simp [h]
theorem run_eq_s2 {P : Program} (d : Nat) (t e : TypeId) (fs : Array Field) (f g : Field) (k1 k2 : IntKind) (a b : Int) (xs ys : List Int) (ht : P.underlying t = some (.struct fs)) (hfs : fs.toList = [f, g])
  (hf : P.underlying f.type = some (.int k1)) (hg : P.underlying g.type = some (.array xs.length e)) (he : P.underlying e = some (.int k2)) (h0 : f.offset = 0) (h1 : g.offset = 1) (hn1 : f.name ≠ "_") (hn2 : g.name ≠ "_")
  (hsg : sz P g.type = some xs.length) (hs : sz P e = some 1) (hst : P.stoodInHeld t = false) (hl : ys.length = xs.length) (w : World) :
  (Op.equalIn (d + 3) t (.agg (Value.int k1 a :: xs.map (Value.int k2)).toArray) (.agg (Value.int k1 b :: ys.map (Value.int k2)).toArray)).run P w = .ok (decide (a = b ∧ xs = ys)) w := by
 have hft : P.fieldsOf t = fs := by simp [Program.fieldsOf, ht]
 rw [run_equalIn_struct w (d + 2) t _ _ (by rw [hft]; exact ht) hst, hft, hfs]
 have hag : agg? P g.type = some true := by simp [agg?, hg]
 have p1 : ∀ (c : Int) (zs : List Int), (part f.type (Value.int k1 c :: zs.map (Value.int k2)).toArray f.offset).run P w = .ok (.int k1 c) w := by
  intro c zs
  simp [part, agg_false (agg_int hf), h0]
 have p2 : ∀ (c : Int) (zs : List Int), zs.length = xs.length → (part g.type (Value.int k1 c :: zs.map (Value.int k2)).toArray g.offset).run P w = .ok (.agg (zs.map (Value.int k2)).toArray) w := by
  intro c zs hz
  simp only [part, Sem.run_bind, agg_true hag, Result.andThen_ok, if_true, run_sz hsg, h1, Sem.run_pure]
  congr 2
  apply Array.ext'
  simp [← hz, List.tkL]
 have q1 := run_equalIn_int (P := P) w (d + 1) f.type k1 k1 a b hf
 have q2 := run_eq_arr (P := P) d g.type e k2 xs ys hg he hs hl w
 have p2x := p2 a xs rfl
 have p2y := p2 b ys hl
 simp only [Op.eqFields, if_pos hn1, if_pos hn2, Sem.run_bind, p1, Result.andThen_ok, q1]
 by_cases hab : a = b
 ·subst hab
  simp only [beq_self_eq_true, Bool.not_true, Bool.false_eq_true, if_false, Sem.run_bind, p2x, p2y, Result.andThen_ok, q2, true_and]
  by_cases hxy : xs = ys
  ·subst hxy
   simp
  ·simp [hxy]
 ·simp [hab]
section
variable {P : Program} {o : Oper} {w0 : World} {m : Nat} {ρ0 : Base} {Φ0 : Nat → Prop} {H : Nat → Option EO} {X : Cx} {T : List EV} {a : Act} {id : Nat}
theorem lenOf_le {c : EC} {v : Value} (hv : VR X c v) {len : Nat} (h : lenOf c = some len) :
  ∃ ad cap, v = .slice ad len cap ∧ len ≤ cap := by
 unfold lenOf at h
 split at h
 ·obtain rfl := Option.some.inj h
  have hv' : FR X.Φ X.w _ v := hv
  cases hv' with
  | sl es xs b off cap vs _ _ _ _ hcap _ _ => exact ⟨_, cap, rfl, hcap⟩
  | emp es ad cap => exact ⟨ad, cap, rfl, Nat.zero_le _⟩
 ·obtain rfl := Option.some.inj h; cases hv; exact ⟨none, 0, rfl, Nat.le_refl _⟩
 ·obtain rfl := Option.some.inj h
  obtain ⟨_, ad, n, cap, _, h1, h2, rfl⟩ := hv
  exact ⟨ad, cap, rfl, by omega⟩
 ·obtain rfl := Option.some.inj h
  obtain ⟨_, b, _, cap, h1, rfl⟩ := hv
  exact ⟨_, cap, rfl, h1⟩
 ·obtain rfl := Option.some.inj h
  obtain ⟨_, a, n, c, cap, _, h1, rfl⟩ := hv
  exact ⟨_, cap, rfl, h1⟩
 ·simp at h
theorem run_slice {w : World} {t e : TypeId} {es : Nat} {x : Operand} {lo hi : Option Operand} (ho : o.op = .slice t x lo hi none) (ht : P.underlying t = some (.slice e)) (hes : sz P e = some es) (ha : All2 (VV X) T a.tmps.toList)
  {l h len cap : Nat} {ad : Option Addr} (h1 : bnd T 0 (lo.map opd) = some l) (h2 : bnd T len (hi.map opd) = some h) (hlh : l ≤ h) (hlen : h ≤ len) (hcap : len ≤ cap) (hx : a.eval x = .slice ad len cap) :
  (execOp a.eval o).run P w = .ok (.value (.slice (if cap = l then ad else ad.map (·.add (l * es))) (h - l) (cap - l))) w := by
 simp [execOp, ho, Instr.sliceAt, Instr.slice, run_underlying ht, hx, run_bounds ha true h1 h2 hlh hlen hcap, run_sz hes]
theorem g_ssl {t e : TypeId} {es : Nat} {x : Operand} {lo hi : Option Operand} (ho : o.op = .slice t x lo hi none) (ht : P.underlying t = some (.slice e)) (hes : sz P e = some es) (r : Rel w0 m ρ0 Φ0 H X) (ha : All2 (VV X) T a.tmps.toList) {v : EV} {ob : Option EO} (h : evQ (.ssl es (opd x) (lo.map opd) (hi.map opd)) T H id = some (v, ob)) : Good P o a w0 m ρ0 Φ0 H X id v ob := by
 simp only [evQ] at h
 replace h := bind_some' h; obtain ⟨c, h1, h⟩ := h
 replace h := bind_some' h; obtain ⟨len, h2, h⟩ := h
 replace h := bind_some' h; obtain ⟨l, h3, h⟩ := h
 replace h := bind_some' h; obtain ⟨hh, h4, h⟩ := h
 have hv := VV_c h1 (VV_ev ha x)
 obtain ⟨ad, cap, e1, hcap⟩ := lenOf_le hv h2
 split at h
 ·rename_i hb
  obtain ⟨hlh, hhl⟩ := hb
  have run := run_slice (P := P) (w := X.w) (X := X) ho ht hes ha h3 h4 hlh hhl hcap e1
  split at h
  ·rename_i es' xs
   split at h
   ·rename_i he
    subst he
    simp only [Option.some.injEq, Prod.mk.injEq] at h
    obtain ⟨rfl, rfl⟩ := h
    simp only [lenOf, Option.some.injEq] at h2
    have hv' : FR X.Φ X.w (.sl es' xs) (a.eval x) := hv
    rw [e1] at hv'
    refine .pure r run ?_
    generalize hxs : ((xs.take hh).drop l) = ys
    have hys : ys.length = hh - l := by rw [← hxs]; simp; omega
    show FR X.Φ X.w (.sl es' ys) _
    by_cases hz : hh - l = 0
    ·have : ys = [] := List.eq_nil_of_length_eq_zero (by omega)
     rw [this, hz]
     exact .emp es' _ _
    ·rw [if_neg (by omega)]
     cases hv' with
     | emp => simp at hcap h2; omega
     | sl _ _ b off cap vs hΦ h0 hl hn _ hcell hfr =>
      have hlt : ∀ x ∈ xs.take hh, x.length = es' := fun x hx => hl x (List.mem_of_mem_take hx)
      have hly : ∀ x ∈ ys, x.length = es' := fun x hx => hlt x (List.mem_of_mem_drop (hxs ▸ hx))
      have key := FR.sl (Φ := X.Φ) (w := X.w) es' ys b (off + l * es') (cap - l) ((vs.take (hh * es')).drop (l * es')) hΦ h0 hly ?_ (by omega) ?_ ?_
      ·rw [hys] at key
       simpa [Addr.add_lit] using key
      ·rw [hys]
       have : hh * es' ≤ vs.length := by rw [hn]; exact Nat.mul_le_mul_right _ (by omega)
       simp only [List.length_drop, List.length_take, Nat.sub_mul]
       omega
      ·intro j u hu
       rw [List.getElem?_drop, List.getElem?_take] at hu
       split at hu
       ·rw [Nat.add_assoc]; exact hcell _ u hu
       ·simp at hu
      ·intro j x' u hx' hu
       rw [← hxs, flatten_drop hlt, flatten_take hl, List.getElem?_drop, List.getElem?_take] at hx'
       rw [List.getElem?_drop, List.getElem?_take] at hu
       split at hu
       ·rename_i hj; rw [if_pos hj] at hx'; exact hfr _ x' u hx' hu
       ·simp at hu
   ·simp at h
  ·simp only [Option.some.injEq, Prod.mk.injEq] at h
   obtain ⟨rfl, rfl⟩ := h
   simp only [lenOf, Option.some.injEq] at h2
   have hv' : FR X.Φ X.w (.lit (.slice none 0 0)) (a.eval x) := hv
   rw [e1] at hv'
   cases hv'
   obtain rfl : l = 0 := by omega
   obtain rfl : hh = 0 := by omega
   refine .pure r run ?_
   exact FR.lit _ rfl
  ·split at h
   ·rename_i hl0
    subst hl0
    simp only [Option.some.injEq, Prod.mk.injEq] at h
    obtain ⟨rfl, rfl⟩ := h
    simp only [lenOf, Option.some.injEq] at h2
    obtain ⟨hu, ad', n, cap', hρ, q1, q2, q3⟩ := hv
    rw [e1] at q3
    simp only [Value.slice.injEq] at q3
    obtain ⟨rfl, rfl, rfl⟩ := q3
    refine .pure r run ⟨hu, ad, n, cap, hρ, by omega, by omega, ?_⟩
    simp only [Nat.sub_zero, Nat.zero_mul]
    split
    ·rfl
    ·cases ad <;> simp [Addr.add_zero']
   ·split at h
    ·rename_i hes1
     obtain ⟨rfl, hl⟩ := hes1
     simp only [Option.some.injEq, Prod.mk.injEq] at h
     obtain ⟨rfl, rfl⟩ := h
     simp only [lenOf, Option.some.injEq] at h2
     obtain ⟨hu, ad', n, cap', hρ, q1, q2, q3⟩ := hv
     rw [e1] at q3
     simp only [Value.slice.injEq] at q3
     obtain ⟨rfl, rfl, rfl⟩ := q3
     refine .pure r run ⟨hu, ad, n, cap, cap - l, hρ, by omega, ?_⟩
     rw [if_neg (by omega)]
     simp
    ·simp at h
  ·split at h
   ·rename_i hes1
    obtain ⟨rfl, hl⟩ := hes1
    simp only [Option.some.injEq, Prod.mk.injEq] at h
    obtain ⟨rfl, rfl⟩ := h
    obtain ⟨hu, b, hρ, cap', q1, q3⟩ := hv
    rw [e1] at q3
    simp only [Value.slice.injEq] at q3
    obtain ⟨rfl, _, rfl⟩ := q3
    refine .pure r run ⟨hu, b, hρ, cap - l, by omega, ?_⟩
    rcases hl with hl | rfl
    ·rw [if_neg (by omega)]
     simp [Addr.add_lit]
    ·simp [Addr.add_lit]
   ·simp at h
  ·simp at h
 ·simp at h
theorem run_slice3 {w : World} {t e : TypeId} {es : Nat} {x hi mx : Operand} (ho : o.op = .slice t x none (some hi) (some mx)) (ht : P.underlying t = some (.slice e)) (hes : sz P e = some es) (ha : All2 (VV X) T a.tmps.toList)
  {len cap : Nat} {ad : Option Addr} (h1 : bnd T 0 (some (opd hi)) = some len) (h2 : bnd T 0 (some (opd mx)) = some len) (hcap : len ≤ cap) (hx : a.eval x = .slice ad len cap) :
  (execOp a.eval o).run P w = .ok (.value (.slice ad len len)) w := by
 have e1 : ∃ (k : IntKind) (i : Int), a.eval hi = .int k i ∧ 0 ≤ i ∧ i.toNat = len := by
  rcases bnd_spec (d := 0) (x := some hi) ha h1 with ⟨h, _⟩ | ⟨y, k, i, h, e, h0, h3⟩
  ·simp at h
  ·obtain rfl := Option.some.inj h; exact ⟨k, i, e, h0, h3.symm⟩
 have e2 : ∃ (k : IntKind) (i : Int), a.eval mx = .int k i ∧ 0 ≤ i ∧ i.toNat = len := by
  rcases bnd_spec (d := 0) (x := some mx) ha h2 with ⟨h, _⟩ | ⟨y, k, i, h, e, h0, h3⟩
  ·simp at h
  ·obtain rfl := Option.some.inj h; exact ⟨k, i, e, h0, h3.symm⟩
 obtain ⟨k1, i1, e1, h10, h11⟩ := e1
 obtain ⟨k2, i2, e2, h20, h21⟩ := e2
 simp [execOp, ho, Instr.sliceAt, Instr.slice, run_underlying ht, hx, Instr.sliceBounds, e1, e2, run_bound h20 (show i2.toNat ≤ cap by omega), run_bound h10 (show i1.toNat ≤ len by omega), h11, h21, run_sz hes]
 cases ad <;> simp [Addr.add_zero']
theorem g_sl3 {t e : TypeId} {es : Nat} {x hi mx : Operand} (ho : o.op = .slice t x none (some hi) (some mx)) (ht : P.underlying t = some (.slice e)) (hes : sz P e = some es) (r : Rel w0 m ρ0 Φ0 H X) (ha : All2 (VV X) T a.tmps.toList) {v : EV} {ob : Option EO} (h : evQ (.sl3 es (opd x) (opd hi) (opd mx)) T H id = some (v, ob)) : Good P o a w0 m ρ0 Φ0 H X id v ob := by
 simp only [evQ] at h
 replace h := bind_some' h; obtain ⟨c, h1, h⟩ := h
 replace h := bind_some' h; obtain ⟨hh, h3, h⟩ := h
 replace h := bind_some' h; obtain ⟨mm, h4, h⟩ := h
 have hv := VV_c h1 (VV_ev ha x)
 split at h
 ·rename_i es' xs
  split at h
  ·rename_i hb
   obtain ⟨rfl, rfl, rfl⟩ := hb
   simp only [Option.some.injEq, Prod.mk.injEq] at h
   obtain ⟨rfl, rfl⟩ := h
   obtain ⟨ad, cap, e1, hcap⟩ := lenOf_le hv (len := xs.length) rfl
   have run := run_slice3 (P := P) (w := X.w) (X := X) ho ht hes ha h3 h4 hcap e1
   refine .pure r run ?_
   have hv' : FR X.Φ X.w (.sl es' xs) (a.eval x) := hv
   rw [e1] at hv'
   refine FR.slc es' xs ad ?_
   generalize hn : xs.length = n at hv' ⊢
   cases hv' with
   | emp => exact .emp _ _ _
   | sl _ _ b off _ vs hΦ h0 hl hv hc hcell hfr => exact FR.sl es' xs b off xs.length vs hΦ h0 hl hv (Nat.le_refl _) hcell hfr
  ·simp at h
 ·simp at h
theorem g_sst {t : TypeId} {x : Operand} {lo hi : Option Operand} (ho : o.op = .slice t x lo hi none) (ht : P.underlying t = some .string) (r : Rel w0 m ρ0 Φ0 H X) (ha : All2 (VV X) T a.tmps.toList) {v : EV} {ob : Option EO} (h : evQ (.sst (opd x) (lo.map opd) (hi.map opd)) T H id = some (v, ob)) : Good P o a w0 m ρ0 Φ0 H X id v ob := by
 simp only [evQ] at h
 split at h
 ·rename_i s hs
  replace h := bind_some' h; obtain ⟨l, h3, h⟩ := h
  replace h := bind_some' h; obtain ⟨hh, h4, h⟩ := h
  split at h
  ·rename_i hb
   simp only [Option.some.injEq, Prod.mk.injEq] at h
   obtain ⟨rfl, rfl⟩ := h
   refine .pure r (val := .string (s.extract l hh)) ?_ (VV_mklit rfl)
   simp [execOp, ho, Instr.sliceAt, Instr.slice, run_underlying ht, VV_lit hs (VV_ev ha x), run_bounds (X := X) ha false h3 h4 hb.1 hb.2 (Nat.le_refl _)]
  ·simp at h
 ·simp at h
theorem g_sar {t e : TypeId} {len : Nat} {x : Operand} {lo hi : Option Operand} (ho : o.op = .slice t x lo hi none) (ht : P.underlying t = some (.array len e)) (hes : sz P e = some 1) (r : Rel w0 m ρ0 Φ0 H X) (ha : All2 (VV X) T a.tmps.toList) {v : EV} {ob : Option EO} (h : evQ (.sar len (opd x) (lo.map opd) (hi.map opd)) T H id = some (v, ob)) : Good P o a w0 m ρ0 Φ0 H X id v ob := by
 simp only [evQ] at h
 split at h
 ·rename_i o' k h1
  replace h := bind_some' h; obtain ⟨l, h3, h⟩ := h
  replace h := bind_some' h; obtain ⟨hh, h4, h⟩ := h
  split at h
  ·rename_i hb
   simp only [Option.some.injEq, Prod.mk.injEq] at h
   obtain ⟨rfl, rfl⟩ := h
   obtain ⟨hu, b, hρ, e1⟩ := VV_c h1 (VV_ev ha x)
   refine .pure r (val := .slice (some ⟨b, k + l, none⟩) (hh - l) (len - l)) ?_ ⟨hu, b, hρ, len - l, by omega, rfl⟩
   have : ¬ len = l := by omega
   simp [execOp, ho, Instr.sliceAt, run_underlying ht, e1, Instr.sureAddr, run_bounds (X := X) ha false h3 h4 hb.1 hb.2.1 (Nat.le_refl _), run_sz hes, this, Addr.add_lit]
  ·simp at h
 ·simp at h
theorem g_ext {x : Operand} {i : Nat} (ho : o.op = .extract x i) (r : Rel w0 m ρ0 Φ0 H X) (ha : All2 (VV X) T a.tmps.toList) {v : EV} {ob : Option EO} (h : evQ (.ext i (opd x)) T H id = some (v, ob)) : Good P o a w0 m ρ0 Φ0 H X id v ob := by
 simp only [evQ] at h
 split at h
 ·rename_i ts h1
  replace h := map_some' h; obtain ⟨t, h2, h⟩ := h
  simp only [Prod.mk.injEq] at h
  obtain ⟨rfl, rfl⟩ := h
  have hv := VV_ev ha x
  rw [h1] at hv
  obtain ⟨vs, e1, hall⟩ := hv
  obtain ⟨u, hu, hr⟩ := hall.get h2
  refine .pure r (val := u) ?_ hr
  simp [execOp, ho, e1, Instr.extract, hu]
 ·simp at h
theorem caps_spec (ha : All2 (VV X) T a.tmps.toList) : ∀ (xs : List Operand) (cs : List (Nat × Nat)), capsOf T (xs.map opd) = some cs →
  All2 (fun (p : Nat × Nat) u => X.U p.1 ∧ ∃ b, X.ρ p.1 = .pointer (some ⟨b, 0, none⟩) ∧ u = .pointer (some ⟨b, p.2, none⟩)) cs (xs.map a.eval)
 | [], cs, h => by simp [capsOf] at h; subst h; exact All2.nil
 | x :: r, cs, h => by
  simp only [List.map_cons, capsOf] at h
  split at h
  ·rename_i o' k h1
   replace h := map_some' h; obtain ⟨cs', h2, rfl⟩ := h
   exact All2.cons (VV_c h1 (VV_ev ha x)) (caps_spec ha r cs' h2)
  ·simp at h
theorem g_mkf {f : FuncId} {first caps : Array Operand} (ho : o.op = .makeFunc (.func f) first caps) (hf : first.size = 0) (r : Rel w0 m ρ0 Φ0 H X) (ha : All2 (VV X) T a.tmps.toList) {v : EV} {ob : Option EO} (h : evQ (.mkf f (caps.toList.map opd)) T H id = some (v, ob)) : Good P o a w0 m ρ0 Φ0 H X id v ob := by
 simp only [evQ] at h
 replace h := map_some' h; obtain ⟨cs, h1, h⟩ := h
 simp only [Prod.mk.injEq] at h
 obtain ⟨rfl, rfl⟩ := h
 have := caps_spec ha caps.toList cs h1
 refine .pure r (val := .func (.func f) #[] (caps.toList.map a.eval).toArray) ?_ ⟨_, rfl, this⟩
 have e2 : Array.map a.eval caps = (List.map a.eval caps.toList).toArray := by cases caps; simp
 simp [execOp, ho, Instr.makeFunc, arr_eq_nil hf, e2]
theorem g_mki {t : TypeId} {x : Operand} {d : TypeDesc} (ho : o.op = .makeInterface t x) (ht : P.underlying t = some d) (hd : ∀ ms, d ≠ .interface ms) (r : Rel w0 m ρ0 Φ0 H X) (ha : All2 (VV X) T a.tmps.toList) {v : EV} {ob : Option EO} (h : evQ (.mki t (opd x)) T H id = some (v, ob)) : Good P o a w0 m ρ0 Φ0 H X id v ob := by
 simp only [evQ] at h
 replace h := map_some' h; obtain ⟨u, h1, h⟩ := h
 simp only [Prod.mk.injEq] at h
 obtain ⟨rfl, rfl⟩ := h
 refine .pure r (val := .iface t u) ?_ (VV_mklit rfl)
 have e1 := VV_lit h1 (VV_ev ha x)
 simp only [execOp, ho, Instr.makeInterface, Sem.run_bind, run_underlying ht, Result.andThen_ok, e1]
 cases d <;> first | exact absurd rfl (hd _) | simp
theorem arr_one {α : Type} {xs : Array α} {x : α} (h : xs.toList = [x]) : xs = #[x] := by cases xs; simp_all
theorem g_len {x : Operand} {t e : TypeId} {ts : Array TypeId} {args : Array Operand} (ho : o.op = .call { callee := .builtin .len, args := args, argTypes := ts }) (hx : args.toList = [x]) (hts : ts.toList = [t]) (ht : P.underlying t = some (.slice e)) (r : Rel w0 m ρ0 Φ0 H X) (ha : All2 (VV X) T a.tmps.toList) {v : EV} {ob : Option EO} (h : evQ (.len (opd x)) T H id = some (v, ob)) : Good P o a w0 m ρ0 Φ0 H X id v ob := by
 obtain rfl := arr_one hx
 obtain rfl := arr_one hts
 simp only [evQ] at h
 replace h := bind_some' h; obtain ⟨c, h1, h⟩ := h
 replace h := map_some' h; obtain ⟨n, h2, h⟩ := h
 simp only [Prod.mk.injEq] at h
 obtain ⟨rfl, rfl⟩ := h
 have hv := VV_c h1 (VV_ev ha x)
 refine .pure r (val := .int .i64 n) ?_ (VV_mklit rfl)
 obtain ⟨ad, cap, e1, _⟩ := lenOf_le hv h2
 simp [execOp, ho, resolve, invoke, builtin, e1, Builtin.len_, run_underlying ht, goInt]
theorem g_lens {x : Operand} {t : TypeId} {ts : Array TypeId} {args : Array Operand} (ho : o.op = .call { callee := .builtin .len, args := args, argTypes := ts }) (hx : args.toList = [x]) (hts : ts.toList = [t]) (ht : P.underlying t = some .string) (r : Rel w0 m ρ0 Φ0 H X) (ha : All2 (VV X) T a.tmps.toList) {v : EV} {ob : Option EO} (h : evQ (.lens (opd x)) T H id = some (v, ob)) : Good P o a w0 m ρ0 Φ0 H X id v ob := by
 obtain rfl := arr_one hx
 obtain rfl := arr_one hts
 simp only [evQ] at h
 split at h
 ·rename_i s hs
  simp only [Option.some.injEq, Prod.mk.injEq] at h
  obtain ⟨rfl, rfl⟩ := h
  refine .pure r (val := .int .i64 (s.size : Int)) ?_ (VV_mklit rfl)
  simp [execOp, ho, resolve, invoke, builtin, VV_lit hs (VV_ev ha x), Builtin.len_, run_underlying ht, goInt]
 ·simp at h
theorem g_mks {t e : TypeId} {i : TypeInfo} {z : List Value} {l c : Operand} (ho : o.op = .makeSlice t l c) (ht : P.underlying t = some (.slice e)) (hi : P.info? e = some i) (hz : zer P e = some z) (hzl : z.length = i.size)
  (r : Rel w0 m ρ0 Φ0 H X) (ha : All2 (VV X) T a.tmps.toList) (hid : ¬ X.U id) (hm : m ≤ id) {v : EV} {ob : Option EO} (h : evQ (.mks e i.size i.bytes z (opd l) (opd c)) T H id = some (v, ob)) : Good P o a w0 m ρ0 Φ0 H X id v ob := by
 simp only [evQ] at h
 replace h := bind_some' h; obtain ⟨lv, h1, h⟩ := h
 replace h := bind_some' h; obtain ⟨ln, h2, h⟩ := h
 replace h := bind_some' h; obtain ⟨cv, h3, h⟩ := h
 replace h := bind_some' h; obtain ⟨cn, h4, h⟩ := h
 split at h
 case isFalse => simp at h
 rename_i hb
 obtain ⟨hl0, hlc, hby, hmx, hs0⟩ := hb
 simp only [Option.some.injEq, Prod.mk.injEq] at h
 obtain ⟨rfl, rfl⟩ := h
 obtain ⟨k1, e1⟩ := isNum_lit ha h1 h2
 obtain ⟨k2, e2⟩ := isNum_lit ha h3 h4
 obtain ⟨i', zv, hi', hzi, hzc, hone⟩ := zer_some hz
 obtain rfl : i' = i := Option.some.inj (hi'.symm.trans hi)
 have w1 : IntKind.i64.wrap ln = ln := IntWalk.i64_in _ (by omega)
 have w2 : IntKind.i64.wrap cn = cn := IntWalk.i64_in _ (by omega)
 have hcell : ∀ n : Nat, ((Array.range (n * i'.size)).map (fun j => zv.cells[j % zv.cells.size]!)).toList = (List.replicate n z).flatten := by
  intro n
  have := zeros_flat z i'.size hzl hs0 n
  rw [← hzc] at this ⊢
  simpa using this
 have big : ¬ ((i'.bytes : Int) * cn > 2 ^ 48) := by
  have : (i'.bytes : Int) * cn = cn * i'.bytes := Int.mul_comm _ _
  rw [this]; omega
 have run : (execOp a.eval o).run P X.w = .ok (.value (.slice (some ⟨X.w.heap.size, 0, none⟩) ln.toNat cn.toNat)) (X.w.alloc (.cells (List.replicate cn.toNat z).flatten.toArray e)) := by
  have hc1 : (decide (cn < 0) || decide ((i'.bytes : Int) * cn > 2 ^ 48)) = false := by
   simp only [Bool.or_eq_false_iff, decide_eq_false_iff_not]
   exact ⟨by omega, big⟩
  simp only [execOp, ho, Instr.makeSlice, Sem.run_bind, run_underlying ht, Result.andThen_ok, e1, e2, asInt, asIntOf, Sem.run_pure, typeInfo, run_program, hi, w1, w2]
  rw [if_neg (by rw [hc1]; simp; omega)]
  simp only [Sem.run_bind, run_askRoom, Result.andThen_ok, run_sz (P := P) (t := e) (n := i'.size) (by simp [sz, hi])]
  split
  ·rename_i hz0
   have hc0 : cn.toNat = 0 := by
    rcases Nat.mul_eq_zero.1 hz0 with h' | h'
    ·exact h'
    ·omega
   simp [hc0, newRow, show (Array.range 0) = #[] from rfl]
  ·simp only [Sem.run_bind, run_zeroValue hi hzi, Sem.run_pure, Result.andThen_ok]
   have := hcell cn.toNat
   have e3 : ((Array.range (cn.toNat * i'.size)).map (fun j => zv.cells[j % zv.cells.size]!)) = (List.replicate cn.toNat z).flatten.toArray := by
    rw [← this]
   rw [e3]
   simp [newRow]
 have hlenz : ∀ n : Nat, (List.replicate n z).flatten.length = n * i'.size := by
  intro n
  rw [flatten_length (es := i'.size) (by intro x hx; rw [(List.mem_replicate.1 hx).2]; exact hzl)]
  simp
 have hle : ln.toNat ≤ cn.toNat := by omega
 obtain ⟨r', l'⟩ := r.new (w' := X.w.alloc (.cells (List.replicate cn.toNat z).flatten.toArray e)) rfl rfl rfl (by simp) (fun b hb => heap_old _ _ _ hb) id hid hm (.row e i'.size (List.replicate ln.toNat (z.map FV.lit))) (.slice (some ⟨X.w.heap.size, 0, none⟩) ln.toNat cn.toNat)
  (by intro b hb'; simp [ft, hb] at hb'; omega)
  ⟨hs0, by intro x hx; rw [(List.mem_replicate.1 hx).2]; simpa using hzl, (List.replicate ln.toNat z).flatten, by
   refine ⟨by simp [hlenz], .inr ⟨X.w.heap.size, cn.toNat, (List.replicate cn.toNat z).flatten.toArray, by simp, Nat.zero_le _, heap_new _ _, by simpa using hle, by unfold maxLen; omega, by simp [hlenz], ?_⟩⟩
   simp only [List.length_replicate]
   have : cn.toNat = ln.toNat + (cn.toNat - ln.toNat) := by omega
   rw [this, ← List.replicate_append_replicate, List.flatten_append]
   rw [List.take_left' (hlenz _)], by
   exact (replicate_flat (All2_flits (X := { U := fun o => X.U o ∨ o = id, ρ := upd X.ρ id (.slice (some ⟨X.w.heap.size, 0, none⟩) ln.toNat cn.toNat), Φ := X.Φ, w := X.w.alloc (.cells (List.replicate cn.toNat z).flatten.toArray e) }) hone) _)⟩
 refine ⟨_, _, run, r', l', ?_, ?_⟩
 ·intro i; simp
 ·exact ⟨.inr rfl, some ⟨X.w.heap.size, 0, none⟩, ln.toNat, cn.toNat, by simp [upd_same], Nat.le_refl _, hle, rfl⟩
theorem g_s2b {s d e : TypeId} {x : Operand} (ho : o.op = .convert s d x) (hs : P.underlying s = some .string) (hd : P.underlying d = some (.slice e)) (he : P.underlying e = some (.int .u8))
  (r : Rel w0 m ρ0 Φ0 H X) (ha : All2 (VV X) T a.tmps.toList) {v : EV} {ob : Option EO} (h : evQ (.s2b (opd x)) T H id = some (v, ob)) : Good P o a w0 m ρ0 Φ0 H X id v ob := by
 simp only [evQ] at h
 split at h
 case h_2 => simp at h
 rename_i s' hx
 simp only [Option.some.injEq, Prod.mk.injEq] at h
 obtain ⟨rfl, rfl⟩ := h
 have hold : ∀ b, b < X.w.heap.size → (Lib.bytesWorld X.w e s').heap[b]? = X.w.heap[b]? := fun b hb => Lib.bytesWorld_at_old X.w e s' b hb
 obtain ⟨r', l'⟩ := r.newFrozen (w' := Lib.bytesWorld X.w e s') rfl rfl rfl (by rw [Lib.bytesWorld_size]; omega) hold X.w.heap.size (Nat.le_refl _) (by rw [Lib.bytesWorld_size]; omega)
 refine ⟨.slice (some ⟨X.w.heap.size, 0, none⟩) s'.size (grownCap X.w s'.size 0 e), _, ?_, r', l', by simp, ?_⟩
 ·simp only [execOp, ho, VV_lit hx (VV_ev ha x), Sem.run_bind, Lib.run_convert_string_bytes X.w s d e s' hs hd he, Result.andThen_ok, Sem.run_pure]
 ·have hsz : (strB s').length = s'.size := by simp [strB]
  have hfl : (strB s').flatten = s'.data.toList.map fun b => FV.lit (.int .u8 b.toNat) := by
   unfold strB
   generalize s'.data.toList = l
   induction l with
   | nil => rfl
   | cons b t ih => simp only [List.map_cons, List.flatten_cons, ih]; rfl
  have := FR.sl (Φ := fun b => X.Φ b ∨ b = X.w.heap.size) (w := Lib.bytesWorld X.w e s') 1 (strB s') X.w.heap.size 0 (grownCap X.w s'.size 0 e) (s'.data.toList.map fun b => Value.int .u8 b.toNat) (.inr rfl) (by omega)
   (by intro x hx'; simp only [strB, List.mem_map] at hx'; obtain ⟨b, _, rfl⟩ := hx'; rfl) (by rw [hsz]; simp) (by rw [hsz]; exact grownCap_ge _ _ _ _)
   (by
    intro j u hu
    rw [List.getElem?_map] at hu
    obtain ⟨b, hb, rfl⟩ := map_some' hu
    have hj : j < s'.size := by
     have := lt_of_get hb
     simpa using this
    rw [Nat.zero_add, Lib.bytesWorld_cell _ _ _ _ hj]
    simp [List.getD, hb])
   (by
    intro j y u hy hu
    rw [hfl, List.getElem?_map] at hy
    rw [List.getElem?_map] at hu
    obtain ⟨b, hb, rfl⟩ := map_some' hy
    obtain ⟨b', hb', rfl⟩ := map_some' hu
    obtain rfl := Option.some.inj (hb.symm.trans hb')
    exact FR.lit _ rfl)
  rw [hsz] at this
  exact this
theorem elems_spec (r : Rel w0 m ρ0 Φ0 H X) {es : Nat} {c : EC} {v : Value} (hv : VR X c v) {xs : List (List FV)} (h : elemsOf H es c = some xs) :
  (∀ x ∈ xs, x.length = es) ∧ ∃ ad cap vs, v = .slice ad xs.length cap ∧ xs.length ≤ cap ∧ All2 (FR X.Φ X.w) xs.flatten vs ∧ (xs ≠ [] → ∃ b off, ad = some ⟨b, off, none⟩ ∧ ∀ (j : Nat) (u : Value), vs[j]? = some u → X.w.cell? ⟨b, off + j, none⟩ = some u) := by
 unfold elemsOf at h
 split at h
 ·unfold elemsF at h
  split at h
  ·rename_i es' ys
   split at h
   ·rename_i he
    subst he
    obtain rfl := Option.some.inj h
    have hv' : FR X.Φ X.w (.sl es' ys) v := hv
    cases hv' with
    | sl _ _ b off cap vs hΦ h0 hl hn hcap hcell hfr => exact ⟨hl, _, cap, vs, rfl, hcap, ⟨by rw [flatten_length hl, hn], hfr⟩, fun _ => ⟨b, off, rfl, hcell⟩⟩
    | emp _ ad cap => exact ⟨by simp, ad, cap, [], rfl, Nat.zero_le _, by simpa using All2.nil, fun hne => absurd rfl hne⟩
   ·simp at h
  ·obtain rfl := Option.some.inj h
   cases hv
   exact ⟨by simp, none, 0, [], rfl, Nat.le_refl _, by simpa using All2.nil, fun hne => absurd rfl hne⟩
  ·simp at h
 ·rename_i o' len
  split at h
  ·rename_i ty es' ys hH
   split at h
   ·rename_i he
    subst he
    obtain rfl := Option.some.inj h
    obtain ⟨hu, ad, n, cap, hρ, h1, h2, rfl⟩ := hv
    have hor := (r.obj o' _ hH).2
    rw [hρ] at hor
    obtain ⟨h0, hl, flat, how, hall⟩ := hor
    have hlt : ∀ x ∈ ys.take len, x.length = es' := fun x hx => hl x (List.mem_of_mem_take hx)
    have hn : n = ys.length := by
     rcases how.2 with ⟨hn, hz⟩ | ⟨g, cap', cur, he, _⟩
     ·simp only [Value.slice.injEq] at hn; omega
     ·simp only [Value.slice.injEq] at he; omega
    have hlen : (ys.take len).length = len := by simp; omega
    refine ⟨hlt, ad, cap, flat.take (len * es'), by rw [hlen], by rw [hlen]; omega, by rw [flatten_take hl]; exact hall.take _, ?_⟩
    intro hne
    rcases how.2 with ⟨hn', hz⟩ | ⟨g, cap', cur, he, _⟩
    ·exfalso
     apply hne
     apply List.eq_nil_of_length_eq_zero
     simp; omega
    ·simp only [Value.slice.injEq] at he
     obtain ⟨rfl, _, _⟩ := he
     refine ⟨g, 0, rfl, ?_⟩
     intro j u hu'
     rw [List.getElem?_take] at hu'
     split at hu'
     ·have := how.cells (g := g) rfl j u hu'
      rw [Addr.add_lit] at this
      exact this
     ·simp at hu'
   ·simp at h
  ·simp at h
 ·simp at h
theorem singles_flat {α : Type} : ∀ (fs : List α), (fs.map fun x => [x]).flatten = fs
 | [] => rfl
 | x :: r => by simp [singles_flat r]
theorem elems2_spec (r : Rel w0 m ρ0 Φ0 H X) {es : Nat} {c : EC} {v : Value} (hv : VR X c v) {xs : List (List FV)} (h : elems2 H es c = some xs) :
  (∀ x ∈ xs, x.length = es) ∧ ∃ ad cap vs, v = .slice ad xs.length cap ∧ xs.length ≤ cap ∧ All2 (FR X.Φ X.w) xs.flatten vs ∧ (xs ≠ [] → ∃ b off, ad = some ⟨b, off, none⟩ ∧ ∀ (j : Nat) (u : Value), vs[j]? = some u → X.w.cell? ⟨b, off + j, none⟩ = some u) := by
 unfold elems2 at h
 split at h
 ·rename_i o' k len
  split at h
  ·rename_i ty cs hH
   split at h
   ·rename_i hb
    obtain ⟨rfl, hle⟩ := hb
    replace h := map_some' h; obtain ⟨fs, h1, rfl⟩ := h
    obtain ⟨hu, b, hρ, cap, hcap, rfl⟩ := hv
    obtain ⟨b', cc, hh, hheap, hall⟩ := (r.obj o' _ hH).2
    rw [hρ] at hh
    simp at hh
    subst hh
    have hfs := frzAll_spec h1
    have hlen : fs.length = len := by
     have := congrArg List.length hfs
     simp at this
     omega
    have hsub := (hall.drop k).take len
    rw [hfs] at hsub
    refine ⟨by simp, some ⟨b, k, none⟩, cap, (cc.toList.drop k).take len, by simp [hlen], by simpa [hlen] using hcap, ?_, ?_⟩
    ·rw [singles_flat]
     exact All2_fz hsub
    ·intro _
     refine ⟨b, k, rfl, ?_⟩
     intro j u hu'
     rw [List.getElem?_take] at hu'
     split at hu'
     ·rw [List.getElem?_drop] at hu'
      rw [cell_of_row X.w b (k + j) cc ty (0, 0) hheap]
      simpa using hu'
     ·simp at hu'
   ·simp at h
  ·simp at h
 ·exact elems_spec r hv h
theorem bytesOf_spec : ∀ {xs : List (List FV)} {ns : List Int}, bytesOf xs = some ns → xs = ns.map fun n => [FV.lit (.int .u8 n)]
 | [], ns, h => by simp [bytesOf] at h; subst h; rfl
 | x :: r, ns, h => by
  unfold bytesOf at h
  split at h
  ·simp at *
  ·rename_i n r' heq
   simp only [List.cons.injEq] at heq
   obtain ⟨rfl, rfl⟩ := heq
   replace h := map_some' h; obtain ⟨ns', h2, rfl⟩ := h
   rw [bytesOf_spec h2]
   rfl
  ·simp at h
theorem foldl_push : ∀ (ns : List Int) (s : ByteArray), ns.foldl (fun r n => r.push (UInt8.ofNat n.toNat)) s = ⟨s.data ++ (ns.map fun n => UInt8.ofNat n.toNat).toArray⟩
 | [], s => by simp
 | n :: r, s => by
  simp only [List.foldl_cons]
  rw [foldl_push r]
  simp [ByteArray.push]
theorem strOf_eq (ns : List Int) : ns.foldl (fun r n => r.push (UInt8.ofNat n.toNat)) ByteArray.empty = strOf ns := by
 rw [foldl_push]
 simp [strOf, ByteArray.empty, ByteArray.emptyWithCapacity]
 try rfl
theorem g_b2s {s d e : TypeId} {x : Operand} (ho : o.op = .convert s d x) (hs : P.underlying s = some (.slice e)) (he : P.underlying e = some (.int .u8)) (hd : P.underlying d = some .string) (r : Rel w0 m ρ0 Φ0 H X) (ha : All2 (VV X) T a.tmps.toList) {v : EV} {ob : Option EO} (h : evQ (.b2s (opd x)) T H id = some (v, ob)) : Good P o a w0 m ρ0 Φ0 H X id v ob := by
 simp only [evQ] at h
 replace h := bind_some' h; obtain ⟨c, h1, h⟩ := h
 replace h := bind_some' h; obtain ⟨xs, h2, h⟩ := h
 replace h := map_some' h; obtain ⟨ns, h3, h⟩ := h
 simp only [Prod.mk.injEq] at h
 obtain ⟨rfl, rfl⟩ := h
 have hv := VV_c h1 (VV_ev ha x)
 obtain ⟨hl, ad, cap, vs, e1, hcap, hall, hcell⟩ := elems2_spec r hv h2
 have hxs := bytesOf_spec h3
 refine .pure r (val := .string (strOf ns)) ?_ (VV_mklit rfl)
 have hfl : xs.flatten = ns.map fun n => FV.lit (.int .u8 n) := by
  rw [hxs]; clear hxs h3
  induction ns with
  | nil => rfl
  | cons n r ih => simp [ih]
 have hvs : vs = ns.map (Value.int .u8) := by
  apply List.ext_getElem?
  intro j
  rw [List.getElem?_map]
  cases hn : ns[j]? with
  | none =>
   rw [List.getElem?_eq_none (by
    rw [← hall.1, hfl, List.length_map]
    exact List.getElem?_eq_none_iff.1 hn)]
   rfl
  | some n =>
   obtain ⟨u, hu, hr⟩ := hall.get (i := j) (x := FV.lit (.int .u8 n)) (by rw [hfl, List.getElem?_map, hn]; rfl)
   cases hr
   exact hu
 simp only [execOp, ho, Sem.run_bind, e1]
 rw [run_convert_bytes_string X.w s d e _ _ cap hs he hd]
 cases ns with
 | nil =>
  obtain rfl : xs = [] := by simpa using hxs
  cases ad with
  | none => simp [Conv.bytesToString]; rfl
  | some ad =>
   rw [run_bytesToString X.w ad _ cap [] (by simp [loadCells, loadCellsFrom]), strOf_eq]
   rfl
 | cons n r' =>
  obtain ⟨b, off, rfl, hc⟩ := hcell (by rw [hxs]; simp)
  have hload := run_loadCells_list (P := P) X.w ⟨b, off, none⟩ vs (fun j v hv => by rw [Addr.add_lit]; exact hc j v hv)
  have hlen : vs.length = xs.length := by rw [hvs, hxs]; simp
  rw [hlen, hvs] at hload
  rw [run_bytesToString X.w _ _ cap (n :: r') hload, strOf_eq]
  rfl
theorem g_ixs {t : TypeId} {x i : Operand} (ho : o.op = .index t x i) (ht : P.underlying t = some .string) (r : Rel w0 m ρ0 Φ0 H X) (ha : All2 (VV X) T a.tmps.toList) {v : EV} {ob : Option EO} (h : evQ (.ixs (opd x) (opd i)) T H id = some (v, ob)) : Good P o a w0 m ρ0 Φ0 H X id v ob := by
 simp only [evQ] at h
 split at h
 ·rename_i s k n hs hi
  split at h
  ·rename_i h0
   replace h := map_some' h; obtain ⟨b, h2, h⟩ := h
   simp only [Prod.mk.injEq] at h
   obtain ⟨rfl, rfl⟩ := h
   refine .pure r (val := .int .u8 b.toNat) ?_ (VV_mklit rfl)
   have hb : s[n.toNat]? = some b := by
    have hlt := lt_of_get h2
    have hlt' : n.toNat < s.size := by simpa using hlt
    rw [getElem?_pos s n.toNat hlt']
    rw [List.getElem?_eq_getElem hlt] at h2
    rw [← Option.some.inj h2]
    rfl
   simp [execOp, ho, VV_lit hs (VV_ev ha x), VV_lit hi (VV_ev ha i), Instr.index, asIntOf, run_underlying ht, h0, hb]
  ·simp at h
 ·simp at h
theorem lits_spec (ha : All2 (VV X) T a.tmps.toList) : ∀ (xs : List Operand) (vs : List Value), lits T (xs.map opd) = some vs → xs.map a.eval = vs
 | [], vs, h => by simp [lits] at h; subst h; rfl
 | x :: r, vs, h => by
  simp only [List.map_cons, lits] at h
  replace h := bind_some' h; obtain ⟨u, h1, h⟩ := h
  replace h := map_some' h; obtain ⟨us, h2, rfl⟩ := h
  rw [List.map_cons, lits_spec ha r us h2, VV_lit h1 (VV_ev ha x)]
theorem g_minmax {mx : Bool} {args : Array Operand} {ts : Array TypeId} (ho : o.op = .call { callee := .builtin (if mx then .max else .min), args := args, argTypes := ts }) (r : Rel w0 m ρ0 Φ0 H X) (ha : All2 (VV X) T a.tmps.toList) {v : EV} {ob : Option EO} (h : evQ (.minmax mx (args.toList.map opd)) T H id = some (v, ob)) : Good P o a w0 m ρ0 Φ0 H X id v ob := by
 simp only [evQ] at h
 have hmap : ∀ vs, args.toList.map a.eval = vs → args.map a.eval = vs.toArray := by
  intro vs hvs; cases args; simp at hvs; simp [← hvs]
 split at h
 ·rename_i k p k' q hl
  split at h
  ·rename_i hk
   simp only [Option.some.injEq, Prod.mk.injEq] at h
   obtain ⟨rfl, rfl⟩ := h
   have e1 := hmap _ (lits_spec ha _ _ hl)
   refine .pure r (val := .int k (if mx then (if q > p then q else p) else (if q < p then q else p))) ?_ (VV_mklit rfl)
   cases mx
   ·simp [execOp, ho, resolve, invoke, builtin, e1, run_min_int2]
   ·simp [execOp, ho, resolve, invoke, builtin, e1, run_max_int2]
  ·simp at h
 ·rename_i k p k' q k'' q' hl
  split at h
  ·rename_i hk
   obtain ⟨_, _, rfl⟩ := hk
   simp only [Option.some.injEq, Prod.mk.injEq] at h
   obtain ⟨rfl, rfl⟩ := h
   have e1 := hmap _ (lits_spec ha _ _ hl)
   refine .pure r (val := .int k (if q' < (if q < p then q else p) then q' else (if q < p then q else p))) ?_ (VV_mklit rfl)
   simp [execOp, ho, resolve, invoke, builtin, e1, run_min_int3]
  ·simp at h
 ·simp at h
theorem intsOf_spec {k : IntKind} : ∀ {cs : List EC} {ns : List Int}, intsOf k cs = some ns → cs = ns.map fun n => litc (.int k n)
 | [], ns, h => by simp [intsOf] at h; subst h; rfl
 | x :: r, ns, h => by
  unfold intsOf at h
  split at h
  ·simp at *
  ·rename_i k' n r' heq
   simp only [List.cons.injEq] at heq
   obtain ⟨rfl, rfl⟩ := heq
   split at h
   ·rename_i hk
    subst hk
    replace h := map_some' h; obtain ⟨ns', h2, rfl⟩ := h
    rw [intsOf_spec h2]
    rfl
   ·simp at h
  ·simp at h
theorem All2_ints {k : IntKind} {ns : List Int} {vs : List Value} (h : All2 (VR X) (ns.map fun n => litc (.int k n)) vs) : vs = ns.map (Value.int k) := by
 apply List.ext_getElem?
 intro j
 rw [List.getElem?_map]
 cases hn : ns[j]? with
 | none =>
  rw [List.getElem?_eq_none (by rw [← h.1, List.length_map]; exact List.getElem?_eq_none_iff.1 hn)]
  rfl
 | some n =>
  obtain ⟨u, hu, hr⟩ := h.get (i := j) (x := litc (.int k n)) (by rw [List.getElem?_map, hn]; rfl)
  cases hr
  exact hu
theorem g_eqa {op : BinOp} {neg : Bool} {t e t' : TypeId} {len : Nat} {k : IntKind} {x y : Operand} (ho : o.op = .binOp op t x y t') (ht : P.underlying t = some (.array len e)) (he : P.underlying e = some (.int k)) (hs : sz P e = some 1) (hg : P.eqGuardType P.depth t = false) (hop : (op = .eql ∧ neg = false) ∨ (op = .neq ∧ neg = true)) (r : Rel w0 m ρ0 Φ0 H X) (ha : All2 (VV X) T a.tmps.toList) {v : EV} {ob : Option EO} (h : evQ (.eqa neg len k (opd x) (opd y)) T H id = some (v, ob)) : Good P o a w0 m ρ0 Φ0 H X id v ob := by
 simp only [evQ] at h
 replace h := bind_some' h; obtain ⟨cs, h1, h⟩ := h
 replace h := bind_some' h; obtain ⟨xs, h2, h⟩ := h
 replace h := bind_some' h; obtain ⟨ds, h3, h⟩ := h
 replace h := bind_some' h; obtain ⟨ys, h4, h⟩ := h
 split at h
 ·rename_i hb
  obtain ⟨rfl, hl⟩ := hb
  simp only [Option.some.injEq, Prod.mk.injEq] at h
  obtain ⟨rfl, rfl⟩ := h
  obtain ⟨us, e1, a1⟩ := VV_ag h1 (VV_ev ha x)
  obtain ⟨vs, e2, a2⟩ := VV_ag h3 (VV_ev ha y)
  rw [intsOf_spec h2] at a1
  rw [intsOf_spec h4] at a2
  rw [All2_ints a1] at e1
  rw [All2_ints a2] at e2
  have key := run_eq_arr (P := P) 9998 t e k xs ys ht he hs hl X.w
  refine .pure r (val := .bool (if neg then !decide (xs = ys) else decide (xs = ys))) ?_ (VV_mklit rfl)
  rcases hop with ⟨rfl, rfl⟩ | ⟨rfl, rfl⟩
  ·simp only [execOp, ho, Sem.run_bind, e1, e2, run_eqGuard_agg X.w .eql t x y _ _ hg, Result.andThen_ok, run_eql_struct, key]
   rfl
  ·simp only [execOp, ho, Sem.run_bind, e1, e2, run_eqGuard_agg X.w .neq t x y _ _ hg, Result.andThen_ok, run_neq_struct, key]
   rfl
 ·simp at h
theorem boolsOf_spec : ∀ {cs : List EC} {ns : List Bool}, boolsOf cs = some ns → cs = ns.map fun n => litc (.bool n)
 | [], ns, h => by simp [boolsOf] at h; subst h; rfl
 | x :: r, ns, h => by
  unfold boolsOf at h
  split at h
  ·simp at *
  ·rename_i n r' heq
   simp only [List.cons.injEq] at heq
   obtain ⟨rfl, rfl⟩ := heq
   replace h := map_some' h; obtain ⟨ns', h2, rfl⟩ := h
   rw [boolsOf_spec h2]
   rfl
  ·simp at h
theorem All2_bools {ns : List Bool} {vs : List Value} (h : All2 (VR X) (ns.map fun n => litc (.bool n)) vs) : vs = ns.map (Value.bool) := by
 apply List.ext_getElem?
 intro j
 rw [List.getElem?_map]
 cases hn : ns[j]? with
 | none =>
  rw [List.getElem?_eq_none (by rw [← h.1, List.length_map]; exact List.getElem?_eq_none_iff.1 hn)]
  rfl
 | some n =>
  obtain ⟨u, hu, hr⟩ := h.get (i := j) (x := litc (.bool n)) (by rw [List.getElem?_map, hn]; rfl)
  cases hr
  exact hu
theorem g_eqz {op : BinOp} {neg : Bool} {t e t' : TypeId} {len : Nat} {x y : Operand} (ho : o.op = .binOp op t x y t') (ht : P.underlying t = some (.array len e)) (he : P.underlying e = some .bool) (hs : sz P e = some 1) (hg : P.eqGuardType P.depth t = false) (hop : (op = .eql ∧ neg = false) ∨ (op = .neq ∧ neg = true)) (r : Rel w0 m ρ0 Φ0 H X) (ha : All2 (VV X) T a.tmps.toList) {v : EV} {ob : Option EO} (h : evQ (.eqz neg len (opd x) (opd y)) T H id = some (v, ob)) : Good P o a w0 m ρ0 Φ0 H X id v ob := by
 simp only [evQ] at h
 replace h := bind_some' h; obtain ⟨cs, h1, h⟩ := h
 replace h := bind_some' h; obtain ⟨xs, h2, h⟩ := h
 replace h := bind_some' h; obtain ⟨ds, h3, h⟩ := h
 replace h := bind_some' h; obtain ⟨ys, h4, h⟩ := h
 split at h
 ·rename_i hb
  obtain ⟨rfl, hl⟩ := hb
  simp only [Option.some.injEq, Prod.mk.injEq] at h
  obtain ⟨rfl, rfl⟩ := h
  obtain ⟨us, e1, a1⟩ := VV_ag h1 (VV_ev ha x)
  obtain ⟨vs, e2, a2⟩ := VV_ag h3 (VV_ev ha y)
  rw [boolsOf_spec h2] at a1
  rw [boolsOf_spec h4] at a2
  rw [All2_bools a1] at e1
  rw [All2_bools a2] at e2
  have key := run_eq_arz (P := P) 9998 t e xs ys ht he hs hl X.w
  refine .pure r (val := .bool (if neg then !decide (xs = ys) else decide (xs = ys))) ?_ (VV_mklit rfl)
  rcases hop with ⟨rfl, rfl⟩ | ⟨rfl, rfl⟩
  ·simp only [execOp, ho, Sem.run_bind, e1, e2, run_eqGuard_agg X.w .eql t x y _ _ hg, Result.andThen_ok, run_eql_struct, key]
   rfl
  ·simp only [execOp, ho, Sem.run_bind, e1, e2, run_eqGuard_agg X.w .neq t x y _ _ hg, Result.andThen_ok, run_neq_struct, key]
   rfl
 ·simp at h
theorem intS2_spec {k1 k2 : IntKind} {cs : List EC} {p : Int × List Int} (h : intS2 k1 k2 cs = some p) : cs = litc (.int k1 p.1) :: p.2.map fun n => litc (.int k2 n) := by
 unfold intS2 at h
 split at h
 ·rename_i k n r
  split at h
  ·rename_i hk
   subst hk
   obtain ⟨b, hb, rfl⟩ := map_some' h
   rw [intsOf_spec hb]
   rfl
  ·simp at h
 ·simp at h
theorem All2_ints2 {k1 k2 : IntKind} {a : Int} {ns : List Int} {vs : List Value} (h : All2 (VR X) (litc (.int k1 a) :: ns.map fun n => litc (.int k2 n)) vs) : vs = Value.int k1 a :: ns.map (Value.int k2) := by
 obtain ⟨u, us, rfl, h1, h2⟩ := h.cons_left
 rw [All2_ints h2]
 cases h1
 rfl
theorem g_eqs {op : BinOp} {neg : Bool} {t e t' : TypeId} {fs : Array Field} {f g : Field} {len : Nat} {k1 k2 : IntKind} {x y : Operand} (ho : o.op = .binOp op t x y t') (ht : P.underlying t = some (.struct fs)) (hfs : fs.toList = [f, g])
  (hf : P.underlying f.type = some (.int k1)) (hgt : P.underlying g.type = some (.array len e)) (he : P.underlying e = some (.int k2)) (h0 : f.offset = 0) (h1' : g.offset = 1) (hn1 : f.name ≠ "_") (hn2 : g.name ≠ "_")
  (hsg : sz P g.type = some len) (hs : sz P e = some 1) (hg : P.eqGuardType P.depth t = false) (hst : P.stoodInHeld t = false) (hop : (op = .eql ∧ neg = false) ∨ (op = .neq ∧ neg = true)) (r : Rel w0 m ρ0 Φ0 H X) (ha : All2 (VV X) T a.tmps.toList) {v : EV} {ob : Option EO} (h : evQ (.eqs neg k1 len k2 (opd x) (opd y)) T H id = some (v, ob)) : Good P o a w0 m ρ0 Φ0 H X id v ob := by
 simp only [evQ] at h
 replace h := bind_some' h; obtain ⟨cs, h1, h⟩ := h
 replace h := bind_some' h; obtain ⟨xs, h2, h⟩ := h
 replace h := bind_some' h; obtain ⟨ds, h3, h⟩ := h
 replace h := bind_some' h; obtain ⟨ys, h4, h⟩ := h
 split at h
 ·rename_i hb
  obtain ⟨rfl, hl⟩ := hb
  simp only [Option.some.injEq, Prod.mk.injEq] at h
  obtain ⟨rfl, rfl⟩ := h
  obtain ⟨us, e1, a1⟩ := VV_ag h1 (VV_ev ha x)
  obtain ⟨vs, e2, a2⟩ := VV_ag h3 (VV_ev ha y)
  rw [intS2_spec h2] at a1
  rw [intS2_spec h4] at a2
  rw [All2_ints2 a1] at e1
  rw [All2_ints2 a2] at e2
  have key := run_eq_s2 (P := P) 9997 t e fs f g k1 k2 xs.1 ys.1 xs.2 ys.2 ht hfs hf hgt he h0 h1' hn1 hn2 hsg hs hst hl X.w
  refine .pure r (val := .bool (if neg then !decide (xs.1 = ys.1 ∧ xs.2 = ys.2) else decide (xs.1 = ys.1 ∧ xs.2 = ys.2))) ?_ (VV_mklit rfl)
  rcases hop with ⟨rfl, rfl⟩ | ⟨rfl, rfl⟩
  ·simp only [execOp, ho, Sem.run_bind, e1, e2, run_eqGuard_agg X.w .eql t x y _ _ hg, Result.andThen_ok, run_eql_struct, key]
   rfl
  ·simp only [execOp, ho, Sem.run_bind, e1, e2, run_eqGuard_agg X.w .neq t x y _ _ hg, Result.andThen_ok, run_neq_struct, key]
   rfl
 ·simp at h
theorem g_eqop {op : BinOp} {neg : Bool} {t t' : TypeId} {x y : Operand} {q : QOp} (ho : o.op = .binOp op t x y t') (hop : (op = .eql ∧ neg = false) ∨ (op = .neq ∧ neg = true)) (hc : eqop P op neg t x y = some q) (r : Rel w0 m ρ0 Φ0 H X) (ha : All2 (VV X) T a.tmps.toList) {v : EV} {ob : Option EO} (h : evQ q T H id = some (v, ob)) : Good P o a w0 m ρ0 Φ0 H X id v ob := by
 unfold eqop at hc
 split at hc
 ·obtain rfl := Option.some.inj hc; exact g_bin ho r ha h
 ·obtain rfl := Option.some.inj hc; exact g_bin ho r ha h
 ·rename_i ht; obtain rfl := Option.some.inj hc; exact g_eqb ho ht hop r ha h
 ·rename_i e ht
  split at hc
  ·split at hc
   ·rename_i hp; obtain rfl := Option.some.inj hc; exact g_eqp ho (hp ▸ ht) hop r ha h
   ·simp at hc
  ·simp at hc
 ·rename_i ms ht
  split at hc
  ·obtain rfl := Option.some.inj hc; exact g_eqi ho ht hop r ha h
  ·simp at hc
 ·rename_i len e ht
  split at hc
  ·rename_i k he
   split at hc
   ·rename_i hb
    obtain rfl := Option.some.inj hc; exact g_eqa ho ht he hb.1 hb.2 hop r ha h
   ·simp at hc
  ·rename_i he
   split at hc
   ·rename_i hb
    obtain rfl := Option.some.inj hc; exact g_eqz ho ht he hb.1 hb.2 hop r ha h
   ·simp at hc
  ·simp at hc
 ·rename_i fs ht
  split at hc
  ·rename_i f g hfs
   split at hc
   ·rename_i k1 len e hf hg
    split at hc
    ·rename_i k2 he
     split at hc
     ·rename_i hb
      obtain ⟨b1, b2, b3, b4, b5, b6, b7, b8⟩ := hb
      obtain rfl := Option.some.inj hc
      exact g_eqs ho ht hfs hf hg he b1 b2 b3 b4 b5 b6 b7 b8 hop r ha h
     ·simp at hc
    ·simp at hc
   ·simp at hc
  ·simp at hc
 ·simp at hc
def toLit : Value → Lit
 | .int k n => .int k n
 | _ => .bool false
theorem rep_chunk {l : List IntKind} : ∀ {n i : Nat}, i < n → (((List.replicate n l).flatten.drop (i * l.length)).take l.length) = l
 | 0, i, h => by omega
 | n + 1, 0, _ => by simp [List.replicate_succ]
 | n + 1, i + 1, h => by
  rw [List.replicate_succ, List.flatten_cons, Nat.succ_mul, Nat.add_comm, ← List.drop_drop, List.drop_left]
  exact rep_chunk (by omega)
theorem mapM_some_of {α β : Type} {f : α → Option β} {g : α → β} : ∀ {l : List α}, (∀ x ∈ l, f x = some (g x)) → l.mapM f = some (l.map g)
 | [], _ => rfl
 | a :: r, h => by
  rw [List.mapM_cons, h a (by simp), mapM_some_of (l := r) (fun x hx => h x (by simp [hx]))]
  rfl
theorem flatFs_key {P : Program} {D : Nat} {f : TypeId → Option (List IntKind)} {cs : List Value} (hf : ∀ t ks cs, f t = some ks → FitK ks cs → P.keyLits D t cs = some (cs.map toLit)) (hl : ∀ t ks, f t = some ks → ks.length = P.cellsOf t) :
  ∀ (fs : List Field) (off : Nat) (ks : List IntKind), flatFs P f off fs = some ks → FitK ks (cs.drop off) → ∃ l, fs.mapM (fun g => P.keyLits D g.type ((cs.drop g.offset).take (P.cellsOf g.type))) = some l ∧ l.flatten = (cs.drop off).map toLit ∧ ∀ g ∈ fs, g.name ≠ "_"
 | [], off, ks, h, hk => by
  simp [flatFs] at h; subst h
  have := hk.1
  have e : cs.drop off = [] := List.eq_nil_of_length_eq_zero this.symm
  exact ⟨[], rfl, by rw [e]; rfl, by simp⟩
 | g :: r, off, ks, h, hk => by
  simp only [flatFs] at h
  split at h
  ·rename_i hg
   obtain ⟨rfl, hn⟩ := hg
   obtain ⟨l, hl1, h⟩ := bind_some' h
   obtain ⟨ks', hks', rfl⟩ := map_some' h
   have hc := hl _ _ hl1
   have h1 : FitK l ((cs.drop g.offset).take (P.cellsOf g.type)) := by
    have := hk.take l.length
    rw [List.take_left, hc] at this
    exact this
   have h2 : FitK ks' (cs.drop (g.offset + P.cellsOf g.type)) := by
    have := hk.drop l.length
    rw [List.drop_left, hc, List.drop_drop] at this
    exact this
   obtain ⟨ll, e1, e2, e3⟩ := flatFs_key hf hl r _ ks' hks' h2
   refine ⟨_ :: ll, by rw [List.mapM_cons, hf _ _ _ hl1 h1, e1]; rfl, ?_, ?_⟩
   ·rw [List.flatten_cons, e2, ← List.map_append, ← List.drop_drop, List.take_append_drop]
   ·intro x hx
    rcases List.mem_cons.1 hx with rfl | hx
    ·exact hn
    ·exact e3 x hx
  ·simp at h
theorem flat_len {P : Program} {d : Nat} {t : TypeId} {ks : List IntKind} (h : flatK P d t = some ks) : ks.length = P.cellsOf t := by
 cases d with
 | zero => simp [flatK] at h
 | succ d =>
  simp only [flatK] at h
  obtain ⟨l, _, h⟩ := bind_some' h
  split at h
  ·rename_i hl; obtain rfl := Option.some.inj h; exact hl
  ·simp at h
theorem flat_key {P : Program} : ∀ (d D : Nat), d ≤ D → ∀ (t : TypeId) (ks : List IntKind) (cs : List Value), flatK P d t = some ks → FitK ks cs → P.keyLits D t cs = some (cs.map toLit)
 | 0, _, _, t, ks, cs, h, _ => by simp [flatK] at h
 | d + 1, D + 1, hD, t, ks, cs, h, hk => by
  have hlen := flat_len h
  have hcl : cs.length = P.cellsOf t := by rw [← hk.1]; exact hlen
  simp only [flatK] at h
  obtain ⟨l, h0, h'⟩ := bind_some' h
  clear h
  split at h'
  ·obtain rfl := Option.some.inj h'
   unfold Program.keyLits
   split at h0
   ·rename_i q hu
    obtain rfl := Option.some.inj h0
    obtain ⟨v, vs, rfl, ⟨n, rfl, hw⟩, h2⟩ := hk.cons_left
    obtain rfl := h2.nil_left
    simp [hu, hw, toLit]
   ·rename_i n e hu
    obtain ⟨l', hl', h1⟩ := bind_some' h0
    obtain rfl := Option.some.inj h1
    have hle := flat_len hl'
    simp only [hu, hcl, if_true]
    have hch : ∀ i ∈ List.range n, P.keyLits D e ((cs.drop (i * P.cellsOf e)).take (P.cellsOf e)) = some (((cs.drop (i * P.cellsOf e)).take (P.cellsOf e)).map toLit) := by
     intro i hi
     refine flat_key d D (by omega) e l' _ hl' ?_
     have := (hk.drop (i * l'.length)).take l'.length
     rw [rep_chunk (List.mem_range.1 hi), hle] at this
     exact this
    rw [mapM_some_of hch]
    simp only [Option.map_some, Option.some.injEq]
    have hlen' : cs.length = n * P.cellsOf e := by
     rw [← hk.1, ← hle]
     simp [List.length_flatten]
    have := congrArg (List.map toLit) (chunks_flatten (P.cellsOf e) n cs hlen')
    rw [← this, List.map_flatten, List.map_map]
    rfl
   ·rename_i fs hu
    obtain ⟨ll, e1, e2, e3⟩ := flatFs_key (cs := cs) (D := D) (f := flatK P d) (fun t ks cs h1 h2 => flat_key d D (by omega) t ks cs h1 h2) (fun t ks h => flat_len h) fs.toList 0 l h0 (by simpa using hk)
    have e4 : fs.all (·.name != "_") = true := by
     rw [Array.all_eq_true_iff_forall_mem]
     intro x hx
     simpa using e3 x (by simpa using hx)
    simp only [hu, hcl, e4, and_self, if_true, e1, Option.map_some, Option.some.injEq]
    simpa using e2
   ·simp at h0
  ·simp at h'
theorem litK_spec : ∀ {ks : List IntKind} {cs : List EC} {ns : List Int}, litK ks cs = some ns → ns.length = ks.length ∧ cs = (List.zipWith Value.int ks ns).map litc ∧ FitK ks (List.zipWith Value.int ks ns)
 | [], [], ns, h => by simp [litK] at h; subst h; exact ⟨rfl, rfl, All2.nil⟩
 | [], c :: r, ns, h => by simp [litK] at h
 | k :: ks, [], ns, h => by simp [litK] at h
 | k :: ks, c :: r, ns, h => by
  unfold litK at h
  split at h
  ·simp at *
  ·rename_i k' ks' k'' n r' e1 e2
   simp only [List.cons.injEq] at e1 e2
   obtain ⟨rfl, rfl⟩ := e1
   obtain ⟨rfl, rfl⟩ := e2
   split at h
   ·rename_i hh
    obtain ⟨rfl, hw⟩ := hh
    obtain ⟨b, hb, rfl⟩ := map_some' h
    obtain ⟨q1, q2, q3⟩ := litK_spec hb
    exact ⟨by simp [q1], by rw [q2]; rfl, All2.cons ⟨n, rfl, hw⟩ q3⟩
   ·simp at h
  ·simp at h
theorem All2_litcs {X : Cx} : ∀ {ks vs : List Value}, All2 (VR X) (ks.map litc) vs → vs = ks
 | [], vs, h => h.nil_left
 | k :: r, vs, h => by
  obtain ⟨u, us, rfl, h1, h2⟩ := h.cons_left
  rw [All2_litcs h2]
  cases h1
  rfl
theorem zip_lit : ∀ (ks : List IntKind) (ns : List Int), (List.zipWith Value.int ks ns).map toLit = List.zipWith Lit.int ks ns
 | [], _ => rfl
 | _ :: _, [] => rfl
 | k :: ks, n :: ns => by simp [toLit, zip_lit ks ns]
theorem zip_inj : ∀ {ks : List IntKind} {ns ms : List Int}, ns.length = ks.length → ms.length = ks.length → (List.zipWith Lit.int ks ns = List.zipWith Lit.int ks ms ↔ ns = ms)
 | [], ns, ms, h1, h2 => by
  simp at h1 h2; subst h1; subst h2; simp
 | k :: ks, [], ms, h1, h2 => by simp at h1
 | k :: ks, n :: ns, [], h1, h2 => by simp at h2
 | k :: ks, n :: ns, p :: ms, h1, h2 => by
  simp only [List.zipWith_cons_cons, List.cons.injEq, Lit.int.injEq, true_and]
  rw [zip_inj (by simpa using h1) (by simpa using h2)]
theorem g_eqw {op : BinOp} {neg : Bool} {t t' : TypeId} {ks : List IntKind} {x y : Operand} (ho : o.op = .binOp op t x y t') (hs : isStructT P t = true) (hf : flatK P 4 t = some ks) (hg : P.eqGuardType P.depth t = false) (hkt : P.keyTypeAt 4 t = true) (hrl : unrle (rle ks) = ks) (hop : (op = .eql ∧ neg = false) ∨ (op = .neq ∧ neg = true)) (r : Rel w0 m ρ0 Φ0 H X) (ha : All2 (VV X) T a.tmps.toList) {v : EV} {ob : Option EO} (h : evQ (.eqw neg (rle ks) (opd x) (opd y)) T H id = some (v, ob)) : Good P o a w0 m ρ0 Φ0 H X id v ob := by
 simp only [evQ, hrl] at h
 replace h := bind_some' h; obtain ⟨cs, h1, h⟩ := h
 replace h := bind_some' h; obtain ⟨xs, h2, h⟩ := h
 replace h := bind_some' h; obtain ⟨ds, h3, h⟩ := h
 replace h := bind_some' h; obtain ⟨ys, h4, h⟩ := h
 simp only [Option.some.injEq, Prod.mk.injEq] at h
 obtain ⟨rfl, rfl⟩ := h
 obtain ⟨us, e1, a1⟩ := VV_ag h1 (VV_ev ha x)
 obtain ⟨vs, e2, a2⟩ := VV_ag h3 (VV_ev ha y)
 obtain ⟨l1, c1, f1⟩ := litK_spec h2
 obtain ⟨l2, c2, f2⟩ := litK_spec h4
 rw [c1] at a1
 rw [c2] at a2
 rw [All2_litcs a1] at e1
 rw [All2_litcs a2] at e2
 have hlen := flat_len hf
 have formed : ∀ ns : List Int, ns.length = ks.length → (Value.agg (List.zipWith Value.int ks ns).toArray).formed P t = true := by
  intro ns hns
  unfold isStructT at hs
  split at hs
  ·rename_i fs hu
   simp [Value.formed, hu, hns, hlen]
  ·simp at hs
 have key := run_equalIn_deep (P := P) 9996 4 t hkt X.w 4 4 (.agg (List.zipWith Value.int ks xs).toArray) (.agg (List.zipWith Value.int ks ys).toArray) _ _ (formed xs l1) (formed ys l2)
  (flat_key 4 4 (Nat.le_refl _) t ks _ hf (by simpa [Value.cells] using f1)) (flat_key 4 4 (Nat.le_refl _) t ks _ hf (by simpa [Value.cells] using f2))
 obtain ⟨b, hb, hiff⟩ := key
 simp only [Value.cells, zip_lit] at hiff
 have hbe : b = decide (xs = ys) := by
  rw [zip_inj l1 l2] at hiff
  cases b
  ·exact (decide_eq_false (fun e => by simpa using hiff.2 e)).symm
  ·exact (decide_eq_true (hiff.1 rfl)).symm
 subst hbe
 refine .pure r (val := .bool (if neg then !decide (xs = ys) else decide (xs = ys))) ?_ (VV_mklit rfl)
 rcases hop with ⟨rfl, rfl⟩ | ⟨rfl, rfl⟩
 ·simp only [execOp, ho, Sem.run_bind, e1, e2, run_eqGuard_agg X.w .eql t x y _ _ hg, Result.andThen_ok, run_eql_struct, hb]
  rfl
 ·simp only [execOp, ho, Sem.run_bind, e1, e2, run_eqGuard_agg X.w .neq t x y _ _ hg, Result.andThen_ok, run_neq_struct, hb]
  rfl
theorem g_eqopW {op : BinOp} {neg : Bool} {t t' : TypeId} {x y : Operand} {q : QOp} (ho : o.op = .binOp op t x y t') (hop : (op = .eql ∧ neg = false) ∨ (op = .neq ∧ neg = true)) (hc : eqopW P op neg t x y = some q) (r : Rel w0 m ρ0 Φ0 H X) (ha : All2 (VV X) T a.tmps.toList) {v : EV} {ob : Option EO} (h : evQ q T H id = some (v, ob)) : Good P o a w0 m ρ0 Φ0 H X id v ob := by
 unfold eqopW at hc
 split at hc
 ·rename_i q' hq
  obtain rfl := Option.some.inj hc
  exact g_eqop ho hop hq r ha h
 ·split at hc
  ·rename_i hs
   obtain ⟨ks, hf, hc⟩ := bind_some' hc
   split at hc
   ·rename_i hh
    obtain ⟨b1, b2, b3⟩ := hh
    obtain rfl := Option.some.inj hc
    exact g_eqw ho hs hf b1 b2 b3 hop r ha h
   ·simp at hc
  ·simp at hc
theorem ent_get {rs : List (Nat × IntKind)} {es : List MapEntry} {l : List (List Int × Value)} (h : es.map (fun e => (e.key, e.val)) = l.map fun p => (Value.agg (cellsI rs p.1).toArray, p.2)) {j : Nat} {e : MapEntry} (hj : es[j]? = some e) : ∃ p, l[j]? = some p ∧ e.key = .agg (cellsI rs p.1).toArray ∧ e.val = p.2 := by
 have := congrArg (·[j]?) h
 simp only [List.getElem?_map, hj, Option.map_some] at this
 cases hl : l[j]? with
 | none => simp [hl] at this
 | some p => simp [hl] at this; exact ⟨p, rfl, this.1, this.2⟩
theorem getM_at {z : Value} {k : List Int} : ∀ {l : List (List Int × Value)} {j : Nat} {p : List Int × Value}, (l.map (·.1)).Nodup → l[j]? = some p → p.1 = k → getM z k l = p.2
 | [], j, p, _, h, _ => by simp at h
 | q :: r, 0, p, hn, h, e => by simp at h; subst h; simp [getM, e]
 | q :: r, j + 1, p, hn, h, e => by
  simp only [List.map_cons, List.nodup_cons] at hn
  have h' : r[j]? = some p := by simpa using h
  have hne : ¬ q.1 = k := by
   rintro rfl
   exact hn.1 (List.mem_map.2 ⟨p, List.mgE h', e⟩)
  simp only [getM, if_neg hne]
  exact getM_at hn.2 h' e
theorem getM_none {z : Value} {k : List Int} : ∀ {l : List (List Int × Value)}, (∀ p ∈ l, p.1 ≠ k) → getM z k l = z
 | [], _ => rfl
 | q :: r, h => by simp only [getM, if_neg (h q (by simp))]; exact getM_none fun p hp => h p (by simp [hp])
theorem getM_one {z : Value} {k : List Int} (hz : z.oneCell' = true) : ∀ {l : List (List Int × Value)}, (∀ p ∈ l, p.2.oneCell' = true) → (getM z k l).oneCell' = true
 | [], _ => hz
 | q :: r, h => by
  unfold getM
  split
  ·exact h q (by simp)
  ·exact getM_one hz fun p hp => h p (by simp [hp])
theorem idxM_none {k : List Int} : ∀ {l : List (List Int × Value)}, (∀ p ∈ l, p.1 ≠ k) → idxM k l = l.length
 | [], _ => rfl
 | q :: r, h => by simp only [idxM, if_neg (h q (by simp)), List.length_cons]; rw [idxM_none fun p hp => h p (by simp [hp])]
theorem idxM_at {k : List Int} : ∀ {l : List (List Int × Value)} {j : Nat} {p : List Int × Value}, (l.map (·.1)).Nodup → l[j]? = some p → p.1 = k → idxM k l = j
 | [], j, p, _, h, _ => by simp at h
 | q :: r, 0, p, hn, h, e => by simp at h; subst h; simp [idxM, e]
 | q :: r, j + 1, p, hn, h, e => by
  simp only [List.map_cons, List.nodup_cons] at hn
  have h' : r[j]? = some p := by simpa using h
  have hne : ¬ q.1 = k := by
   rintro rfl
   exact hn.1 (List.mem_map.2 ⟨p, List.mgE h', e⟩)
  simp only [idxM, if_neg hne]
  rw [idxM_at hn.2 h' e]
theorem entM_none {z : Value} {k : List Int} : ∀ {l : List (List Int × Value)}, (∀ p ∈ l, p.1 ≠ k) → entM z k l = l ++ [(k, z)]
 | [], _ => rfl
 | q :: r, h => by simp only [entM, if_neg (h q (by simp)), List.cons_append]; rw [entM_none fun p hp => h p (by simp [hp])]
theorem entM_some {z : Value} {k : List Int} : ∀ {l : List (List Int × Value)}, (∃ p ∈ l, p.1 = k) → entM z k l = l
 | [], h => by simp at h
 | q :: r, h => by
  by_cases e : q.1 = k
  ·simp only [entM, if_pos e]
  ·simp only [entM, if_neg e]
   rw [entM_some]
   obtain ⟨p, hp, he⟩ := h
   rcases List.mem_cons.1 hp with rfl | hp
   ·exact absurd he e
   ·exact ⟨p, hp, he⟩
theorem entM_at {z : Value} {k : List Int} {l : List (List Int × Value)} {j : Nat} {p : List Int × Value} (_ : (l.map (·.1)).Nodup) (h : l[j]? = some p) (e : p.1 = k) : entM z k l = l := entM_some ⟨p, List.mgE h, e⟩
theorem entM_nodup {z : Value} {k : List Int} {l : List (List Int × Value)} (h : (l.map (·.1)).Nodup) : ((entM z k l).map (·.1)).Nodup := by
 by_cases e : ∃ p ∈ l, p.1 = k
 ·rw [entM_some e]; exact h
 ·have e' : ∀ p ∈ l, p.1 ≠ k := fun p hp he => e ⟨p, hp, he⟩
  rw [entM_none e', List.map_append]
  refine List.nodup_append.2 ⟨h, by simp, ?_⟩
  intro a ha b hb
  simp at hb; subst hb
  obtain ⟨p, hp, rfl⟩ := List.mem_map.1 ha
  exact e' p hp
theorem entM_mem {z : Value} {k : List Int} {l : List (List Int × Value)} {p : List Int × Value} (h : p ∈ entM z k l) : p = (k, z) ∨ p ∈ l := by
 by_cases e : ∃ p ∈ l, p.1 = k
 ·rw [entM_some e] at h; exact .inr h
 ·rw [entM_none fun p hp he => e ⟨p, hp, he⟩] at h
  rcases List.mem_append.1 h with h | h
  ·exact .inr h
  ·simp at h; exact .inl h
theorem putM_keys {s : Nat} {u : Value} {l : List (List Int × Value)} : (putM s u l).map (·.1) = l.map (·.1) := by
 apply List.ext_getElem?
 intro i
 simp only [putM, List.getElem?_map, List.getElem?_modify]
 by_cases h : s = i
 ·subst h; cases l[s]? <;> simp
 ·cases l[i]? <;> simp [h]
theorem putM_mem {s : Nat} {u : Value} {l : List (List Int × Value)} {p : List Int × Value} (h : p ∈ putM s u l) : p.2 = u ∨ p ∈ l := by
 obtain ⟨i, hi⟩ := List.getElem?_of_mem h
 simp only [putM, List.getElem?_modify] at hi
 by_cases e : s = i
 ·subst e
  cases hl : l[s]? with
  | none => simp [hl] at hi
  | some q => simp [hl] at hi; exact .inl (by rw [← hi])
 ·cases hl : l[i]? with
  | none => simp [hl] at hi
  | some q => simp [hl, e] at hi; subst hi; exact .inr (List.mgE hl)
theorem born_modify (es : Array MapEntry) (j : Nat) {f : MapEntry → MapEntry} (hf : ∀ e, (f e).born = e.born) : (es.modify j f).toList.map (·.born) = es.toList.map (·.born) := by
 apply List.ext_getElem?
 intro i
 simp only [List.getElem?_map, Array.getElem?_toList, Array.getElem?_modify]
 by_cases h : j = i
 ·subst h; cases es[j]? <;> simp [hf]
 ·simp [h]
theorem zipV_inj : ∀ {ks : List IntKind} {ns ms : List Int}, ns.length = ks.length → ms.length = ks.length → List.zipWith Value.int ks ns = List.zipWith Value.int ks ms → ns = ms
 | [], ns, ms, h1, h2, _ => by
  simp at h1 h2; subst h1; subst h2; rfl
 | k :: ks, [], ms, h1, h2, _ => by simp at h1
 | k :: ks, n :: ns, [], h1, h2, _ => by simp at h2
 | k :: ks, n :: ns, p :: ms, h1, h2, h => by
  simp only [List.zipWith_cons_cons, List.cons.injEq, Value.int.injEq, true_and] at h
  rw [h.1, zipV_inj (by simpa using h1) (by simpa using h2) h.2]
def KeyOK (P : Program) (kt : TypeId) (ks : List Value) : Prop := ∃ l, keyOf P kt (.agg ks.toArray) = some l
theorem keyRs_spec {P : Program} {kt : TypeId} {rs : List (Nat × IntKind)} (h : keyRs P kt = some rs) : WideMaps.KeyLaw P kt ∧ ∀ ns, FitI rs ns → KeyOK P kt (cellsI rs ns) := by
 unfold keyRs at h
 split at h
 ·rename_i hw
  obtain ⟨ks, hf, h⟩ := bind_some' h
  split at h
  ·rename_i hu
   obtain rfl := Option.some.inj h
   simp only [wideKey, Bool.and_eq_true, decide_eq_true_eq] at hw
   obtain ⟨⟨⟨⟨w1, w2⟩, w3⟩, w4⟩, w5⟩ := hw
   unfold isStructT at w4
   split at w4
   ·rename_i fs hs
    refine ⟨deep_law (m := 4) (by omega) w2 w3 (by rw [hs]), ?_⟩
    rintro ns ⟨_, hfit⟩
    rw [hu] at hfit
    have hk := flat_key 4 _ w5 kt ks _ hf hfit
    have hl := flat_len hf
    have hl2 := hfit.1
    refine ⟨.string (keyBytes ((cellsI (rle ks) ns).map toLit)), ?_⟩
    have hfm : (Value.agg (cellsI (rle ks) ns).toArray).formed P kt = true := by simp [Value.formed, hs, ← hl2, hl]
    have hc : (Value.agg (cellsI (rle ks) ns).toArray).cells.toList = cellsI (rle ks) ns := by simp [Value.cells]
    unfold keyOf
    rw [hs]
    simp only [w1, hfm, hc, hk]
    rfl
   ·simp at w4
  ·simp at h
 ·simp at h
theorem find_of {P : Program} {kt : TypeId} {rs : List (Nat × IntKind)} (hrs : keyRs P kt = some rs) (w : World) {ks : List Int} {l : List (List Int × Value)} {es : Array MapEntry} (hks : FitI rs ks) (hl : ∀ p ∈ l, FitI rs p.1)
  (he : es.toList.map (fun e => (e.key, e.val)) = l.map fun p => (Value.agg (cellsI rs p.1).toArray, p.2)) :
  ((Instr.findKey kt (.agg (cellsI rs ks).toArray) es.toList).run P w = .ok none w ∧ ∀ p ∈ l, p.1 ≠ ks) ∨
   ∃ j e p, (Instr.findKey kt (.agg (cellsI rs ks).toArray) es.toList).run P w = .ok (some (j, e.val)) w ∧ es[j]? = some e ∧ e.key = .agg (cellsI rs ks).toArray ∧ l[j]? = some p ∧ p.1 = ks ∧ e.val = p.2 := by
 obtain ⟨K, hok⟩ := keyRs_spec hrs
 obtain ⟨lx, hlx⟩ := hok ks hks
 have hall : ∀ e ∈ es.toList, ∃ l, keyOf P kt e.key = some l := by
  intro e hm
  obtain ⟨j, hj⟩ := List.getElem?_of_mem hm
  obtain ⟨p, hp, e1, _⟩ := ent_get he hj
  rw [e1]
  exact hok _ (hl p (List.mgE hp))
 rcases K.find w hlx es.toList hall with ⟨h1, h2⟩ | ⟨j, e, h1, h2, h3⟩
 ·refine .inl ⟨h1, ?_⟩
  intro p hp hpe
  obtain ⟨j, hj⟩ := List.getElem?_of_mem hp
  have hlt : j < es.toList.length := by
   have := congrArg List.length he
   simp only [List.length_map] at this
   rw [this]
   exact lt_of_get hj
  obtain ⟨p', hp', e1, _⟩ := ent_get he (List.getElem?_eq_getElem hlt)
  obtain rfl := Option.some.inj (hp'.symm.trans hj)
  exact h2 _ (List.getElem_mem hlt) (by rw [e1, hpe])
 ·obtain ⟨p, hp, e1, e2⟩ := ent_get he h2
  refine .inr ⟨j, e, p, h1, by simpa using h2, h3, hp, ?_, e2⟩
  rw [e1] at h3
  simp only [Value.agg.injEq] at h3
  have h4 : cellsI rs p.1 = cellsI rs ks := by simpa using h3
  exact zipV_inj (hl p (List.mgE hp)).1 hks.1 h4
theorem mp_val {H : Nat → Option EO} {X : Cx} (r : Rel w0 m ρ0 Φ0 H X) {e : EV} {q : Nat × List (Nat × IntKind) × List (List Int × Value)} {v : Value} (h : (asC e).bind (mpOf H) = some q) (hv : VV X e v) :
  H q.1 = some (.mp q.2.1 q.2.2) ∧ (q.2.2.map (·.1)).Nodup ∧ (∀ p ∈ q.2.2, FitI q.2.1 p.1 ∧ p.2.oneCell' = true) ∧ ∃ b es clock, X.ρ q.1 = .map (some b) ∧ v = .map (some b) ∧ X.w.heap[b]? = some (.map es clock) ∧ es.toList.map (fun e => (e.key, e.val)) = (q.2.2.map fun p => (Value.agg (cellsI q.2.1 p.1).toArray, p.2)) ∧ es.toList.map (·.born) = List.range q.2.2.length ∧ clock = q.2.2.length := by
 obtain ⟨c, h1, h2⟩ := bind_some' h
 have hc := VV_c h1 hv
 cases c with
 | mp o =>
  simp only [mpOf] at h2
  split at h2
  ·rename_i rs es hH
   obtain rfl := Option.some.inj h2
   obtain ⟨_, hn, hone, b, es', clock, e1, e2, e3⟩ := r.obj o _ hH
   obtain ⟨_, b', e4, rfl⟩ := hc
   rw [e1] at e4
   simp only [Value.map.injEq, Option.some.injEq] at e4
   subst e4
   exact ⟨hH, hn, hone, b, es', clock, e1, rfl, e2, e3⟩
  ·simp at h2
 | _ => simp [mpOf] at h2
theorem key_val {X : Cx} {e : EV} {rs : List (Nat × IntKind)} {ns : List Int} {v : Value} {cs : List EC} (h1 : asAg e = some cs) (h2 : litK (unrle rs) cs = some ns) (hv : VV X e v) : v = .agg (cellsI rs ns).toArray ∧ FitI rs ns := by
 obtain ⟨vs, rfl, ha⟩ := VV_ag h1 hv
 obtain ⟨q1, q2, q3⟩ := litK_spec h2
 rw [q2] at ha
 rw [All2_litcs ha]
 exact ⟨rfl, q1, q3⟩
theorem zeroInt_spec {P : Program} {et : TypeId} {q : IntKind} (h : zeroInt P et = some q) (w : World) : (zeroValue et).run P w = .ok (.int q 0) w := by
 unfold zeroInt at h
 split at h
 ·rename_i q' hz
  obtain rfl := Option.some.inj h
  obtain ⟨i, hi, hzi⟩ := bind_some' hz
  exact run_zeroValue hi hzi
 ·simp at h
theorem g_mget {t kt et : TypeId} {rs : List (Nat × IntKind)} {zq : IntKind} {x k : Operand} (ho : o.op = .lookup t x k false) (hu : P.underlying t = some (.map kt et)) (hrs : keyRs P kt = some rs) (hz : zeroInt P et = some zq)
  (r : Rel w0 m ρ0 Φ0 H X) (ha : All2 (VV X) T a.tmps.toList) {v : EV} {ob : Option EO} (h : evQ (.mget rs zq (opd x) (opd k)) T H id = some (v, ob)) : Good P o a w0 m ρ0 Φ0 H X id v ob := by
 simp only [evQ] at h
 replace h := bind_some' h; obtain ⟨c, h1, h⟩ := h
 replace h := bind_some' h; obtain ⟨q, h2, h⟩ := h
 replace h := bind_some' h; obtain ⟨cs, h3, h⟩ := h
 replace h := bind_some' h; obtain ⟨ns, h4, h⟩ := h
 split at h
 ·rename_i hr
  simp only [Option.some.injEq, Prod.mk.injEq] at h
  obtain ⟨rfl, rfl⟩ := h
  obtain ⟨hH, hn, hone, b, es, clock, e1, e2, e3, e4, e7, e8⟩ := mp_val r (q := q) (e := ev T (opd x)) (by rw [h1]; exact h2) (VV_ev ha x)
  rw [hr] at hone e4
  obtain ⟨e5, hfit⟩ := key_val h3 h4 (VV_ev ha k)
  obtain ⟨KL, hok⟩ := keyRs_spec hrs
  obtain ⟨lx, hlx⟩ := hok ns hfit
  refine .pure r (val := getM (.int zq 0) ns q.2.2) ?_ (VV_mklit (getM_one rfl fun p hp => (hone p hp).2))
  rcases find_of hrs X.w hfit (fun p hp => (hone p hp).1) e4 with ⟨f1, f2⟩ | ⟨j, e, p, f1, f2, f3, f4, f5, f6⟩
  ·simp [execOp, ho, Instr.lookup, run_underlying hu, e2, e5, MapKept.run_getObj_map e3, KL.check X.w _ hlx, f1, zeroInt_spec hz, getM_none f2]
  ·simp [execOp, ho, Instr.lookup, run_underlying hu, e2, e5, MapKept.run_getObj_map e3, KL.check X.w _ hlx, f1, f6, getM_at hn f4 f5]
 ·simp at h
theorem quiet_sound {q : QOp} (hc : cop P o = some q) (r : Rel w0 m ρ0 Φ0 H X) (ha : All2 (VV X) T a.tmps.toList) (hid : ¬ X.U id) (hm : m ≤ id) {v : EV} {ob : Option EO} (h : evQ q T H id = some (v, ob)) : Good P o a w0 m ρ0 Φ0 H X id v ob := by
 unfold cop at hc
 split at hc
 ·rename_i x ho
  obtain rfl := Option.some.inj hc
  exact g_mov (.inl ho) r ha h
 ·rename_i x ho
  obtain rfl := Option.some.inj hc
  exact g_mov (.inr ho) r ha h
 ·rename_i c x y ho
  obtain rfl := Option.some.inj hc
  exact g_pick ho r ha h
 ·rename_i op t x ho
  obtain rfl := Option.some.inj hc
  exact g_un ho r ha h
 ·rename_i op t x y t' ho
  split at hc
  ·exact g_eqopW ho (.inl ⟨rfl, rfl⟩) hc r ha h
  ·exact g_eqopW ho (.inr ⟨rfl, rfl⟩) hc r ha h
  ·obtain rfl := Option.some.inj hc; exact g_bin ho r ha h
 ·rename_i s d x ho
  split at hc
  ·rename_i k' k hs hd
   obtain rfl := Option.some.inj hc
   exact g_cnv ho hs hd r ha h
  ·rename_i e hs hd
   split at hc
   ·rename_i he; obtain rfl := Option.some.inj hc; exact g_b2s ho hs he hd r ha h
   ·simp at hc
  ·rename_i e hs hd
   split at hc
   ·rename_i he; obtain rfl := Option.some.inj hc; exact g_s2b ho hs hd he r ha h
   ·simp at hc
  ·simp at hc
 ·rename_i t ho
  replace hc := map_some' hc; obtain ⟨z, hz, rfl⟩ := hc
  exact g_alloc ho hz r hid hm h
 ·rename_i t x ho
  obtain rfl := Option.some.inj hc
  exact g_box ho r ha hid hm h
 ·rename_i t parts ho
  replace hc := bind_some' hc; obtain ⟨z, hz, hc⟩ := hc
  split at hc
  ·rename_i fs hu
   replace hc := bind_some' hc; obtain ⟨pl, hpl, hc⟩ := hc
   replace hc := map_some' hc; obtain ⟨ps, hps, rfl⟩ := hc
   exact g_build ho hz (.inl ⟨fs, pl, hu, hpl, hps⟩) r ha h
  ·rename_i l e hu
   replace hc := bind_some' hc; obtain ⟨n, hn, hc⟩ := hc
   replace hc := map_some' hc; obtain ⟨ps, hps, rfl⟩ := hc
   exact g_build ho hz (.inr ⟨l, e, n, hu, hn, hps⟩) r ha h
  ·simp at hc
 ·rename_i t len parts ho
  split at hc
  ·rename_i e hu
   replace hc := bind_some' hc; obtain ⟨es, hes, hc⟩ := hc
   replace hc := bind_some' hc; obtain ⟨z, hz, hc⟩ := hc
   split at hc
   ·rename_i hb
    obtain rfl := Option.some.inj hc
    exact g_bsl ho hu hes hz hb.1 hb.2.1 hb.2.2 r ha h
   ·simp at hc
  ·simp at hc
 ·rename_i t x ho
  replace hc := bind_some' hc; obtain ⟨ag, hag, hc⟩ := hc
  split at hc
  ·rename_i hag1
   rw [hag1] at hag
   replace hc := map_some' hc; obtain ⟨n, hn, rfl⟩ := hc
   exact g_lda ho hag hn r ha h
  ·rename_i hag1
   rw [Bool.eq_false_iff.2 hag1] at hag
   obtain rfl := Option.some.inj hc
   exact g_ldc ho hag r ha h
 ·rename_i x ho
  obtain rfl := Option.some.inj hc
  exact g_nilc ho r ha h
 ·rename_i t x ho
  split at hc
  ·rename_i n e hu
   replace hc := map_some' hc; obtain ⟨es, hes, rfl⟩ := hc
   exact g_s2a ho hu r ha h
  ·simp at hc
 ·rename_i s x f ho
  replace hc := bind_some' hc; obtain ⟨fl, hf, hc⟩ := hc
  replace hc := bind_some' hc; obtain ⟨n, hn, hc⟩ := hc
  split at hc
  ·simp at hc
  ·rename_i hz
   obtain rfl := Option.some.inj hc
   exact g_fad ho hf hn hz r ha h
 ·rename_i s x f ho
  replace hc := bind_some' hc; obtain ⟨fl, hf, hc⟩ := hc
  replace hc := bind_some' hc; obtain ⟨ag, hag, hc⟩ := hc
  split at hc
  ·rename_i hag1
   rw [hag1] at hag
   replace hc := map_some' hc; obtain ⟨n, hn, rfl⟩ := hc
   exact g_fga ho hf hag hn r ha h
  ·rename_i hag1
   rw [Bool.eq_false_iff.2 hag1] at hag
   obtain rfl := Option.some.inj hc
   exact g_fgc ho hf hag r ha h
 ·rename_i t x i ho
  split at hc
  ·rename_i len e hu
   replace hc := map_some' hc; obtain ⟨es, hes, rfl⟩ := hc
   exact g_iad ho hu hes r ha h
  ·rename_i e hu
   replace hc := bind_some' hc; obtain ⟨es, hes, hc⟩ := hc
   split at hc
   ·rename_i h0; obtain rfl := Option.some.inj hc; exact g_isl ho hu hes h0 r ha h
   ·simp at hc
  ·simp at hc
 ·rename_i t x k ho
  split at hc
  ·rename_i kt et hu
   replace hc := bind_some' hc; obtain ⟨rs, hrs, hc⟩ := hc
   replace hc := map_some' hc; obtain ⟨zq, hz, rfl⟩ := hc
   exact g_mget ho hu hrs hz r ha h
  ·simp at hc
 ·rename_i t x i ho
  split at hc
  ·rename_i hu; obtain rfl := Option.some.inj hc; exact g_ixs ho hu r ha h
  ·simp at hc
 ·rename_i t x lo hi ho
  split at hc
  ·rename_i len e hu
   replace hc := bind_some' hc; obtain ⟨es, hes, hc⟩ := hc
   split at hc
   ·rename_i h1; subst h1; obtain rfl := Option.some.inj hc; exact g_sar ho hu hes r ha h
   ·simp at hc
  ·rename_i e hu
   replace hc := bind_some' hc; obtain ⟨es, hes, hc⟩ := hc
   split at hc
   ·obtain rfl := Option.some.inj hc; exact g_ssl ho hu hes r ha h
   ·simp at hc
  ·rename_i hu; obtain rfl := Option.some.inj hc; exact g_sst ho hu r ha h
  ·simp at hc
 ·rename_i t x hi mx ho
  split at hc
  ·rename_i e hu
   replace hc := map_some' hc; obtain ⟨es, hes, rfl⟩ := hc
   exact g_sl3 ho hu hes r ha h
  ·simp at hc
 ·rename_i x i ho
  obtain rfl := Option.some.inj hc
  exact g_ext ho r ha h
 ·rename_i f first caps ho
  split at hc
  ·rename_i h0; obtain rfl := Option.some.inj hc; exact g_mkf ho h0 r ha h
  ·simp at hc
 ·rename_i t x ho
  split at hc
  ·simp at hc
  ·rename_i d hd hu; obtain rfl := Option.some.inj hc; exact g_mki ho hu (fun ms e => hd ms e) r ha h
  ·simp at hc
 ·rename_i t l c ho
  split at hc
  ·rename_i e hu
   replace hc := bind_some' hc; obtain ⟨i, hi, hc⟩ := hc
   replace hc := bind_some' hc; obtain ⟨z, hz, hc⟩ := hc
   split at hc
   ·rename_i hb; obtain rfl := Option.some.inj hc; exact g_mks ho hu hi hz hb.2 r ha hid hm h
   ·simp at hc
  ·simp at hc
 ·rename_i args ts ho
  split at hc
  ·rename_i x t hx ht
   split at hc
   ·rename_i e hu; obtain rfl := Option.some.inj hc; exact g_len ho hx ht hu r ha h
   ·rename_i hu; obtain rfl := Option.some.inj hc; exact g_lens ho hx ht hu r ha h
   ·simp at hc
  ·simp at hc
 ·rename_i args ts ho
  split at hc
  ·obtain rfl := Option.some.inj hc; exact g_minmax (mx := false) (by simpa using ho) r ha h
  ·simp at hc
 ·rename_i args ts ho
  split at hc
  ·obtain rfl := Option.some.inj hc; exact g_minmax (mx := true) (by simpa using ho) r ha h
  ·simp at hc
 ·simp at hc
theorem quiet_soundR {q : QOp} (hc : copR P o = some q) (r : Rel w0 m ρ0 Φ0 H X) (ha : All2 (VV X) T a.tmps.toList) (hid : ¬ X.U id) (hm : m ≤ id) {v : EV} {ob : Option EO} (h : evQ q T H id = some (v, ob)) : Good P o a w0 m ρ0 Φ0 H X id v ob := by
 unfold copR at hc
 split at hc
 ·rename_i t len parts ho
  split at hc
  ·rename_i e hu
   replace hc := bind_some' hc; obtain ⟨es, hes, hc⟩ := hc
   replace hc := bind_some' hc; obtain ⟨z, hz, hc⟩ := hc
   split at hc
   ·rename_i hb
    obtain rfl := Option.some.inj hc
    exact g_bsr ho hu hes hz hb.1 hb.2.1 hb.2.2 r ha hid hm h
   ·simp at hc
  ·simp at hc
 ·simp at hc
end
end Go.EW
